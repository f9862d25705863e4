/- The characters of a text, in the program and in the document's answer. -/
import Derived.Test.YtdbahgjfbleocaaDoorVlC
import Derived.Test.YtdbahgjfbleocaaDoorPx0
import Derived.Test.YtdbahgjfbleocaaDoorPx5
import Derived.Test.YtdbahgjfbleocaaDoorPx7
import Derived.Test.YtdbahgjfbleocaaDoorPx8
import Derived.Test.YtdbahgjfbleocaaDoorPx9
namespace Go.Proofs.YtdbahgjfbleocaaDoor.Vl
open Go.RowKit Go.Proofs.YtdbahgjfbleocaaDoor.P Go.Proofs.YtdbahgjfbleocaaDoor.Nm Go.Proofs.YtdbahgjfbleocaaDoorW.PrintWords Go.Proofs.YtdbahgjfbleocaaDoorW.PrintLast
set_option linter.unusedVariables false
set_option linter.unusedSimpArgs false

theorem bt_get! (s : ByteArray) (i : Nat) : bt s (i : Int) = ((s.get! i).toNat : Int) := by
  unfold bt
  simp only [Int.toNat_natCast]
  by_cases h : i < s.size
  · rw [dif_pos h, X.get_ s i h]
  · rw [dif_neg h]
    have : s.get! i = 0 := by
      show s.data[i]! = 0
      rw [getElem!_neg _ _ (by simpa using h)]
      rfl
    rw [this]
    rfl
/-- how many bytes the first character has, by its bytes -/
def wd (n b0 b1 b2 b3 : Int) : Int :=
  if b0 < 128 then 1
  else if 194 ≤ b0 ∧ b0 ≤ 223 then (if n < 2 ∨ b1 < 128 ∨ b1 > 191 then 1 else 2)
  else if 224 ≤ b0 ∧ b0 ≤ 239 then (if n < 3 ∨ b1 < (if b0 = 224 then 160 else 128) ∨ b1 > (if b0 = 237 then 159 else 191) ∨ b2 < 128 ∨ b2 > 191 then 1 else 3)
  else if 240 ≤ b0 ∧ b0 ≤ 244 then (if n < 4 ∨ b1 < (if b0 = 240 then 144 else 128) ∨ b1 > (if b0 = 244 then 143 else 191) ∨ b2 < 128 ∨ b2 > 191 ∨ b3 < 128 ∨ b3 > 191 then 1 else 4)
  else 1
set_option maxHeartbeats 4000000 in
theorem wd_is (n b0 b1 b2 b3 : Nat) (h0 : b0 < 256) (h1 : b1 < 256) (h2 : b2 < 256) (h3 : b3 < 256) : ((Lib.decodeN n b0 b1 b2 b3).2 : Int) = wd n b0 b1 b2 b3 := by
  unfold wd
  rcases Lib.decodeN_shape n b0 b1 b2 b3 with ⟨c, e⟩ | ⟨c1, c2, c3, cv, e⟩ | ⟨c1, c2, c3, c4, cv, cs, e⟩ | ⟨c1, c2, c3, c4, c5, cv, cw, e⟩ | e
  · rw [e, if_pos (by omega)]; rfl
  · rw [e, if_neg (by omega), if_pos (by omega), if_neg (by omega)]; rfl
  · rw [e, if_neg (by omega), if_neg (by omega), if_pos (by omega)]
    rw [if_neg (by split <;> split <;> omega)]; rfl
  · rw [e, if_neg (by omega), if_neg (by omega), if_neg (by omega), if_pos (by omega)]
    rw [if_neg (by split <;> split <;> omega)]; rfl
  · rw [e]
    have e2 := e
    unfold Lib.decodeN at e2
    by_cases a : b0 < 128
    · rw [if_pos a] at e2
      injection e2 with e2 _
      omega
    rw [if_neg a] at e2
    rw [if_neg (by omega)]
    by_cases b : b0 / 32 = 6 ∧ (1 < n ∧ b1 / 64 = 2)
    · rw [if_pos b] at e2
      by_cases c : b0 % 32 * 64 + b1 % 64 ≥ 128
      · rw [if_pos c] at e2; injection e2 with _ e2; omega
      · rw [if_neg (by omega), if_neg (by omega), if_neg (by omega)]; rfl
    rw [if_neg b] at e2
    by_cases p2 : (194 : Int) ≤ b0 ∧ (b0 : Int) ≤ 223
    · rw [if_pos p2, if_pos (by omega)]; rfl
    rw [if_neg p2]
    by_cases p3 : (224 : Int) ≤ b0 ∧ (b0 : Int) ≤ 239
    · rw [if_pos p3]
      by_cases d : b0 / 16 = 14 ∧ (1 < n ∧ b1 / 64 = 2) ∧ (2 < n ∧ b2 / 64 = 2)
      · rw [if_pos d] at e2
        split at e2
        · injection e2 with _ e2; omega
        · rw [if_pos (by split <;> split <;> omega)]; rfl
      · rw [if_pos (by split <;> split <;> omega)]; rfl
    rw [if_neg p3]
    by_cases p4 : (240 : Int) ≤ b0 ∧ (b0 : Int) ≤ 244
    · rw [if_pos p4]
      rw [if_neg (by omega)] at e2
      by_cases d : b0 / 8 = 30 ∧ (1 < n ∧ b1 / 64 = 2) ∧ (2 < n ∧ b2 / 64 = 2) ∧ (3 < n ∧ b3 / 64 = 2)
      · rw [if_pos d] at e2
        split at e2
        · injection e2 with _ e2; omega
        · rw [if_pos (by split <;> split <;> omega)]; rfl
      · rw [if_pos (by split <;> split <;> omega)]; rfl
    rw [if_neg p4]; rfl
theorem width_l (s : ByteArray) (n : Int) (hn : n = 2 ∨ n = 3 ∨ n = 4) (hs : n ≤ s.size) : Ev (fun k => octavoref06_width.l0 k s n 2) (if n = 2 then 2 else if bt s 2 < 128 ∨ bt s 2 > 191 then 1 else if n = 3 then 3 else if bt s 3 < 128 ∨ bt s 3 > 191 then 1 else 4) := by
  have fin : Ev (fun k => octavoref06_width.l0 k s n n) n := E.succ (E.neg (by omega) (Ev.now _))
  have st : ∀ (i : Int) (r : Int), i < n → 0 ≤ i → Ev (fun k => octavoref06_width.l0 k s n (i + 1)) r → Ev (fun k => octavoref06_width.l0 k s n i) (if bt s i < 128 ∨ bt s i > 191 then 1 else r) := by
    intro i r h1 h0 hr
    refine E.succ (E.pos h1 (E.pos h0 (E.pos (by omega) (E.ite (fun c => ?_) (fun c => E.ite (fun d => ?_) (fun d => ?_))))))
    · rw [if_pos (.inl c)]; exact Ev.now _
    · rw [if_pos (.inr d)]; exact Ev.now _
    · rw [if_neg (by omega), E.w64 (by omega) (by omega)]; exact hr
  rcases hn with rfl | rfl | rfl
  · rw [if_pos rfl]; exact fin
  · exact E.is (st 2 3 (by omega) (by omega) fin) (by simp)
  · exact E.is (st 2 _ (by omega) (by omega) (st 3 4 (by omega) (by omega) fin)) (by simp)
theorem width_is {s : ByteArray} (h : 0 < s.size) : Ev (fun k => octavoref06_width.f k s) ((Utf8.decode s 0).2 : Int) := by
  have k0 := (s.get! 0).toNat_lt
  have k1 := (s.get! 1).toNat_lt
  have k2 := (s.get! 2).toNat_lt
  have k3 := (s.get! 3).toNat_lt
  have g0 := bt_get! s 0
  have g1 := bt_get! s 1
  have g2 := bt_get! s 2
  have g3 := bt_get! s 3
  rw [Lib.decode_at, Nat.sub_zero, Nat.zero_add, Nat.zero_add, Nat.zero_add, wd_is _ _ _ _ _ k0 k1 k2 k3, ← g0, ← g1, ← g2, ← g3]
  have e0 : ((0 : Nat) : Int) = 0 := rfl
  have e1 : ((1 : Nat) : Int) = 1 := rfl
  have e2 : ((2 : Nat) : Int) = 2 := rfl
  have e3 : ((3 : Nat) : Int) = 3 := rfl
  rw [e0, e1, e2, e3]
  have b0 : 0 ≤ bt s 0 ∧ bt s 0 ≤ 255 := bt_range s 0
  have j4 : ∀ (n : Int) (x : Bool), Ev (fun k => octavoref06_width.j4 k s n true) 1 := fun n x => by
    refine E.succ ?_
    simp only [octavoref06_width.j4]
    exact E.pos trivial (Ev.now _)
  have j3 : ∀ (n lo hi : Int), (n = 2 ∨ n = 3 ∨ n = 4) → Ev (fun k => octavoref06_width.j3 k s n lo hi) (if (s.size : Int) < n ∨ bt s 1 < lo ∨ bt s 1 > hi then 1 else if n = 2 then 2 else if bt s 2 < 128 ∨ bt s 2 > 191 then 1 else if n = 3 then 3 else if bt s 3 < 128 ∨ bt s 3 > 191 then 1 else 4) := by
    intro n lo hi hn
    refine E.succ ?_
    simp only [octavoref06_width.j3]
    refine E.ite (fun c => ?_) (fun c => E.pos (by omega) (E.ite (fun d => ?_) (fun d => ?_)))
    · rw [if_pos (.inl c)]; exact j4 n true
    · rw [if_pos (.inr (.inl d))]; exact j4 n true
    · by_cases f : bt s 1 > hi
      · rw [if_pos (.inr (.inr f)), show decide (bt s 1 > hi) = true from decide_eq_true f]; exact j4 n true
      · rw [if_neg (by omega), show decide (bt s 1 > hi) = false from decide_eq_false f]
        refine E.succ ?_
        simp only [octavoref06_width.j4]
        exact E.neg (by decide) (width_l s n hn (by omega))
  have j2 : ∀ x : Bool, x = decide (240 ≤ bt s 0 ∧ bt s 0 ≤ 244) → ¬ bt s 0 < 240 ∨ x = false → Ev (fun k => octavoref06_width.j2 k s (bt s 0) 128 191 x) (if x = true then (if (s.size : Int) < 4 ∨ bt s 1 < (if bt s 0 = 240 then 144 else 128) ∨ bt s 1 > (if bt s 0 = 244 then 143 else 191) then 1 else if bt s 2 < 128 ∨ bt s 2 > 191 then 1 else if bt s 3 < 128 ∨ bt s 3 > 191 then 1 else 4) else 1) := by
    intro x hx _
    refine E.succ ?_
    simp only [octavoref06_width.j2]
    refine ite_same (fun _ => ?_) (fun _ => Ev.now _)
    have J := fun lo hi => j3 4 lo hi (.inr (.inr rfl))
    simp only [show ((4 : Int) = 2) = False by simp, show ((4 : Int) = 3) = False by simp, if_false] at J
    refine E.ite (fun c => E.ite (fun d => ?_) (fun d => ?_)) (fun c => E.ite (fun d => ?_) (fun d => ?_))
    · omega
    · rw [if_pos c, if_neg (c := bt s 0 = 244) d]; exact J 144 191
    · rw [if_neg (c := bt s 0 = 240) c, if_pos d]; exact J 128 143
    · rw [if_neg (c := bt s 0 = 240) c, if_neg (c := bt s 0 = 244) d]; exact J 128 191
  have j1 : ∀ x : Bool, x = decide (224 ≤ bt s 0 ∧ bt s 0 ≤ 239) → Ev (fun k => octavoref06_width.j1 k s (bt s 0) 128 191 x) (if x = true then (if (s.size : Int) < 3 ∨ bt s 1 < (if bt s 0 = 224 then 160 else 128) ∨ bt s 1 > (if bt s 0 = 237 then 159 else 191) then 1 else if bt s 2 < 128 ∨ bt s 2 > 191 then 1 else 3) else if 240 ≤ bt s 0 ∧ bt s 0 ≤ 244 then (if (s.size : Int) < 4 ∨ bt s 1 < (if bt s 0 = 240 then 144 else 128) ∨ bt s 1 > (if bt s 0 = 244 then 143 else 191) then 1 else if bt s 2 < 128 ∨ bt s 2 > 191 then 1 else if bt s 3 < 128 ∨ bt s 3 > 191 then 1 else 4) else 1) := by
    intro x hx
    refine E.succ ?_
    simp only [octavoref06_width.j1]
    refine ite_same (fun _ => ?_) (fun _ => ?_)
    · have J := fun lo hi => j3 3 lo hi (.inr (.inl rfl))
      simp only [show ((3 : Int) = 2) = False by simp, show ((3 : Int) = 3) = True by simp, if_false, if_true] at J
      refine E.ite (fun c => E.ite (fun d => ?_) (fun d => ?_)) (fun c => E.ite (fun d => ?_) (fun d => ?_))
      · omega
      · rw [if_pos c, if_neg (c := bt s 0 = 237) d]; exact J 160 191
      · rw [if_neg (c := bt s 0 = 224) c, if_pos d]; exact J 128 159
      · rw [if_neg (c := bt s 0 = 224) c, if_neg (c := bt s 0 = 237) d]; exact J 128 191
    · have J := j2 (decide (240 ≤ bt s 0 ∧ bt s 0 ≤ 244)) rfl
      simp only [decide_eq_true_eq, decide_eq_false_iff_not] at J
      refine E.ite (fun c => ?_) (fun c => ?_)
      · rw [show decide (bt s 0 ≤ 244) = decide (240 ≤ bt s 0 ∧ bt s 0 ≤ 244) by simp; omega]
        exact J (.inl (by omega))
      · rw [show (false : Bool) = decide (240 ≤ bt s 0 ∧ bt s 0 ≤ 244) by simp; omega]
        exact J (.inr (by omega))
  refine E.pos (by omega) ?_
  unfold wd
  refine E.ite (fun c => ?_) (fun c => ?_)
  · rw [if_pos c]; exact Ev.now _
  rw [if_neg c]
  have j0 : ∀ x : Bool, x = decide (194 ≤ bt s 0 ∧ bt s 0 ≤ 223) → Ev (fun k => octavoref06_width.j0 k s (bt s 0) 128 191 x) (if 194 ≤ bt s 0 ∧ bt s 0 ≤ 223 then (if (s.size : Int) < 2 ∨ bt s 1 < 128 ∨ bt s 1 > 191 then 1 else 2)
      else if 224 ≤ bt s 0 ∧ bt s 0 ≤ 239 then (if (s.size : Int) < 3 ∨ bt s 1 < (if bt s 0 = 224 then 160 else 128) ∨ bt s 1 > (if bt s 0 = 237 then 159 else 191) ∨ bt s 2 < 128 ∨ bt s 2 > 191 then 1 else 3)
      else if 240 ≤ bt s 0 ∧ bt s 0 ≤ 244 then (if (s.size : Int) < 4 ∨ bt s 1 < (if bt s 0 = 240 then 144 else 128) ∨ bt s 1 > (if bt s 0 = 244 then 143 else 191) ∨ bt s 2 < 128 ∨ bt s 2 > 191 ∨ bt s 3 < 128 ∨ bt s 3 > 191 then 1 else 4) else 1) := by
    intro x hx
    refine E.succ ?_
    simp only [octavoref06_width.j0]
    by_cases a : 194 ≤ bt s 0 ∧ bt s 0 ≤ 223
    · rw [if_pos a]
      refine E.pos (by rw [hx]; exact decide_eq_true a) ?_
      have J := j3 2 128 191 (.inl rfl)
      simp only [if_true] at J
      exact J
    rw [if_neg a]
    refine E.neg (by rw [hx]; simpa using a) ?_
    have J := j1 (decide (224 ≤ bt s 0 ∧ bt s 0 ≤ 239)) rfl
    simp only [decide_eq_true_eq] at J
    have J2 : Ev (fun k => octavoref06_width.j1 k s (bt s 0) 128 191 (decide (224 ≤ bt s 0 ∧ bt s 0 ≤ 239))) (if 224 ≤ bt s 0 ∧ bt s 0 ≤ 239 then (if (s.size : Int) < 3 ∨ bt s 1 < (if bt s 0 = 224 then 160 else 128) ∨ bt s 1 > (if bt s 0 = 237 then 159 else 191) ∨ bt s 2 < 128 ∨ bt s 2 > 191 then 1 else 3)
      else if 240 ≤ bt s 0 ∧ bt s 0 ≤ 244 then (if (s.size : Int) < 4 ∨ bt s 1 < (if bt s 0 = 240 then 144 else 128) ∨ bt s 1 > (if bt s 0 = 244 then 143 else 191) ∨ bt s 2 < 128 ∨ bt s 2 > 191 ∨ bt s 3 < 128 ∨ bt s 3 > 191 then 1 else 4) else 1) := by
      refine E.is J ?_
      generalize (if bt s 0 = 224 then (160 : Int) else 128) = l1
      generalize (if bt s 0 = 237 then (159 : Int) else 191) = l2
      generalize (if bt s 0 = 240 then (144 : Int) else 128) = l3
      generalize (if bt s 0 = 244 then (143 : Int) else 191) = l4
      repeat' split
      all_goals first | rfl | (exfalso; omega)
    refine E.ite (fun d => ?_) (fun d => ?_)
    · rw [show decide (bt s 0 ≤ 239) = decide (224 ≤ bt s 0 ∧ bt s 0 ≤ 239) by simp; omega]
      exact J2
    · rw [show (false : Bool) = decide (224 ≤ bt s 0 ∧ bt s 0 ≤ 239) by simp; omega]
      exact J2
  refine E.ite (fun d => ?_) (fun d => ?_)
  · rw [show decide (bt s 0 ≤ 223) = decide (194 ≤ bt s 0 ∧ bt s 0 ≤ 223) by simp; omega]
    exact j0 _ rfl
  · rw [show (false : Bool) = decide (194 ≤ bt s 0 ∧ bt s 0 ≤ 223) by simp; omega]
    exact j0 _ rfl

/-! ### the characters -/
/-- the characters from a place on (at most m of them) -/
def chs (s : ByteArray) : Nat → Nat → List ByteArray
  | 0, _ => []
  | m + 1, pos => if pos < s.size then s.extract pos (pos + (Utf8.decode s pos).2) :: chs s m (pos + (Utf8.decode s pos).2) else []
theorem tail_dec (s : ByteArray) (n pos : Nat) : Utf8.decode (s.extract n s.size) pos = Utf8.decode s (n + pos) := by
  have gt : ∀ i, (s.extract n s.size).get! i = s.get! (n + i) := by
    intro i
    by_cases h : n + i < s.size
    · rw [X.get_ _ i (by rw [ByteArray.size_extract]; omega), X.get_ s (n + i) h]
      exact ByteArray.getElem_extract ..
    · have z : ∀ (t : ByteArray) (j : Nat), ¬ j < t.size → t.get! j = 0 := by
        intro t j h
        show t.data[j]! = 0
        rw [getElem!_neg _ _ (by simpa using h)]
        rfl
      rw [z _ i (by rw [ByteArray.size_extract]; omega), z s (n + i) h]
  rw [Lib.decode_at, Lib.decode_at, gt, gt, gt, gt, ByteArray.size_extract]
  rw [show min s.size s.size - n - pos = s.size - (n + pos) by omega]
  simp only [Nat.add_assoc]
theorem Chars_l {s : ByteArray} (hs : s.size ≤ 8796093022207) : ∀ (m pos : Nat) (l : List ByteArray), s.size ≤ pos + m → l.length ≤ pos → Ev (fun k => value_Chars.l0 k s pos l) (l ++ chs s m pos) := by
  intro m
  induction m with
  | zero =>
    intro pos l h1 h2
    refine E.succ (E.neg (by omega) ?_)
    simp only [chs, List.append_nil]
    exact Ev.now _
  | succ m ih =>
    intro pos l h1 h2
    unfold chs
    by_cases c : pos < s.size
    · rw [if_pos c]
      obtain ⟨d1, d2, _⟩ := X.dec_facts s pos c
      refine E.succ (E.pos c (E.pos (by omega) ?_))
      have := ih (pos + (Utf8.decode s pos).2) (l ++ [s.extract pos (pos + (Utf8.decode s pos).2)]) (by omega) (by simp; omega)
      rw [List.append_assoc] at this
      exact this
    · rw [if_neg c, List.append_nil]
      exact E.succ (E.neg c (Ev.now _))
theorem rChars_l {s : ByteArray} (hs : s.size ≤ 8796093022207) : ∀ (m pos : Nat) (l : List ByteArray), s.size ≤ pos + m → pos ≤ s.size → l.length ≤ pos → Ev (fun k => octavoref06_Chars.l0 k (s.extract pos s.size) l) (l ++ chs s m pos) := by
  have base : ∀ (pos : Nat) (l : List ByteArray), ¬ pos < s.size → Ev (fun k => octavoref06_Chars.l0 k (s.extract pos s.size) l) l := fun pos l h => by
    refine E.succ (E.pos ((nil_iff _).2 ?_) (Ev.now _))
    rw [ByteArray.size_extract]; omega
  intro m
  induction m with
  | zero =>
    intro pos l h1 h0 h2
    simp only [chs, List.append_nil]
    exact base pos l (by omega)
  | succ m ih =>
    intro pos l h1 h0 h2
    unfold chs
    by_cases c : pos < s.size
    · rw [if_pos c]
      obtain ⟨d1, d2, _⟩ := X.dec_facts s pos c
      have sz' : (s.extract pos s.size).size = s.size - pos := by rw [ByteArray.size_extract]; omega
      have w := width_is (s := s.extract pos s.size) (by omega)
      rw [tail_dec, Nat.add_zero] at w
      refine E.succ (E.neg (fun h => by have := (nil_iff _).1 h; omega) (Ev.bind w (E.pos (by omega) (E.pos (by omega) (E.pos (by omega) ?_)))))
      have e1 : (s.extract pos s.size).extract 0 (((Utf8.decode s pos).2 : Int)).toNat = s.extract pos (pos + (Utf8.decode s pos).2) := by
        rw [Int.toNat_natCast, ByteArray.extract_extract, Nat.add_zero, Nat.min_eq_left (by omega)]
      have e2 : (s.extract pos s.size).extract (((Utf8.decode s pos).2 : Int)).toNat (s.extract pos s.size).size = s.extract (pos + (Utf8.decode s pos).2) s.size := by
        rw [Int.toNat_natCast, ByteArray.extract_extract, sz', show min (pos + (s.size - pos)) s.size = s.size by omega]
      rw [e1, e2]
      have := ih (pos + (Utf8.decode s pos).2) (l ++ [s.extract pos (pos + (Utf8.decode s pos).2)]) (by omega) (by omega) (by simp; omega)
      rw [List.append_assoc] at this
      exact this
    · rw [if_neg c, List.append_nil]
      exact base pos l c
/-- all characters of a text -/
def chars (s : ByteArray) : List ByteArray := chs s s.size 0
theorem Chars_is {s : ByteArray} (hs : s.size ≤ 8796093022207) : Ev (fun k => value_Chars.f k s) (chars s) :=
  E.pos (by omega) (Chars_l hs s.size 0 [] (by omega) (by simp))
theorem rChars_is {s : ByteArray} (hs : s.size ≤ 8796093022207) : Ev (fun k => octavoref06_Chars.f k s) (chars s) := by
  have := rChars_l hs s.size 0 [] (by omega) (by omega) (by simp)
  rw [show s.extract 0 s.size = s from ByteArray.extract_zero_size] at this
  exact this
theorem chs_len (s : ByteArray) : ∀ (m pos : Nat), (chs s m pos).length ≤ m := by
  intro m
  induction m with
  | zero => intro pos; simp [chs]
  | succ m ih =>
    intro pos
    unfold chs
    split
    · simp; exact ih _
    · simp
theorem Texts_is (l : List ByteArray) (hl : l.length ≤ 9223372036854775806) : Ev (fun k => octavoref01_Texts.f k l l) true := by
  have go : ∀ (m i : Nat), i + m = l.length → Ev (fun k => octavoref01_Texts.l0 k l l (l.length : Int) i) true := by
    intro m
    induction m with
    | zero => intro i h; exact E.succ (E.neg (by omega) (Ev.now _))
    | succ m ih =>
      intro i h
      refine E.succ (E.pos (by omega) (E.pos (by omega) (E.pos (by omega) (E.pos (by omega) (E.pos rfl ?_)))))
      rw [show wrap64 ((i : Int) + 1) = ((i + 1 : Nat) : Int) by rw [E.w64 (by omega) (by omega)]; omega]
      exact ih (i + 1) (by omega)
  exact E.pos rfl (go l.length 0 (by omega))
end Go.Proofs.YtdbahgjfbleocaaDoor.Vl
