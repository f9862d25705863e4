/- References read out of texts. -/
import Derived.Test.YtbpckmbepgojfaaDoorAdB
import Derived.Test.YtbpckmbepgojfaaDoorPx0
import Derived.Test.YtbpckmbepgojfaaDoorPx2
import Derived.Test.YtbpckmbepgojfaaDoorPx3
namespace Go.Proofs.YtbpckmbepgojfaaDoor.Ad
open Go.RowKit Go.Proofs.YtbpckmbepgojfaaDoor.P Go.Proofs.YtbpckmbepgojfaaDoor.Nm Go.Proofs.YtbpckmbepgojfaaDoorW.PrintWords Go.Proofs.YtbpckmbepgojfaaDoorW.PrintLast
set_option linter.unusedVariables false
set_option linter.unusedSimpArgs false

abbrev e0 : ByteArray := ⟨#[]⟩
abbrev R7 := ByteArray × ByteArray × Int × Int × Bool × Bool × Bool
def bad : R7 := (e0, e0, 0, 0, false, false, false)
def cel (n c : Int) (x y : Bool) : R7 := if ins n c = true then (e0, e0, n, c, x, y, true) else bad
theorem cel0 (c : Int) (x y : Bool) : cel 0 c x y = bad := if_neg (by unfold ins; simp)
/-- what is left behind a dollar -/
def td (s : ByteArray) : ByteArray := if pre s 36 = true then s.extract 1 s.size else s
theorem td_sz (s : ByteArray) : (td s).size ≤ s.size := by
  unfold td
  split
  · rw [ByteArray.size_extract]; omega
  · exact Nat.le_refl _
def nm (u : ByteArray) : Int :=
  if u.size = 1 then (if digt (bt u 0) = true ∧ ¬ bt u 0 = 48 then bt u 0 - 48 else 0)
  else if u.size = 2 then (if digt (bt u 0) = true ∧ ¬ bt u 0 = 48 ∧ digt (bt u 1) = true then 10 * (bt u 0 - 48) + (bt u 1 - 48) else 0) else 0
def col (b : Int) : Int := if 97 ≤ b then b - 96 else b - 64
def tl (s : ByteArray) : ByteArray := s.extract 1 s.size
theorem tl_sz (s : ByteArray) : (tl s).size = s.size - 1 := by unfold tl; rw [ByteArray.size_extract]; omega
/-- the cell that a text tells -/
def pc (s : ByteArray) : R7 :=
  if (td s).size = 0 ∨ lett (bt (td s) 0) = false then bad else cel (nm (td (tl (td s)))) (col (bt (td s) 0)) (pre (tl (td s)) 36) (pre s 36)

theorem dollar_is {s : ByteArray} (hs : s.size ≤ 140737488351232) : addr_dollar.f s = some (td s, pre s 36) := by
  unfold addr_dollar.f
  rw [CutPrefix_is hs 36]
  rfl
theorem digt_bd {b : Int} (h : digt b = true) : 48 ≤ b ∧ b ≤ 57 := by
  unfold digt at h
  simpa using h
theorem or_tab : ∀ b : Fin 256, lett (b.val : Int) = true → ((Go.bits .or .u8 (b.val : Int) 32 - 97) % 256) + 1 = col (b.val : Int) := by decide +kernel
theorem a_or_is {b : Int} (h0 : 0 ≤ b ∧ b ≤ 255) (h : lett b = true) : ((Go.bits .or .u8 b 32 - 97) % 256) + 1 = col b := by
  have := or_tab ⟨b.toNat, by omega⟩
  rw [show ((b.toNat : Nat) : Int) = b by omega] at this
  exact this h
theorem ste {u : ByteArray} {fc fr : Bool} {c v i : Int} {r : R7} (h0 : 0 ≤ i) (h1 : i ≤ 1) (hi : i < u.size) (hv : 0 ≤ v ∧ v ≤ 9)
    (nx : digt (bt u i) = true → ¬ bt u 0 = 48 → Ev (fun k => addr_ParseCell.l0 k u fc c fr (10 * v + (bt u i - 48)) (u.size : Int) (i + 1)) r)
    (bd : ¬ (digt (bt u i) = true ∧ ¬ bt u 0 = 48) → r = bad) : Ev (fun k => addr_ParseCell.l0 k u fc c fr v (u.size : Int) i) r := by
  refine E.succ (E.pos hi (E.pos h0 (E.pos hi (E.bindn (digit_is _) (E.ite (fun d => E.neg (by omega) (E.pos (by omega) (E.ite (fun z => E.now (bd (fun h => h.2 z)).symm) (fun z => ?_)))) (fun d => E.now (bd (fun h => d h.1)).symm))))))
  have b := digt_bd d
  rw [E.w64 (x := 10 * v) (by omega) (by omega), Int.emod_eq_of_lt (show 0 ≤ bt u i - 48 by omega) (by omega), E.w64 (x := 10 * v + (bt u i - 48)) (by omega) (by omega), E.w64 (x := i + 1) (by omega) (by omega)]
  exact nx d z
theorem ste_end {u : ByteArray} {fc fr : Bool} {c v i : Int} (hi : (u.size : Int) ≤ i) : Ev (fun k => addr_ParseCell.l0 k u fc c fr v (u.size : Int) i) (cel v c fr fc) := by
  refine E.succ (E.neg (by omega) (E.bindn (inside_is _ _) ?_))
  unfold cel
  exact ite_same (fun _ => Ev.now _) (fun _ => Ev.now _)
theorem Cell_l (u : ByteArray) (fc fr : Bool) (c : Int) : Ev (fun k => addr_ParseCell.l0 k u fc c fr 0 (u.size : Int) 0) (cel (nm u) c fr fc) := by
  have b1 := @digt_bd (bt u 0)
  by_cases s0 : u.size = 0
  · have : nm u = 0 := by unfold nm; rw [if_neg (by omega), if_neg (by omega)]
    rw [this]
    exact ste_end (by omega)
  by_cases s1 : u.size = 1
  · have e : nm u = if digt (bt u 0) = true ∧ ¬ bt u 0 = 48 then bt u 0 - 48 else 0 := by unfold nm; rw [if_pos s1]
    refine ste (by omega) (by omega) (by omega) (by omega) (fun d z => ?_) (fun h => ?_)
    · rw [e, if_pos ⟨d, z⟩, Int.mul_zero, Int.zero_add]
      exact ste_end (by omega)
    · rw [e, if_neg h, cel0]
  by_cases s2 : u.size = 2
  · have e : nm u = if digt (bt u 0) = true ∧ ¬ bt u 0 = 48 ∧ digt (bt u 1) = true then 10 * (bt u 0 - 48) + (bt u 1 - 48) else 0 := by unfold nm; rw [if_neg s1, if_pos s2]
    refine ste (by omega) (by omega) (by omega) (by omega) (fun d z => ?_) (fun h => ?_)
    · have := b1 d
      rw [Int.mul_zero, Int.zero_add]
      refine ste (by omega) (by omega) (by omega) (by omega) (fun d' _ => ?_) (fun h => ?_)
      · rw [e, if_pos ⟨d, z, d'⟩]
        exact ste_end (by omega)
      · rw [e, if_neg (fun q => h ⟨q.2.2, z⟩), cel0]
    · rw [e, if_neg (fun q => h ⟨q.1, q.2.1⟩), cel0]
  · have : nm u = 0 := by unfold nm; rw [if_neg s1, if_neg s2]
    rw [this, cel0]
    refine ste (by omega) (by omega) (by omega) (by omega) (fun d z => ?_) (fun h => rfl)
    have := b1 d
    rw [Int.mul_zero, Int.zero_add]
    refine ste (by omega) (by omega) (by omega) (by omega) (fun d' _ => ?_) (fun h => rfl)
    exact E.succ (E.pos (by omega) (E.pos (by omega) (E.pos (by omega) (E.bindn (digit_is _) (E.ite (fun _ => E.pos (by omega) (Ev.now _)) (fun _ => Ev.now _))))))
theorem ParseCell_is {s : ByteArray} (hs : s.size ≤ 140737488351232) : Ev (fun k => addr_ParseCell.f k s) (pc s) := by
  have ts := td_sz s
  have f : ∀ b : Bool, b = true → Ev (fun k => addr_ParseCell.j0 k (td s) (pre s 36) b) bad := by
    intro b hb
    refine E.succ ?_
    simp only [addr_ParseCell.j0]
    exact E.pos hb (Ev.now _)
  unfold pc
  refine E.bindn (dollar_is hs) ?_
  by_cases z : (td s).size = 0
  · rw [if_pos (.inl z)]
    exact E.pos ((nil_iff _).2 z) (f _ rfl)
  refine E.neg (fun h => z ((nil_iff _).1 h)) (E.pos (show (0 : Int) < ((td s).size : Int) by omega) (E.bindn (letter_is _) ?_))
  cases l : lett (bt (td s) 0) with
  | false =>
    rw [if_pos (.inr rfl)]
    exact f _ rfl
  | true =>
    rw [if_neg (by simp [z])]
    have := tl_sz (td s)
    refine E.succ ?_
    simp only [addr_ParseCell.j0]
    refine E.neg (by decide) (E.pos (show (0 : Int) < ((td s).size : Int) by omega) (E.pos (show (1 : Int) ≤ ((td s).size : Int) by omega) (E.bindn (dollar_is (s := tl (td s)) (by omega)) ?_)))
    rw [a_or_is (bt_range _ _) l]
    dsimp only
    exact Cell_l _ _ _ _

/-! ### the document's cell -/
theorem rste {u : ByteArray} {fc fr : Bool} {c v i : Int} {r : R7} (h0 : 0 ≤ i) (h1 : i ≤ 1) (hi : i < u.size) (hv : 0 ≤ v ∧ v ≤ 9)
    (nx : digt (bt u i) = true → Ev (fun k => octavoref08_ParseCell.l0 k u (i + 1) e0 e0 (10 * v + (bt u i - 48)) c fr fc) r)
    (bd : ¬ digt (bt u i) = true → r = bad) : Ev (fun k => octavoref08_ParseCell.l0 k u i e0 e0 v c fr fc) r := by
  refine E.succ ?_
  simp only [octavoref08_ParseCell.l0]
  refine E.pos hi (E.pos h0 (E.bindn (rDigit_is _) (E.ite (fun d => ?_) (fun d => E.now (bd d).symm))))
  have b := digt_bd d
  rw [E.w64 (x := 10 * v) (by omega) (by omega), Int.emod_eq_of_lt (show 0 ≤ bt u i - 48 by omega) (by omega), E.w64 (x := 10 * v + (bt u i - 48)) (by omega) (by omega), E.w64 (x := i + 1) (by omega) (by omega)]
  exact nx d
theorem rste_end {u : ByteArray} {fc fr : Bool} {c v i : Int} (hi : (u.size : Int) ≤ i) : Ev (fun k => octavoref08_ParseCell.l0 k u i e0 e0 v c fr fc) (cel v c fr fc) := by
  refine E.succ ?_
  simp only [octavoref08_ParseCell.l0]
  refine E.neg (by omega) (E.bindn (rin_is _ _) ?_)
  unfold cel
  exact ite_same (fun _ => Ev.now _) (fun _ => Ev.now _)
theorem rCell_l (u : ByteArray) (fc fr : Bool) (c : Int) : Ev (fun k => octavoref08_ParseCell.j3 k u e0 e0 0 c fr fc) (cel (nm u) c fr fc) := by
  have b1 := @digt_bd (bt u 0)
  have f : ∀ b : Bool, b = true → Ev (fun k => octavoref08_ParseCell.j4 k u b e0 e0 0 c fr fc) bad := by
    intro b hb
    refine E.succ ?_
    simp only [octavoref08_ParseCell.j4]
    exact E.pos hb (Ev.now _)
  refine E.succ ?_
  simp only [octavoref08_ParseCell.j3]
  by_cases s0 : u.size = 0
  · have : nm u = 0 := by unfold nm; rw [if_neg (by omega), if_neg (by omega)]
    rw [this, cel0]
    exact E.pos (by omega) (f _ rfl)
  refine E.neg (by omega) ?_
  by_cases s3 : u.size > 2
  · have : nm u = 0 := by unfold nm; rw [if_neg (by omega), if_neg (by omega)]
    rw [this, cel0]
    exact E.pos (by omega) (f _ rfl)
  refine E.neg (by omega) (E.pos (by omega) ?_)
  by_cases z : bt u 0 = 48
  · have : nm u = 0 := by
      unfold nm
      split
      · exact if_neg (fun h => h.2 z)
      · split
        · exact if_neg (fun h => h.2.1 z)
        · rfl
    rw [this, cel0]
    exact f _ (beq_iff_eq.2 z)
  rw [show (bt u 0 == 48) = false from beq_eq_false_iff_ne.2 z]
  refine E.succ ?_
  simp only [octavoref08_ParseCell.j4]
  refine E.neg (by decide) ?_
  by_cases s1 : u.size = 1
  · have e : nm u = if digt (bt u 0) = true ∧ ¬ bt u 0 = 48 then bt u 0 - 48 else 0 := by unfold nm; rw [if_pos s1]
    refine rste (by omega) (by omega) (by omega) (by omega) (fun d => ?_) (fun h => ?_)
    · rw [e, if_pos ⟨d, z⟩, Int.mul_zero, Int.zero_add (bt u 0 - 48)]
      exact rste_end (by omega)
    · rw [e, if_neg (fun q => h q.1), cel0]
  · have s2 : u.size = 2 := by omega
    have e : nm u = if digt (bt u 0) = true ∧ ¬ bt u 0 = 48 ∧ digt (bt u 1) = true then 10 * (bt u 0 - 48) + (bt u 1 - 48) else 0 := by unfold nm; rw [if_neg s1, if_pos s2]
    refine rste (by omega) (by omega) (by omega) (by omega) (fun d => ?_) (fun h => ?_)
    · have := b1 d
      rw [Int.mul_zero, Int.zero_add (bt u 0 - 48)]
      refine rste (by omega) (by omega) (by omega) (by omega) (fun d' => ?_) (fun h => ?_)
      · rw [e, if_pos ⟨d, z, d'⟩]
        exact rste_end (by omega)
      · rw [e, if_neg (fun q => h q.2.2), cel0]
    · rw [e, if_neg (fun q => h q.1), cel0]
theorem up_bt {s : ByteArray} (h : 0 < s.size) : bt (up s) 0 = X.gUpper (bt s 0) ∧ (up s).size = s.size := by
  have hl : ((bytesOf s).map X.gUpper).length = s.size := by rw [List.length_map, bytesOf_length]
  have hz : (up s).size = s.size := by unfold up X.mapS; rw [son_size, hl]
  refine ⟨?_, hz⟩
  have hr := bt_range s 0
  have hb : (bytesOf s)[0]'(by rw [bytesOf_length]; exact h) = bt s 0 := by
    rw [show bt s 0 = bt s ((0 : Nat) : Int) from rfl, bt_nat s 0 h]
    simp [bytesOf]
    rfl
  have := bt_son ((bytesOf s).map X.gUpper) 0 (by omega)
  rw [List.getElem_map, hb] at this
  refine this ?_
  unfold X.gUpper
  split <;> omega
theorem rcol_is {b : Int} (l : lett b = true) : ((X.gUpper b - 65) % 256) + 1 = col b := by
  unfold lett at l
  simp only [decide_eq_true_eq] at l
  unfold X.gUpper col
  split <;> split <;> omega
theorem pre_dec {s : ByteArray} (h : 0 < s.size) (c : UInt8) : pre s c = (bt s 0 == (c.toNat : Int)) := by
  unfold pre
  rw [beq_dec]
  congr 1
  rw [eq_iff_iff]
  exact ⟨fun q => q.2, fun q => ⟨h, q⟩⟩
theorem rParseCell_is {s : ByteArray} (hs : s.size ≤ 140737488351232) : Ev (fun k => octavoref08_ParseCell.f k s) (pc s) := by
  have ts := td_sz s
  have f : ∀ b : Bool, b = true → Ev (fun k => octavoref08_ParseCell.j2 k (td s) b e0 e0 0 0 false (pre s 36)) bad := by
    intro b hb
    refine E.succ ?_
    simp only [octavoref08_ParseCell.j2]
    exact E.pos hb (Ev.now _)
  have j1 : Ev (fun k => octavoref08_ParseCell.j1 k (td s) e0 e0 0 0 false (pre s 36)) (pc s) := by
    refine E.succ ?_
    simp only [octavoref08_ParseCell.j1]
    unfold pc
    have tls := tl_sz (td s)
    by_cases z : (td s).size < 2
    · refine E.pos (by omega) (E.is (f _ rfl) ?_)
      split
      · rfl
      · have q := td_sz (tl (td s))
        have : nm (td (tl (td s))) = 0 := by unfold nm; rw [if_neg (by omega), if_neg (by omega)]
        rw [this, cel0]
    refine E.neg (by omega) (E.pos (by omega) (E.bindn (rLetter_is _) ?_))
    cases l : lett (bt (td s) 0) with
    | false =>
      rw [if_pos (.inr rfl)]
      exact f _ rfl
    | true =>
      rw [if_neg (fun h => h.elim (fun q => by omega) (fun q => by cases q))]
      have xs : ((td s).extract 0 1).size = 1 := by rw [ByteArray.size_extract]; omega
      have ub := up_bt (s := (td s).extract 0 1) (by omega)
      have xb : bt ((td s).extract 0 1) 0 = bt (td s) 0 := by
        rw [bt_extract (td s) 0 1 0 (by omega) (by omega) (by omega)]
        rfl
      refine E.succ ?_
      simp only [octavoref08_ParseCell.j2]
      refine E.neg (by decide) (E.pos (by omega) (E.pos (by omega) (E.bindn (rUpper_is (by omega)) (E.pos (by omega) ?_))))
      rw [ub.1, xb, rcol_is l]
      show Ev (fun n => if 0 < ((tl (td s)).size : Int) then (if bt (tl (td s)) 0 = 36 then (if 1 ≤ ((tl (td s)).size : Int) then octavoref08_ParseCell.j3 n (tl (tl (td s))) e0 e0 0 (col (bt (td s) 0)) true (pre s 36) else none) else octavoref08_ParseCell.j3 n (tl (td s)) e0 e0 0 (col (bt (td s) 0)) false (pre s 36)) else none) _
      have pd := pre_dec (s := tl (td s)) (by omega) 36
      refine E.pos (by omega) (E.ite (fun c => E.pos (by omega) ?_) (fun c => ?_))
      · have p : pre (tl (td s)) 36 = true := by rw [pd]; exact beq_iff_eq.2 c
        have := rCell_l (td (tl (td s))) (pre s 36) true (col (bt (td s) 0))
        rw [p]
        rw [show td (tl (td s)) = tl (tl (td s)) from if_pos p] at this ⊢
        exact this
      · have p : pre (tl (td s)) 36 = false := by rw [pd]; exact beq_eq_false_iff_ne.2 c
        have := rCell_l (td (tl (td s))) (pre s 36) false (col (bt (td s) 0))
        rw [p]
        rw [show td (tl (td s)) = tl (td s) from if_neg (by rw [p]; decide)] at this ⊢
        exact this
  have j0 : ∀ b : Bool, b = pre s 36 → Ev (fun k => octavoref08_ParseCell.j0 k s b e0 e0 0 0 false false) (pc s) := by
    intro b hb
    refine E.succ ?_
    simp only [octavoref08_ParseCell.j0]
    refine E.ite (fun c => E.pos ?_ ?_) (fun c => ?_)
    · have : pre s 36 = true := by rw [← hb]; exact c
      have := (of_decide_eq_true this).1
      omega
    · have p : pre s 36 = true := by rw [← hb]; exact c
      rw [show td s = s.extract 1 s.size from if_pos p, p] at j1
      exact j1
    · have p : pre s 36 = false := by rw [← hb]; simpa using c
      rw [show td s = s from if_neg (by rw [p]; decide), p] at j1
      exact j1
  refine E.ite (fun c => E.pos (by omega) (j0 _ ?_)) (fun c => j0 _ ?_)
  · rw [pre_dec (by omega)]; rfl
  · unfold pre
    rw [decide_eq_false (by omega)]
end Go.Proofs.YtbpckmbepgojfaaDoor.Ad
