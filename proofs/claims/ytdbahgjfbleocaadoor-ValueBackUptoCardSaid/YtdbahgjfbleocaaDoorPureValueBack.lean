/- What a good value shows is typed to it, if it is no text; a text's characters make it again: for every value and every text of at most 8796093022207 bytes. -/
import Derived.Test.YtdbahgjfbleocaaDoorVlD
import Derived.Test.YtdbahgjfbleocaaDoorPx0
import Derived.Test.YtdbahgjfbleocaaDoorPx7
namespace Go.Proofs.YtdbahgjfbleocaaDoor.Pure
open Go.RowKit Go.Proofs.YtdbahgjfbleocaaDoor.P Go.Proofs.YtdbahgjfbleocaaDoor.Nm Go.Proofs.YtdbahgjfbleocaaDoor.Vl Go.Proofs.YtdbahgjfbleocaaDoorW.PrintWords Go.Proofs.YtdbahgjfbleocaaDoorW.PrintLast
set_option linter.unusedVariables false
set_option linter.unusedSimpArgs false

/-! ### what a value shows is typed to it -/
theorem prs_no {s : ByteArray} {c : UInt8} {l : List UInt8} (h : s.data.toList = c :: l) (h1 : (c.toNat : Int) ≠ 45) (h2 : (c.toNat : Int) < 48 ∨ (c.toNat : Int) > 57) (h3 : (c.toNat : Int) ≠ 46) : prs s = (0, false) := by
  obtain ⟨a, b⟩ := body_no (s := s) h h1
  have nd : ∀ l : List UInt8, dgs (c :: l) = false := by
    intro l
    unfold dgs
    simp
    intro hh
    omega
  have m1 : mid s = Lib.indexByte s.data.toList 46 := rfl
  unfold prs
  rw [a, b]
  by_cases z : 0 ≤ mid s
  · rw [if_pos z]
    unfold fin
    rw [if_neg]
    intro hh
    have ok := hh.1
    have hd := (okd_sz ok).1
    rw [ext_take, h] at hd
    cases e : (mid s).toNat with
    | zero =>
      have : mid s = 0 := by omega
      rw [m1, h, idx_cons] at this
      by_cases ec : c = 46
      · exact h3 (by rw [ec]; rfl)
      · rw [if_neg ec] at this
        split at this
        · omega
        · have := (idx_bd l 46)
          omega
    | succ k =>
      rw [e, List.take_succ_cons, nd] at hd
      cases hd
  · rw [if_neg z]
    unfold fin
    rw [if_neg]
    intro hh
    have hd := (okd_sz hh.1).1
    rw [h, nd] at hd
    cases hd
theorem typ_bad {b : Int} (h1 : 1 ≤ b) (h2 : b ≤ 8) : typ (rdOf ByteArray.empty X.errL b) = (4, b, (⟨#[]⟩ : ByteArray)) := by
  have : b = 1 ∨ b = 2 ∨ b = 3 ∨ b = 4 ∨ b = 5 ∨ b = 6 ∨ b = 7 ∨ b = 8 := by omega
  rcases this with rfl | rfl | rfl | rfl | rfl | rfl | rfl | rfl <;> decide +kernel
/-- what is typed to a value whose text it is -/
theorem typ_back {a b : Int} {s : ByteArray} (g : gdv a b s) (h2 : a ≠ 2) (wb : -9223372036854775808 ≤ b ∧ b ≤ 9223372036854775807) : (typ (txt a b s)).1 = a ∧ (typ (txt a b s)).2.1 = b ∧ (typ (txt a b s)).2.2.toList = s.toList := by
  have nil : s.size = 0 → s.toList = [] := fun h => (nil_iff s).2 h
  have e0' : (⟨#[]⟩ : ByteArray).toList = [] := by rw [ByteArray.toList_eq]
  unfold gdv at g
  rcases g with ⟨rfl, rfl, z⟩ | ⟨rfl, gb, z⟩ | ⟨rfl, _⟩ | ⟨rfl, gb, z⟩ | ⟨rfl, g1, g2, z⟩
  · rw [nil z]; exact ⟨rfl, rfl, e0'⟩
  · rw [nil z]
    have p := (Prt_is wb.1 wb.2).2.2 gb
    have et : txt 1 b s = prt b := rfl
    have nz : (prt b).size ≠ 0 := by
      intro hz
      have hl : (prt b).data.toList = [] := List.length_eq_zero_iff.1 (by rw [sz]; exact hz)
      have hp : prs (prt b) = (0, false) := by
        have : prt b = (⟨#[]⟩ : ByteArray) := ByteArray.ext (Array.toList_inj.1 hl)
        rw [this]
        decide +kernel
      rw [p] at hp
      cases hp
    have nq : q (prt b) = false := by
      refine decide_eq_false (fun hh => ?_)
      cases hl : (prt b).data.toList with
      | nil => exact nz (by rw [← sz, hl]; rfl)
      | cons c l =>
        have hb := head_bt hl
        have hc : (c.toNat : Int) = 39 := by rw [← hb.2]; exact hh.2
        rw [prs_no hl (by omega) (by omega) (by omega)] at p
        cases p
    rw [et]
    unfold typ
    rw [if_neg nz, nq, p]
    exact ⟨rfl, rfl, e0'⟩
  · exact absurd rfl h2
  · rw [nil z]
    rcases gb with rfl | rfl
    · have et : txt 3 0 s = (⟨#[70, 65, 76, 83, 69]⟩ : ByteArray) := rfl
      rw [et]
      have e : typ (⟨#[70, 65, 76, 83, 69]⟩ : ByteArray) = (3, 0, (⟨#[]⟩ : ByteArray)) := by decide +kernel
      rw [e]
      exact ⟨rfl, rfl, e0'⟩
    · have et : txt 3 1 s = (⟨#[84, 82, 85, 69]⟩ : ByteArray) := rfl
      rw [et]
      have e : typ (⟨#[84, 82, 85, 69]⟩ : ByteArray) = (3, 1, (⟨#[]⟩ : ByteArray)) := by decide +kernel
      rw [e]
      exact ⟨rfl, rfl, e0'⟩
  · rw [nil z]
    have et : txt 4 b s = rdOf ByteArray.empty X.errL b := by
      show (if 1 ≤ b then (if b ≤ 8 then rdOf ByteArray.empty X.errL b else (⟨#[]⟩ : ByteArray)) else (⟨#[]⟩ : ByteArray)) = _
      rw [if_pos g1, if_pos g2]
    rw [et, typ_bad g1 g2]
    exact ⟨rfl, rfl, e0'⟩

/-! ### a text's characters make it again -/
def cat : List ByteArray → ByteArray → ByteArray
  | [], t => t
  | x :: l, t => cat l (t ++ x)
theorem cat_chs (s : ByteArray) : ∀ (m pos : Nat), s.size ≤ pos + m → pos ≤ s.size → cat (chs s m pos) (s.extract 0 pos) = s := by
  intro m
  induction m with
  | zero =>
    intro pos h h0
    show s.extract 0 pos = s
    rw [show pos = s.size by omega]
    exact ByteArray.extract_zero_size
  | succ m ih =>
    intro pos h h0
    unfold chs
    by_cases c : pos < s.size
    · rw [if_pos c]
      obtain ⟨d1, d2, _⟩ := X.dec_facts s pos c
      show cat _ (s.extract 0 pos ++ s.extract pos (pos + (Utf8.decode s pos).2)) = s
      rw [show s.extract 0 pos ++ s.extract pos (pos + (Utf8.decode s pos).2) = s.extract 0 (pos + (Utf8.decode s pos).2) by
        rw [ByteArray.extract_append_extract]
        congr 1 <;> omega]
      exact ih _ (by omega) (by omega)
    · rw [if_neg c]
      show s.extract 0 pos = s
      rw [show pos = s.size by omega]
      exact ByteArray.extract_zero_size
theorem chs_ne (s : ByteArray) : ∀ (m pos : Nat) (x : ByteArray), x ∈ chs s m pos → x.size ≠ 0 := by
  intro m
  induction m with
  | zero => intro pos x h; simp [chs] at h
  | succ m ih =>
    intro pos x h
    unfold chs at h
    by_cases c : pos < s.size
    · rw [if_pos c] at h
      obtain ⟨d1, d2, _⟩ := X.dec_facts s pos c
      rcases List.mem_cons.1 h with rfl | h
      · rw [ByteArray.size_extract]; omega
      · exact ih _ x h
    · rw [if_neg c] at h; simp at h
/-- the sizes of texts, summed -/
def sum : List ByteArray → Nat
  | [] => 0
  | x :: l => x.size + sum l
theorem cat_size : ∀ (l : List ByteArray) (t : ByteArray), (cat l t).size = t.size + sum l := by
  intro l
  induction l with
  | nil => intro t; rfl
  | cons x l ih => intro t; show (cat l (t ++ x)).size = _; rw [ih, ByteArray.size_append]; simp [sum]; omega
theorem ValueBack_small (a b : Int) (s x1 : ByteArray) (wb : (Lit.int .i64 b).wf = true) (hs : s.size ≤ 140737488351232) (h1 : x1.size ≤ 8796093022207) : ∃ k, octavolaw06_ValueBack.f k a b s x1 = some true := by
  have w := E.wf64 wb
  have j2 : ∀ t, t.toList = x1.toList → Ev (fun k => octavolaw06_ValueBack.j2 k x1 t false a b s) true := by
    intro t ht
    refine E.succ ?_
    simp only [octavolaw06_ValueBack.j2]
    exact E.neg (by decide) (E.pos ht (E.bindn (vGood_is a b s) (E.bindn (rvGood_is a b s) (E.pos (by simp) vfin))))
  have fin : ∀ (t : ByteArray) (L : List ByteArray) (n : Int) (i : Int), t.toList = x1.toList → ¬ i < n → Ev (fun k => octavolaw06_ValueBack.l0 k x1 t L n i a b s) true := by
    intro t L n i ht hi
    refine E.succ ?_
    simp only [octavolaw06_ValueBack.l0]
    refine E.neg hi (Ev.bind (Typed_is (by omega)) (E.ite (fun k2 => ?_) (fun _ => j2 t ht)))
    have z : x1.size ≠ 0 := by
      intro z
      unfold typ at k2
      rw [if_pos z] at k2
      cases k2
    refine E.pos (by omega) (E.ite (fun _ => j2 t ht) (fun c39 => ?_))
    have nq : q x1 = false := decide_eq_false (fun hh => c39 hh.2)
    have ty : typ x1 = (2, 0, x1) := by
      have e : ∀ (m i : Nat), (errs x1 m i).1 = 2 → errs x1 m i = (2, 0, x1) := by
        intro m
        induction m with
        | zero => intro i _; rfl
        | succ m ih =>
          intro i h
          unfold errs at h ⊢
          split at h
          · cases h
          · rw [if_neg (by assumption)]; exact ih _ h
      unfold typ at k2 ⊢
      rw [if_neg z, nq] at k2 ⊢
      simp only [Bool.false_eq_true, if_false] at k2 ⊢
      split at k2
      · cases k2
      · rw [if_neg (by assumption)]
        split at k2
        · cases k2
        · rw [if_neg (by assumption)]
          exact e 8 1 k2
    rw [ty]
    have et : txt 2 0 x1 = x1 := rfl
    have T := Text_is (a := 2) (b := 0) (s := x1) (by decide) (by decide)
    rw [et] at T
    refine Ev.bind T (Ev.bind (Typed_is (by omega)) ?_)
    rw [ty]
    simp only [beq_self_eq_true, Bool.not_true, Bool.or_false]
    exact j2 t ht
  have loop : ∀ (L : List ByteArray), L.length ≤ 9223372036854775806 → (∀ x ∈ L, x.size ≠ 0) → ∀ (m i : Nat) (t : ByteArray), i + m = L.length → (cat (L.drop i) t).toList = x1.toList → (cat (L.drop i) t).size ≤ 8796093022207 → Ev (fun k => octavolaw06_ValueBack.l0 k x1 t L (L.length : Int) i a b s) true := by
    intro L hL hne m
    induction m with
    | zero =>
      intro i t h ht _
      refine fin t L _ _ ?_ (by omega)
      rw [List.drop_eq_nil_of_le (by omega)] at ht
      exact ht
    | succ m ih =>
      intro i t h ht hz
      have hlt : i < L.length := by omega
      rw [List.drop_eq_getElem_cons hlt] at ht hz
      have er : rdOf ByteArray.empty L (i : Int) = L[i]'hlt := by
        show L.getD ((i : Int)).toNat ByteArray.empty = _
        rw [Int.toNat_natCast, List.getD_eq_getElem?_getD, List.getElem?_eq_getElem hlt]
        rfl
      refine E.succ ?_
      simp only [octavolaw06_ValueBack.l0]
      rw [er]
      have hz2 : (cat (L.drop (i + 1)) (t ++ L[i]'hlt)).size ≤ 8796093022207 := hz
      have hz3 := hz2
      rw [cat_size, ByteArray.size_append] at hz3
      refine E.pos (by omega) (E.pos (by omega) (E.pos (by omega) (E.neg (fun hh => hne _ (List.getElem_mem hlt) ((nil_iff _).1 hh)) (E.pos (by omega) ?_))))
      rw [show wrap64 ((i : Int) + 1) = ((i + 1 : Nat) : Int) by rw [E.w64 (by omega) (by omega)]; omega]
      exact ih (i + 1) _ (by omega) ht hz2
  have ln := chs_len x1 x1.size 0
  have ct : cat (chars x1) (⟨#[]⟩ : ByteArray) = x1 := by
    have h := cat_chs x1 x1.size 0 (by omega) (by omega)
    rw [show x1.extract 0 0 = (⟨#[]⟩ : ByteArray) from ByteArray.ext (by simp)] at h
    exact h
  have j0 : Ev (fun k => octavolaw06_ValueBack.j0 k x1 false a b s) true := by
    refine E.succ ?_
    simp only [octavolaw06_ValueBack.j0]
    refine E.neg (by decide) (Ev.bind (Chars_is h1) ?_)
    exact loop (chars x1) (by unfold chars; omega) (fun x hx => chs_ne x1 x1.size 0 x hx) (chars x1).length 0 (⟨#[]⟩ : ByteArray) (by omega) (by rw [List.drop_zero, ct]) (by rw [List.drop_zero, ct]; exact h1)
  refine Ev.rounds (r := true) (E.bindn (vGood_is a b s) (E.ite (fun g => E.ite (fun _ => j0) (fun k2 => ?_)) (fun _ => j0)))
  replace g : gdv a b s := of_decide_eq_true g
  have ts : (txt a b s).size ≤ 140737488351232 := by
    have p := prt_sz w.1 w.2
    unfold txt
    repeat' split
    all_goals first | omega | decide | skip
    have : b = 1 ∨ b = 2 ∨ b = 3 ∨ b = 4 ∨ b = 5 ∨ b = 6 ∨ b = 7 ∨ b = 8 := by omega
    rcases this with rfl | rfl | rfl | rfl | rfl | rfl | rfl | rfl <;> decide +kernel
  obtain ⟨t1, t2, t3⟩ := typ_back g k2 w
  refine Ev.bind (Text_is w.1 w.2) (Ev.bind (Typed_is ts) ?_)
  rw [t1, t2, t3]
  simp only [beq_self_eq_true, Bool.not_true, Bool.or_false]
  exact j0
end Go.Proofs.YtdbahgjfbleocaaDoor.Pure
