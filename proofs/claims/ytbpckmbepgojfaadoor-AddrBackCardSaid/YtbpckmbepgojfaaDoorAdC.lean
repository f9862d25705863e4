/- References read out of texts. -/
import Derived.Test.YtbpckmbepgojfaaDoorAdB
import Derived.Test.YtbpckmbepgojfaaDoorPx0
import Derived.Test.YtbpckmbepgojfaaDoorPx2
namespace Go.Proofs.YtbpckmbepgojfaaDoor.Ad
open Go.RowKit Go.Proofs.YtbpckmbepgojfaaDoor.P Go.Proofs.YtbpckmbepgojfaaDoor.Nm Go.Proofs.YtbpckmbepgojfaaDoorW.PrintWords Go.Proofs.YtbpckmbepgojfaaDoorW.PrintLast
set_option linter.unusedVariables false
set_option linter.unusedSimpArgs false

abbrev e0 : ByteArray := ⟨#[]⟩
abbrev R7 := ByteArray × ByteArray × Int × Int × Bool × Bool × Bool
def bad : R7 := (e0, e0, 0, 0, false, false, false)
def cel (n c : Int) (x y : Bool) : R7 := if ins n c = true then (e0, e0, n, c, x, y, true) else bad
theorem cel0 (c : Int) (x y : Bool) : cel 0 c x y = bad := if_neg (by unfold ins; simp)
/-- what is left behind a dollar -/
def td (s : ByteArray) : ByteArray := if pre s 36 = true then s.extract 1 s.size else s
theorem td_sz (s : ByteArray) : (td s).size ≤ s.size := by
  unfold td
  split
  · rw [ByteArray.size_extract]; omega
  · exact Nat.le_refl _
def nm (u : ByteArray) : Int :=
  if u.size = 1 then (if digt (bt u 0) = true ∧ ¬ bt u 0 = 48 then bt u 0 - 48 else 0)
  else if u.size = 2 then (if digt (bt u 0) = true ∧ ¬ bt u 0 = 48 ∧ digt (bt u 1) = true then 10 * (bt u 0 - 48) + (bt u 1 - 48) else 0) else 0
def col (b : Int) : Int := if 97 ≤ b then b - 96 else b - 64
def tl (s : ByteArray) : ByteArray := s.extract 1 s.size
theorem tl_sz (s : ByteArray) : (tl s).size = s.size - 1 := by unfold tl; rw [ByteArray.size_extract]; omega
/-- the cell that a text tells -/
def pc (s : ByteArray) : R7 :=
  if (td s).size = 0 ∨ lett (bt (td s) 0) = false then bad else cel (nm (td (tl (td s)))) (col (bt (td s) 0)) (pre (tl (td s)) 36) (pre s 36)

theorem dollar_is {s : ByteArray} (hs : s.size ≤ 140737488351232) : addr_dollar.f s = some (td s, pre s 36) := by
  unfold addr_dollar.f
  rw [CutPrefix_is hs 36]
  rfl
theorem digt_bd {b : Int} (h : digt b = true) : 48 ≤ b ∧ b ≤ 57 := by
  unfold digt at h
  simpa using h
theorem or_tab : ∀ b : Fin 256, lett (b.val : Int) = true → ((Go.bits .or .u8 (b.val : Int) 32 - 97) % 256) + 1 = col (b.val : Int) := by decide +kernel
theorem a_or_is {b : Int} (h0 : 0 ≤ b ∧ b ≤ 255) (h : lett b = true) : ((Go.bits .or .u8 b 32 - 97) % 256) + 1 = col b := by
  have := or_tab ⟨b.toNat, by omega⟩
  rw [show ((b.toNat : Nat) : Int) = b by omega] at this
  exact this h
theorem ste {u : ByteArray} {fc fr : Bool} {c v i : Int} {r : R7} (h0 : 0 ≤ i) (h1 : i ≤ 1) (hi : i < u.size) (hv : 0 ≤ v ∧ v ≤ 9)
    (nx : digt (bt u i) = true → ¬ bt u 0 = 48 → Ev (fun k => addr_ParseCell.l0 k u fc c fr (10 * v + (bt u i - 48)) (u.size : Int) (i + 1)) r)
    (bd : ¬ (digt (bt u i) = true ∧ ¬ bt u 0 = 48) → r = bad) : Ev (fun k => addr_ParseCell.l0 k u fc c fr v (u.size : Int) i) r := by
  refine E.succ (E.pos hi (E.pos h0 (E.pos hi (E.bindn (digit_is _) (E.ite (fun d => E.neg (by omega) (E.pos (by omega) (E.ite (fun z => E.now (bd (fun h => h.2 z)).symm) (fun z => ?_)))) (fun d => E.now (bd (fun h => d h.1)).symm))))))
  have b := digt_bd d
  rw [E.w64 (x := 10 * v) (by omega) (by omega), Int.emod_eq_of_lt (show 0 ≤ bt u i - 48 by omega) (by omega), E.w64 (x := 10 * v + (bt u i - 48)) (by omega) (by omega), E.w64 (x := i + 1) (by omega) (by omega)]
  exact nx d z
theorem ste_end {u : ByteArray} {fc fr : Bool} {c v i : Int} (hi : (u.size : Int) ≤ i) : Ev (fun k => addr_ParseCell.l0 k u fc c fr v (u.size : Int) i) (cel v c fr fc) := by
  refine E.succ (E.neg (by omega) (E.bindn (inside_is _ _) ?_))
  unfold cel
  exact ite_same (fun _ => Ev.now _) (fun _ => Ev.now _)
theorem Cell_l (u : ByteArray) (fc fr : Bool) (c : Int) : Ev (fun k => addr_ParseCell.l0 k u fc c fr 0 (u.size : Int) 0) (cel (nm u) c fr fc) := by
  have b1 := @digt_bd (bt u 0)
  by_cases s0 : u.size = 0
  · have : nm u = 0 := by unfold nm; rw [if_neg (by omega), if_neg (by omega)]
    rw [this]
    exact ste_end (by omega)
  by_cases s1 : u.size = 1
  · have e : nm u = if digt (bt u 0) = true ∧ ¬ bt u 0 = 48 then bt u 0 - 48 else 0 := by unfold nm; rw [if_pos s1]
    refine ste (by omega) (by omega) (by omega) (by omega) (fun d z => ?_) (fun h => ?_)
    · rw [e, if_pos ⟨d, z⟩, Int.mul_zero, Int.zero_add]
      exact ste_end (by omega)
    · rw [e, if_neg h, cel0]
  by_cases s2 : u.size = 2
  · have e : nm u = if digt (bt u 0) = true ∧ ¬ bt u 0 = 48 ∧ digt (bt u 1) = true then 10 * (bt u 0 - 48) + (bt u 1 - 48) else 0 := by unfold nm; rw [if_neg s1, if_pos s2]
    refine ste (by omega) (by omega) (by omega) (by omega) (fun d z => ?_) (fun h => ?_)
    · have := b1 d
      rw [Int.mul_zero, Int.zero_add]
      refine ste (by omega) (by omega) (by omega) (by omega) (fun d' _ => ?_) (fun h => ?_)
      · rw [e, if_pos ⟨d, z, d'⟩]
        exact ste_end (by omega)
      · rw [e, if_neg (fun q => h ⟨q.2.2, z⟩), cel0]
    · rw [e, if_neg (fun q => h ⟨q.1, q.2.1⟩), cel0]
  · have : nm u = 0 := by unfold nm; rw [if_neg s1, if_neg s2]
    rw [this, cel0]
    refine ste (by omega) (by omega) (by omega) (by omega) (fun d z => ?_) (fun h => rfl)
    have := b1 d
    rw [Int.mul_zero, Int.zero_add]
    refine ste (by omega) (by omega) (by omega) (by omega) (fun d' _ => ?_) (fun h => rfl)
    exact E.succ (E.pos (by omega) (E.pos (by omega) (E.pos (by omega) (E.bindn (digit_is _) (E.ite (fun _ => E.pos (by omega) (Ev.now _)) (fun _ => Ev.now _))))))
theorem ParseCell_is {s : ByteArray} (hs : s.size ≤ 140737488351232) : Ev (fun k => addr_ParseCell.f k s) (pc s) := by
  have ts := td_sz s
  have f : ∀ b : Bool, b = true → Ev (fun k => addr_ParseCell.j0 k (td s) (pre s 36) b) bad := by
    intro b hb
    refine E.succ ?_
    simp only [addr_ParseCell.j0]
    exact E.pos hb (Ev.now _)
  unfold pc
  refine E.bindn (dollar_is hs) ?_
  by_cases z : (td s).size = 0
  · rw [if_pos (.inl z)]
    exact E.pos ((nil_iff _).2 z) (f _ rfl)
  refine E.neg (fun h => z ((nil_iff _).1 h)) (E.pos (show (0 : Int) < ((td s).size : Int) by omega) (E.bindn (letter_is _) ?_))
  cases l : lett (bt (td s) 0) with
  | false =>
    rw [if_pos (.inr rfl)]
    exact f _ rfl
  | true =>
    rw [if_neg (by simp [z])]
    have := tl_sz (td s)
    refine E.succ ?_
    simp only [addr_ParseCell.j0]
    refine E.neg (by decide) (E.pos (show (0 : Int) < ((td s).size : Int) by omega) (E.pos (show (1 : Int) ≤ ((td s).size : Int) by omega) (E.bindn (dollar_is (s := tl (td s)) (by omega)) ?_)))
    rw [a_or_is (bt_range _ _) l]
    dsimp only
    exact Cell_l _ _ _ _

end Go.Proofs.YtbpckmbepgojfaaDoor.Ad
