/- Layer 21's search. -/
import Derived.Test.YtkkfclpodgagdaaFunW
set_option maxRecDepth 100000
set_option linter.all false
namespace Go.Proofs.Ytkkfclpodgagdaa
open Ab R
theorem value_order (b : Bool) : Ret Try.prog F_value_order [.bool b] (.int .i64 (if b then -1 else 1)) := by
  refine r_value_order rfl fun hw => ?_
  clear hw
  repeat' ((conv => whnf); (first | refine csp (fun h => ?_) (fun h => ?_) | (refine sda ?_ ?_; (focus (first | rfl | (simp; done)))) | refine sda ?_ ?_ | refine conk rfl ?_ | refine mapk (fun x hx => ?_) | intro hl))
  all_goals conv => whnf
  all_goals simp_all
theorem cmp_num1 (v w : GV) (h : v.k = 1) : Ret Try.prog F_value_Cmp_1 [eV v, eV w] (.tup [.int .i64 1, .int .i64 v.n, .str e0]) := by
  obtain ⟨k, n, s⟩ := v
  simp only at h
  subst h
  refine r_value_Cmp_1 rfl fun hw => ?_
  clear hw
  repeat' ((conv => whnf); (first | refine csp (fun h => ?_) (fun h => ?_) | (refine sda ?_ ?_; (focus (first | rfl | (simp; done)))) | refine sda ?_ ?_ | refine conk rfl ?_ | refine mapk (fun x hx => ?_) | intro hl))
  all_goals conv => whnf
def cmpI (k x : Int) : Int := if k < x then -1 else if k = x then 0 else 1
theorem cmp_num (v w : GV) (h : v.k = 1) (h2 : w.k = 1) : Ret Try.prog F_value_Cmp [eV v, eV w] (.int .i64 (cmpI v.n w.n)) := by
  unfold cmpI
  refine r_value_Cmp rfl fun hw => ?_
  clear hw
  repeat' ((conv => whnf); (first | refine csp (fun h => ?_) (fun h => ?_) | refine cll (cmp_num1 v w h) (fun _ => ?_) | refine cll (cmp_num1 w v h2) (fun _ => ?_) | refine cll (value_order _) (fun _ => ?_) | (refine sda ?_ ?_; (focus (first | rfl | (simp; done)))) | refine sda ?_ ?_ | refine conk rfl ?_ | refine mapk (fun x hx => ?_) | intro hl))
  all_goals conv => whnf
  all_goals try simp only [decide_eq_true_eq, decide_eq_false_iff_not, Bool.not_eq_true', Bool.not_eq_false', List.length_map, Int.not_lt, Int.not_le, Decidable.not_not, gt_iff_lt, ge_iff_le] at *
  · split <;> simp_all
  · rw [if_neg (by omega), if_pos h]
theorem lookup_lines (how : Int) : Ret Try.prog F_lookup_lines [.int .i64 how] (.fn F_lookup_lines_1 [] [.elem [.int .i64 how]]) := by
  refine r_lookup_lines rfl fun hw => ?_
  clear hw
  repeat' ((conv => whnf); (first | refine csp (fun h => ?_) (fun h => ?_) | (refine sda ?_ ?_; (focus (first | rfl | (simp; done)))) | refine sda ?_ ?_ | refine conk rfl ?_ | refine mapk (fun x hx => ?_) | intro hl))
  all_goals conv => whnf
theorem law_one (v : GV) : Ret Try.prog F_octavolaw21_one [eV v] (eA ⟨1, 1, [v], false⟩) := by
  refine r_octavolaw21_one rfl fun hw => ?_
  clear hw
  repeat' ((conv => whnf); (first | refine csp (fun h => ?_) (fun h => ?_) | (refine sda ?_ ?_; (focus (first | rfl | (simp; done)))) | refine sda ?_ ?_ | refine conk rfl ?_ | refine mapk (fun x hx => ?_) | intro hl))
  all_goals conv => whnf
  all_goals rfl
theorem law_number (n : Int) : Ret Try.prog F_octavolaw21_number [.int .i64 n] (eA ⟨1, 1, [⟨1, n, e0⟩], false⟩) := by
  refine r_octavolaw21_number rfl fun hw => ?_
  clear hw
  repeat' ((conv => whnf); (first | refine csp (fun h => ?_) (fun h => ?_) | refine cll (law_one ⟨1, n, e0⟩) (fun _ => ?_) | (refine sda ?_ ?_; (focus (first | rfl | (simp; done)))) | refine sda ?_ ?_ | refine conk rfl ?_ | refine mapk (fun x hx => ?_) | intro hl))
  all_goals conv => whnf
/-- The place of a number among numbers. -/
def scanS (how x : Int) : List GV → Int → Int → Int × Int
  | [], _, found => if found = 0 then (0, 6) else (found, 0)
  | k :: ks, i, found => if how = 0 ∧ cmpI k.n x = 0 then (i, 0) else if cmpI k.n x * how > 0 then (if found = 0 then (0, 6) else (found, 0)) else scanS how x ks (i + 1) (if how = 0 then found else i)
theorem match_nth (x g : Ar) (n how X : Int) (s : ByteArray) (hx : oneS x = ⟨1, X, s⟩) (hn : n = g.l.length) (hk : ∀ k ∈ g.l, k.k = 1) (hh : -1 ≤ how ∧ how ≤ 1) (hb : n ≤ 16777216) :
    Ret Try.prog F_lookup_match [eA x, .int .i64 n, .fn F_lookup_grid_nth [eA g] [], .int .i64 how] (.tup [.int .i64 (scanS how X g.l 1 0).1, .int .i64 (scanS how X g.l 1 0).2]) := by
  have h1 := maths_One x
  rw [hx] at h1
  refine r_lookup_match rfl fun hw => ?_
  clear hw
  repeat' ((conv => whnf); (first | refine csp (fun h => ?_) (fun h => ?_) | refine cll (h1) (fun _ => ?_) | (refine sda ?_ ?_; (focus (first | rfl | (simp; done)))) | refine sda ?_ ?_ | refine conk rfl ?_ | refine mapk (fun x hx => ?_) | intro hl))
  conv => whnf
  refine ⟨Int, [1, 2, 3, 10, 11, 12], [0, 1], fun i => [(1, .int .i64 n), (2, .fn F_lookup_grid_nth [eA g] []), (3, .int .i64 how), (10, .ptr 1 0), (11, .int .i64 (if how = 0 then 0 else i - 1)), (12, .int .i64 i)], fun _ => [.box true (cA x), .box true [.int .i64 1, .int .i64 X, .str s]], fun i => 1 ≤ i ∧ i ≤ n + 1 ∧ scanS how X (g.l.drop (i - 1).toNat) i (if how = 0 then 0 else i - 1) = scanS how X g.l 1 0, fun i => (n + 1 - i).toNat, rfl, ?_, fun i hi => ?_⟩
  · conv => whnf
    refine ⟨1, ?_, rfl, by omega, by omega, ?_⟩
    · split <;> rfl
    · split <;> rfl
  · obtain ⟨hi1, hi2, hi3⟩ := hi
    rcases Int.lt_or_le n i with hlt | hle
    · refine csp_f (decide_eq_false (by omega)) ?_
      repeat' ((conv => whnf); (first | refine csp (fun h => ?_) (fun h => ?_) | (refine sda ?_ ?_; (focus (first | rfl | (simp; done)))) | refine sda ?_ ?_ | refine conk rfl ?_ | refine mapk (fun x hx => ?_) | intro hl))
      all_goals conv => whnf
      all_goals try simp only [decide_eq_true_eq, decide_eq_false_iff_not, Bool.not_eq_true', Bool.not_eq_false', List.length_map, Int.not_lt, Int.not_le, Decidable.not_not, gt_iff_lt, ge_iff_le] at *
      all_goals rw [List.drop_eq_nil_of_le (by omega), scanS] at hi3
      · rw [if_pos h] at hi3
        rw [← hi3]
      · rw [if_neg h] at hi3
        rw [← hi3]
    · refine csp_t (decide_eq_true (by omega)) ?_
      have hil : (i - 1).toNat < g.l.length := by omega
      have hv : g.l[(i - 1).toNat]? = some g.l[(i - 1).toNat] := List.getElem?_eq_getElem hil
      have hvk := hk _ (List.getElem_mem hil)
      have hcons : g.l.drop (i - 1).toNat = g.l[(i - 1).toNat] :: g.l.drop ((i - 1).toNat + 1) := List.drop_eq_getElem_cons hil
      generalize g.l[(i - 1).toNat] = v at hv hvk hcons
      refine cll (grid_nth g i v hi1 hv) (fun _ => ?_)
      refine csp_f (by rw [hvk]; rfl) ?_
      obtain ⟨c, hc, hcr⟩ : ∃ c, c = cmpI v.n X ∧ Ret Try.prog F_value_Cmp [eV v, eV ⟨1, X, s⟩] (.int .i64 c) := ⟨_, rfl, cmp_num v ⟨1, X, s⟩ hvk rfl⟩
      have hc3 : c = -1 ∨ c = 0 ∨ c = 1 := by
        rw [hc]
        unfold cmpI
        split
        · exact .inl rfl
        · split
          · exact .inr (.inl rfl)
          · exact .inr (.inr rfl)
      have hwr : IntKind.i64.wrap (c * how) = c * how := w64 (by rcases hc3 with h | h | h <;> rw [h] <;> omega)
      have hz : how = 0 → c * how = 0 := fun h => by rw [h, Int.mul_zero]
      rw [hcons, scanS, ← hc, show (i - 1).toNat + 1 = (i + 1 - 1).toNat by omega] at hi3
      refine cll hcr (fun _ => ?_)
      clear hc hcr hx h1 hk
      repeat' ((conv => whnf); (first | refine csp (fun h => ?_) (fun h => ?_) | (refine sda ?_ ?_; (focus (first | rfl | (simp; done)))) | refine sda ?_ ?_ | refine conk rfl ?_ | refine mapk (fun x hx => ?_) | intro hl))
      all_goals conv => whnf
      all_goals try simp only [decide_eq_true_eq, decide_eq_false_iff_not, Bool.not_eq_true', Bool.not_eq_false', List.length_map, Int.not_lt, Int.not_le, Decidable.not_not, gt_iff_lt, ge_iff_le] at *
      all_goals try rw [hwr] at *
      · rw [if_pos ⟨by assumption, h⟩] at hi3
        rw [← hi3]
      · exfalso
        omega
      · exfalso
        omega
      · exact absurd (by assumption) h
      · rw [if_neg (by omega), if_neg (by omega), if_pos h] at hi3
        refine ⟨i + 1, ?_, by trivial, ⟨by omega, by omega, ?_⟩, by omega⟩
        · rw [if_pos h, if_pos h, w64 (by omega)]
        · rw [← hi3, if_pos h, if_pos h]
      · rw [if_neg (by omega), if_pos (by omega), if_pos h] at hi3
        rw [← hi3]
      · rw [if_neg (by omega), if_pos (by omega), if_neg h] at hi3
        rw [← hi3]
      · rw [if_neg (by omega), if_neg (by omega), if_neg h] at hi3
        refine ⟨i + 1, ?_, by trivial, ⟨by omega, by omega, ?_⟩, by omega⟩
        · rw [if_neg h, w64 (by omega), show i + 1 - 1 = i by omega]
        · rw [← hi3, if_neg h, show i + 1 - 1 = i by omega]
      · exact absurd h (by assumption)
end Go.Proofs.Ytkkfclpodgagdaa
