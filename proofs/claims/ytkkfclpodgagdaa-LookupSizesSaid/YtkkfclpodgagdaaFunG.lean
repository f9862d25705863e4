/- The second writings of goodness; how much a law looks at. -/
import Derived.Test.YtkkfclpodgagdaaFunW
set_option maxRecDepth 100000
set_option linter.all false
namespace Go.Proofs.Ytkkfclpodgagdaa
open Ab R
theorem ref05_Good (n : Int) : Ret Try.prog F_octavoref05_Good [.int .i64 n] (.bool (goodN n)) := by
  refine r_octavoref05_Good rfl fun _ => ?_
  repeat' ((conv => whnf); (first | refine csp (fun h => ?_) (fun h => ?_) | (refine sda ?_ ?_; (focus (first | rfl | (simp; done)))) | refine sda ?_ ?_ | refine conk rfl ?_ | refine mapk (fun x hx => ?_) | intro hl))
  all_goals conv => whnf
  all_goals simp_all [goodN]
  all_goals omega
theorem ref06_Good (v : GV) : Ret Try.prog F_octavoref06_Good [eV v] (.bool (goodV v)) := by
  refine r_octavoref06_Good rfl fun hw => ?_
  clear hw
  repeat' ((conv => whnf); (first | refine csp (fun h => ?_) (fun h => ?_) | refine cll (ref05_Good _) (fun _ => ?_) | (refine sda ?_ ?_; (focus (first | rfl | (simp; done)))) | refine sda ?_ ?_ | refine conk rfl ?_ | refine mapk (fun x hx => ?_) | intro hl))
  all_goals conv => whnf
  all_goals simp_all [goodV]
  all_goals omega
theorem ref17_Good (a : Ar) : Ret Try.prog F_octavoref17_Good [eA a] (.bool (goodA a)) := by
  refine r_octavoref17_Good rfl fun hw => ?_
  clear hw
  repeat' ((conv => whnf); (first | refine csp (fun h => ?_) (fun h => ?_) | (refine sda ?_ ?_; (focus (first | rfl | (simp; done)))) | refine sda ?_ ?_ | refine conk rfl ?_ | refine mapk (fun x hx => ?_) | intro hl))
  rotate_right
  · try simp only [decide_eq_true_eq, decide_eq_false_iff_not, Bool.not_eq_true', Bool.not_eq_false', List.length_map, Int.not_lt, Int.not_le, Decidable.not_not, gt_iff_lt, ge_iff_le] at *
    have hm := mulb (r := a.rows) (c := a.cols) (by omega) (by omega) (by omega) (by omega)
    have hL : (a.l.length : Int) = a.rows * a.cols := by
      have := w64 (n := a.rows * a.cols) (by omega)
      omega
    refine ⟨Int, [35, 36, 37], [], fun i => [(35, .row false (a.l.map cV)), (36, .int .i64 a.l.length), (37, .int .i64 i)], fun _ => [], fun i => 0 ≤ i ∧ i ≤ a.l.length ∧ (a.l.take i.toNat).all goodV = true, fun i => (a.l.length - i).toNat, rfl, ?_, fun i hi => ?_⟩
    · exact ⟨0, rfl, rfl, by simp⟩
    · obtain ⟨hi0, hi1, hi2⟩ := hi
      repeat' ((conv => whnf); (first | refine csp (fun h => ?_) (fun h => ?_) | refine cll (ref06_Good _) (fun _ => ?_) | (refine sda ?_ ?_; (focus (first | rfl | (simp; done)))) | refine sda ?_ ?_ | refine conk rfl ?_ | refine mapk (fun x hx => ?_) | intro hl))
      · try simp only [decide_eq_true_eq, decide_eq_false_iff_not, Bool.not_eq_true', Bool.not_eq_false', List.length_map, Int.not_lt, Int.not_le, Decidable.not_not, gt_iff_lt, ge_iff_le] at *
        omega
      · conv => whnf
        rw [goodA_no hx (by simpa using h)]
      · conv => whnf
        try simp only [decide_eq_true_eq, decide_eq_false_iff_not, Bool.not_eq_true', Bool.not_eq_false', List.length_map, Int.not_lt, Int.not_le, Decidable.not_not, gt_iff_lt, ge_iff_le] at *
        have hw1 := w64 (n := i + 1) (by omega)
        refine ⟨i + 1, by rw [hw1], by trivial, ⟨by omega, by omega, ?_⟩, by omega⟩
        rw [show (i + 1).toNat = i.toNat + 1 by omega]
        exact take_good hx hi2 h
      · conv => whnf
        try simp only [decide_eq_true_eq, decide_eq_false_iff_not, Bool.not_eq_true', Bool.not_eq_false', List.length_map, Int.not_lt, Int.not_le, Decidable.not_not, gt_iff_lt, ge_iff_le] at *
        rw [goodA_yes (by omega)]
        have : a.l.take i.toNat = a.l := List.take_of_length_le (by omega)
        rwa [this] at hi2
  all_goals conv => whnf
  all_goals try simp only [decide_eq_true_eq, decide_eq_false_iff_not, Bool.not_eq_true', Bool.not_eq_false', List.length_map, Int.not_lt, Int.not_le, Decidable.not_not, gt_iff_lt, ge_iff_le] at *
  · rw [goodA_bad (by omega)]
  · rw [goodA_bad (by omega)]
  · rw [goodA_bad (by omega)]
  · rw [goodA_bad (by omega)]
  · have hm := mulb (r := a.rows) (c := a.cols) (by omega) (by omega) (by omega) (by omega)
    rw [w64 (by omega)] at h
    rw [goodA_bad (by omega)]
def lightV (n : Int) (v : GV) : Int := IntKind.i64.wrap (n + IntKind.i64.wrap ((v.s.size : Int).tdiv 50))
def lightA (n : Int) (a : Ar) : Int := a.l.foldl lightV (IntKind.i64.wrap (n + a.l.length))
def lightS (l : List Ar) : Bool := decide (l.foldl lightA l.length < 400)
theorem fold_take {α β : Type} {f : β → α → β} {b : β} {l : List α} {i : Nat} {x : α} (hx : l[i]? = some x) : (l.take (i + 1)).foldl f b = f ((l.take i).foldl f b) x := by
  rw [List.take_add_one, hx]
  simp [List.foldl_append]
theorem law_light (l : List Ar) : Ret Try.prog F_octavolaw21_light [.row false (l.map cA)] (.bool (lightS l)) := by
  refine r_octavolaw21_light rfl fun hw => ?_
  clear hw
  repeat' ((conv => whnf); (first | refine csp (fun h => ?_) (fun h => ?_) | (refine sda ?_ ?_; (focus (first | rfl | (simp; done)))) | refine sda ?_ ?_ | refine conk rfl ?_ | refine mapk (fun x hx => ?_) | intro hl))
  try simp only [decide_eq_true_eq, decide_eq_false_iff_not, Bool.not_eq_true', Bool.not_eq_false', List.length_map, Int.not_lt, Int.not_le, Decidable.not_not, gt_iff_lt, ge_iff_le] at *
  refine ⟨Nat, [3, 10, 11, 12], [], fun i => [(3, .int .i64 ((l.take i).foldl lightA l.length)), (10, .row false (l.map cA)), (11, .int .i64 l.length), (12, .int .i64 i)], fun _ => [], fun i => i ≤ l.length, fun i => l.length - i, rfl, ?_, fun i hi => ?_⟩
  · exact ⟨0, rfl, by trivial, Nat.zero_le _⟩
  · repeat' ((conv => whnf); (first | refine csp (fun h => ?_) (fun h => ?_) | (refine sda ?_ ?_; (focus (first | rfl | (simp; done)))) | refine sda ?_ ?_ | refine conk rfl ?_ | refine mapk (fun x hx => ?_) | intro hl))
    · try simp only [decide_eq_true_eq, decide_eq_false_iff_not, Bool.not_eq_true', Bool.not_eq_false', List.length_map, Int.not_lt, Int.not_le, Decidable.not_not, gt_iff_lt, ge_iff_le] at *
      omega
    · rename Ar => y
      rename l[_]? = some y => hy
      have hy' : l[i]? = some y := hy
      have hly : y.l.length ≤ 9223372036854775807 := by simpa using hl
      have hlt := (List.getElem?_eq_some_iff.1 hy').1
      try simp only [decide_eq_true_eq, decide_eq_false_iff_not, Bool.not_eq_true', Bool.not_eq_false', List.length_map, Int.not_lt, Int.not_le, Decidable.not_not, gt_iff_lt, ge_iff_le] at *
      refine ⟨Nat, [3, 10, 11, 12, 22, 23, 24], [], fun k => [(3, .int .i64 ((y.l.take k).foldl lightV (IntKind.i64.wrap ((l.take i).foldl lightA l.length + y.l.length)))), (10, .row false (l.map cA)), (11, .int .i64 l.length), (12, .int .i64 i), (22, .row false (y.l.map cV)), (23, .int .i64 y.l.length), (24, .int .i64 k)], fun _ => [], fun k => k ≤ y.l.length, fun k => y.l.length - k, rfl, ?_, fun k hk => ?_⟩
      · exact ⟨0, rfl, by trivial, Nat.zero_le _⟩
      · repeat' ((conv => whnf); (first | refine csp (fun h => ?_) (fun h => ?_) | (refine sda ?_ ?_; (focus (first | rfl | (simp; done)))) | refine sda ?_ ?_ | refine conk rfl ?_ | refine mapk (fun x hx => ?_) | intro hl))
        all_goals conv => whnf
        all_goals try simp only [decide_eq_true_eq, decide_eq_false_iff_not, Bool.not_eq_true', Bool.not_eq_false', List.length_map, Int.not_lt, Int.not_le, Decidable.not_not, gt_iff_lt, ge_iff_le] at *
        · omega
        · have hx' : y.l[k]? = some x := hx
          refine ⟨k + 1, ?_, by trivial, by omega, by omega⟩
          rw [fold_take hx', w64 (n := (k : Int) + 1) (by omega)]
          rfl
        · refine ⟨i + 1, ?_, by trivial, by omega, by omega⟩
          have hk2 : y.l.take k = y.l := List.take_of_length_le (by omega)
          rw [fold_take hy', w64 (n := (i : Int) + 1) (by omega), hk2]
          rfl
    · conv => whnf
      try simp only [decide_eq_true_eq, decide_eq_false_iff_not, Bool.not_eq_true', Bool.not_eq_false', List.length_map, Int.not_lt, Int.not_le, Decidable.not_not, gt_iff_lt, ge_iff_le] at *
      have : l.take i = l := List.take_of_length_le (by omega)
      rw [this]
      rfl
end Go.Proofs.Ytkkfclpodgagdaa
