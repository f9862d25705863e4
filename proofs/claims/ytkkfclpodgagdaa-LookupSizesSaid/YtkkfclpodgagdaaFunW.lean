/- What layer 21's helpers answer. -/
import Derived.Test.YtkkfclpodgagdaaFunV
set_option maxRecDepth 100000
set_option linter.all false
namespace Go.Proofs.Ytkkfclpodgagdaa
open Ab R
def oneS (a : Ar) : GV := if a.l.length = 1 ∧ goodA a = true then a.l.headD ⟨0, 0, e0⟩ else badS 2
theorem maths_One (a : Ar) : Ret Try.prog F_maths_One [eA a] (eV (oneS a)) := by
  refine r_maths_One rfl fun hw => ?_
  clear hw
  repeat' ((conv => whnf); (first | refine csp (fun h => ?_) (fun h => ?_) | refine cll (maths_Good _) (fun _ => ?_) | refine cll (value_Bad _) (fun _ => ?_) | (refine sda ?_ ?_; (focus (first | rfl | (simp; done)))) | refine sda ?_ ?_ | refine conk rfl ?_ | refine mapk (fun x hx => ?_) | intro hl))
  all_goals conv => whnf
  all_goals try simp only [decide_eq_true_eq, decide_eq_false_iff_not, Bool.not_eq_true', Bool.not_eq_false', List.length_map, Int.not_lt, Int.not_le, Decidable.not_not, gt_iff_lt, ge_iff_le] at *
  · rw [oneS, if_neg (fun q => by omega)]
  · rw [oneS, if_neg (by rw [h]; simp)]
  · omega
  · obtain ⟨r, c, l, m⟩ := a
    cases l with
    | nil => cases hx
    | cons y l =>
      cases hx
      rw [oneS, if_pos ⟨by omega, h⟩]
      rfl
def wholeS (n : Int) : Int × Bool := if goodN n = true ∧ n.tmod 10000 = 0 then (n.tdiv 10000, true) else (0, false)
theorem tdivb {n : Int} (h : goodN n = true) : -10000000 ≤ n.tdiv 10000 ∧ n.tdiv 10000 ≤ 10000000 := by
  simp only [goodN, decide_eq_true_eq] at h
  rw [Int.tdiv_eq_ediv]
  split
  · omega
  · simp only [show Int.sign 10000 = 1 from rfl]
    omega
theorem i64b {i : Int} (h : wfV 8 (.int .i64 i)) : -9223372036854775808 ≤ i ∧ i ≤ 9223372036854775807 := by
  have := (wrap_iff .i64 i).1 h
  exact this
theorem num_Whole (n : Int) : Ret Try.prog F_num_Whole [.int .i64 n] (.tup [.int .i64 (wholeS n).1, .bool (wholeS n).2]) := by
  refine r_num_Whole rfl fun hw => ?_
  clear hw
  repeat' ((conv => whnf); (first | refine csp (fun h => ?_) (fun h => ?_) | refine cll (num_Good _) (fun _ => ?_) | (refine sda ?_ ?_; (focus (first | rfl | (simp; done)))) | refine sda ?_ ?_ | refine conk rfl ?_ | refine mapk (fun x hx => ?_) | intro hl))
  all_goals conv => whnf
  all_goals try simp only [decide_eq_true_eq, decide_eq_false_iff_not, Bool.not_eq_true', Bool.not_eq_false', List.length_map, Int.not_lt, Int.not_le, Decidable.not_not, gt_iff_lt, ge_iff_le] at *
  · rw [wholeS, if_neg (by simp [h])]
  · rw [wholeS, if_neg (fun q => h q.2)]
  · have h1 : goodN n = true := by assumption
    have := tdivb h1
    rw [wholeS, if_pos ⟨h1, h⟩, w64 (by omega)]
theorem lookup_whole (k : Int) : Ret Try.prog F_lookup_whole [.int .i64 k] (eV (ofS (IntKind.i64.wrap (k * 10000)) true)) := by
  refine r_lookup_whole rfl fun hw => ?_
  repeat' ((conv => whnf); (first | refine csp (fun h => ?_) (fun h => ?_) | refine cll (value_Of _ _) (fun _ => ?_) | (refine sda ?_ ?_; (focus (first | rfl | (simp; done)))) | refine sda ?_ ?_ | refine conk rfl ?_ | refine mapk (fun x hx => ?_) | intro hl))
  all_goals conv => whnf
/-- A whole number of an argument, or the error's. -/
def intsS (v : GV) : Int × Int := if 0 < (toNumS v).2 then (0, (toNumS v).2) else if (wholeS (toNumS v).1).2 = true then ((wholeS (toNumS v).1).1, 0) else (0, 5)
theorem lookup_ints (a : Ar) (h2 : ¬ (oneS a).k = 2) : Ret Try.prog F_lookup_ints [eA a] (.tup [.int .i64 (intsS (oneS a)).1, .int .i64 (intsS (oneS a)).2]) := by
  refine r_lookup_ints rfl fun hw => ?_
  clear hw
  repeat' ((conv => whnf); (first | refine csp (fun h => ?_) (fun h => ?_) | refine cll (maths_One _) (fun _ => ?_) | refine cll (value_ToNum _ h2) (fun _ => ?_) | refine cll (num_Whole _) (fun _ => ?_) | (refine sda ?_ ?_; (focus (first | rfl | (simp; done)))) | refine sda ?_ ?_ | refine conk rfl ?_ | refine mapk (fun x hx => ?_) | intro hl))
  all_goals conv => whnf
  all_goals try simp only [decide_eq_true_eq, decide_eq_false_iff_not, Bool.not_eq_true', Bool.not_eq_false', List.length_map, Int.not_lt, Int.not_le, Decidable.not_not, gt_iff_lt, ge_iff_le] at *
  · rw [intsS, if_pos h]
  · rw [intsS, if_neg (by omega), if_neg (by simp [h])]
  · rw [intsS, if_neg (by omega), if_pos h]
/-- What a grid is in memory: the area. -/
theorem grid_line (a : Ar) : Ret Try.prog F_lookup_grid_line [eA a] (.bool (decide (a.rows = 1 ∨ a.cols = 1))) := by
  refine r_lookup_grid_line rfl fun hw => ?_
  clear hw
  repeat' ((conv => whnf); (first | refine csp (fun h => ?_) (fun h => ?_) | (refine sda ?_ ?_; (focus (first | rfl | (simp; done)))) | refine sda ?_ ?_ | refine conk rfl ?_ | refine mapk (fun x hx => ?_) | intro hl))
  all_goals conv => whnf
  all_goals simp_all
theorem grid_nth (a : Ar) (i : Int) (v : GV) (hi : 1 ≤ i) (hv : a.l[(i - 1).toNat]? = some v) : Ret Try.prog F_lookup_grid_nth [eA a, .int .i64 i] (eV v) := by
  refine r_lookup_grid_nth rfl fun hw => ?_
  have hb := i64b (hw (.int .i64 i) (by simp))
  clear hw
  have hlt := (List.getElem?_eq_some_iff.1 hv).1
  have hw1 := w64 (n := i - 1) (by omega)
  repeat' ((conv => whnf); (first | refine csp (fun h => ?_) (fun h => ?_) | (refine sda ?_ ?_; (focus (first | rfl | (simp; done)))) | refine sda ?_ ?_ | refine conk rfl ?_ | refine mapk (fun x hx => ?_) | intro hl))
  all_goals conv => whnf
  all_goals try simp only [decide_eq_true_eq, decide_eq_false_iff_not, Bool.not_eq_true', Bool.not_eq_false', List.length_map, Int.not_lt, Int.not_le, Decidable.not_not, gt_iff_lt, ge_iff_le] at *
  · rw [hw1]
    omega
  · rw [hw1] at hx
    rw [hx] at hv
    rw [Option.some.inj hv]
def atS (a : Ar) (r c : Int) : GV := if r < 1 ∨ r > a.rows ∨ c < 1 ∨ c > a.cols then badS 3 else (a.l[((r - 1) * a.cols + c - 1).toNat]?).getD ⟨0, 0, e0⟩
theorem goodA_out {a : Ar} (h : goodA a = true) : (1 ≤ a.rows ∧ 1 ≤ a.cols ∧ a.rows ≤ 4096 ∧ a.cols ≤ 4096 ∧ (a.l.length : Int) = a.rows * a.cols) ∧ a.l.all goodV = true := by
  unfold goodA at h
  simp only [Bool.and_eq_true, decide_eq_true_eq] at h
  exact h
theorem at_in {r c m n : Int} (h1 : 1 ≤ r) (h2 : r ≤ m) (h3 : 1 ≤ c) (h4 : c ≤ n) (h5 : m ≤ 4096) (h6 : n ≤ 4096) : 0 ≤ (r - 1) * n ∧ (r - 1) * n + n ≤ m * n ∧ m * n ≤ 16777216 := by
  refine ⟨Int.mul_nonneg (by omega) (by omega), ?_, (mulb (by omega) h5 (by omega) h6).2⟩
  have : (r - 1) * n + n = r * n := by rw [Int.sub_mul]; omega
  rw [this]
  exact Int.mul_le_mul_of_nonneg_right h2 (by omega)
theorem grid_at (a : Ar) (r c : Int) (hg : goodA a = true) : Ret Try.prog F_lookup_grid_at [eA a, .int .i64 r, .int .i64 c] (eV (atS a r c)) := by
  refine r_lookup_grid_at rfl fun hw => ?_
  clear hw
  obtain ⟨⟨g1, g2, g3, g4, g5⟩, _⟩ := goodA_out hg
  repeat' ((conv => whnf); (first | refine csp (fun h => ?_) (fun h => ?_) | refine cll (value_Bad _) (fun _ => ?_) | (refine sda ?_ ?_; (focus (first | rfl | (simp; done)))) | refine sda ?_ ?_ | refine conk rfl ?_ | refine mapk (fun x hx => ?_) | intro hl))
  all_goals conv => whnf
  all_goals try simp only [decide_eq_true_eq, decide_eq_false_iff_not, Bool.not_eq_true', Bool.not_eq_false', List.length_map, Int.not_lt, Int.not_le, Decidable.not_not, gt_iff_lt, ge_iff_le] at *
  · rw [atS, if_pos (by omega)]
  · rw [atS, if_pos (by omega)]
  · rw [atS, if_pos (by omega)]
  · rw [atS, if_pos (by omega)]
  · have := at_in (r := r) (c := c) (m := a.rows) (n := a.cols) (by omega) (by omega) (by omega) (by omega) g3 g4
    rw [w64 (n := r - 1) (by omega), w64 (n := (r - 1) * a.cols) (by omega), w64 (n := (r - 1) * a.cols + c) (by omega), w64 (by omega)]
    omega
  · have := at_in (r := r) (c := c) (m := a.rows) (n := a.cols) (by omega) (by omega) (by omega) (by omega) g3 g4
    rw [w64 (n := r - 1) (by omega), w64 (n := (r - 1) * a.cols) (by omega), w64 (n := (r - 1) * a.cols + c) (by omega), w64 (by omega)] at hx
    rw [atS, if_neg (by omega), hx]
    rfl
theorem take_all {l : List Ar} {n : Nat} {x : Ar} {p : Ar → Bool} (hx : l[n]? = some x) (h : (l.take n).all p = true) (hp : p x = true) : (l.take (n + 1)).all p = true := by
  rw [List.take_add_one, hx]
  simp only [Option.toList, List.all_append, h, List.all_cons, hp, List.all_nil, Bool.and_self]
theorem all_no {l : List Ar} {n : Nat} {x : Ar} {p : Ar → Bool} (hx : l[n]? = some x) (hp : p x = false) : l.all p = false := by
  rw [List.all_eq_false]
  exact ⟨x, List.mem_of_getElem? hx, by simp [hp]⟩
theorem bytesb {a b : Nat} (h1 : a ≤ 11) (h2 : Nat.ble b 1000 = true) : Nat.le (a * b) 140737488355327 := by
  have := Nat.le_of_ble_eq_true h2
  have := Nat.mul_le_mul h1 this
  show a * b ≤ 140737488355327
  omega
def goodsS (l : List Ar) : List Ar := if l.all goodA = true then l else []
theorem goods_no {l : List Ar} {n : Nat} {x : Ar} (hx : l[n]? = some x) (hp : goodA x = false) : goodsS l = [] := by
  rw [goodsS, if_neg (by rw [all_no hx hp]; decide)]
theorem lookup_goods (l : List Ar) (hs : l.length ≤ 10) : Ret Try.prog F_lookup_goods [.row false (l.map cA)] (.tup [.row false ((goodsS l).map cA), .bool (l.all goodA)]) := by
  refine r_lookup_goods rfl fun hw => ?_
  clear hw
  repeat' ((conv => whnf); (first | refine csp (fun h => ?_) (fun h => ?_) | (refine sda ?_ ?_; (focus (first | rfl | (simp; done)))) | refine sda ?_ ?_ | refine conk rfl ?_ | refine mapk (fun x hx => ?_) | intro hl))
  refine ⟨Nat, [4, 7, 8, 9], [2], fun n => [(4, match n with | 0 => .row true [] | n + 1 => .sl 0 0 (n + 1)), (7, .row false (l.map cA)), (8, .int .i64 (l.map cA).length), (9, .int .i64 n)], fun n => [match n with | 0 => .gone | n + 1 => .arr true 4 ((l.take (n + 1)).map cA)], fun n => n ≤ l.length ∧ (l.take n).all goodA = true, fun n => l.length - n, rfl, ?_, fun n hn => ?_⟩
  · exact ⟨0, rfl, rfl, by simp⟩
  · obtain ⟨hn1, hn2⟩ := hn
    cases n with
    | zero =>
      repeat' ((conv => whnf); (first | refine csp (fun h => ?_) (fun h => ?_) | refine cll (maths_Good _) (fun _ => ?_) | (refine sda ?_ ?_; (focus (first | rfl | (simp; done)))) | refine sda ?_ ?_ | refine conk rfl ?_ | refine mapk (fun x hx => ?_) | intro hl))
      · try simp only [decide_eq_true_eq, decide_eq_false_iff_not, Bool.not_eq_true', Bool.not_eq_false', List.length_map, Int.not_lt, Int.not_le, Decidable.not_not, gt_iff_lt, ge_iff_le] at *
        omega
      · conv => whnf
        rw [goods_no hx (by simpa using h), all_no hx (by simpa using h)]
        rfl
      · have hl : _ ∈ [cA x] := hl
        rw [List.mem_singleton.1 hl]
        rfl
      · exact Nat.le_of_ble_eq_true (by kernel_rfl)
      · conv => whnf
        have hx' : l[0]? = some x := hx
        have h1 : l.take 1 = [x] := by rw [List.take_add_one, hx']; rfl
        have hlt := (List.getElem?_eq_some_iff.1 hx').1
        refine ⟨1, rfl, ?_, ⟨by omega, ?_⟩, by simp only; omega⟩
        · show [O.arr true 4 [cA x]] = [O.arr true 4 ((l.take 1).map cA)]
          rw [h1]
          rfl
        · exact take_all hx' hn2 (by simpa using h)
      · conv => whnf
        try simp only [decide_eq_true_eq, decide_eq_false_iff_not, Bool.not_eq_true', Bool.not_eq_false', List.length_map, Int.not_lt, Int.not_le, Decidable.not_not, gt_iff_lt, ge_iff_le] at *
        obtain rfl : l = [] := List.eq_nil_of_length_eq_zero (by omega)
        rfl
    | succ n =>
      repeat' ((conv => whnf); (first | refine csp (fun h => ?_) (fun h => ?_) | refine cll (maths_Good _) (fun _ => ?_) | (refine sda ?_ ?_; (focus (first | rfl | (simp; done)))) | refine sda ?_ ?_ | refine conk rfl ?_ | refine mapk (fun x hx => ?_) | intro hl))
      · try simp only [decide_eq_true_eq, decide_eq_false_iff_not, Bool.not_eq_true', Bool.not_eq_false', List.length_map, Int.not_lt, Int.not_le, Decidable.not_not, gt_iff_lt, ge_iff_le] at *
        omega
      · conv => whnf
        rw [goods_no hx (by simpa using h), all_no hx (by simpa using h)]
        rfl
      · conv => whnf
        rw [List.length_map, List.length_take]
        omega
      · have hl : _ ∈ [cA x] := hl
        rw [List.mem_singleton.1 hl]
        rfl
      · rename_i e he c
        have he : e ∈ [cA x] := he
        rw [List.mem_singleton.1 he] at hl
        simp only [cA, List.mem_cons, List.not_mem_nil, or_false] at hl
        rcases hl with rfl | rfl | rfl | rfl <;> rfl
      · refine bytesb ?_ (by kernel_rfl)
        show (List.map cA (List.take (n + 1) l)).length + 1 ≤ 11
        rw [List.length_map, List.length_take]
        omega
      · conv => whnf
        have hx' : l[n + 1]? = some x := hx
        have hlt := (List.getElem?_eq_some_iff.1 hx').1
        have hln : (List.map cA (List.take (n + 1) l)).length = n + 1 := by rw [List.length_map, List.length_take]; omega
        have h1 : l.take (n + 1 + 1) = l.take (n + 1) ++ [x] := by rw [List.take_add_one (i := n + 1), hx']; rfl
        refine ⟨n + 2, ?_, ?_, ⟨by omega, take_all hx' hn2 (by simpa using h)⟩, by simp only; omega⟩
        · show [(4, V.sl 0 0 ((List.map cA (List.take (n + 1) l)).length + 1)), (7, V.row false (List.map cA l)), (8, V.int IntKind.i64 (List.map cA l).length), (9, V.int IntKind.i64 (IntKind.i64.wrap (((n + 1 : Nat) : Int) + 1)))] = [(4, V.sl 0 0 (n + 1 + 1)), (7, V.row false (List.map cA l)), (8, V.int IntKind.i64 (List.map cA l).length), (9, V.int IntKind.i64 ((n + 1 + 1 : Nat) : Int))]
          rw [hln, w64 (by omega)]
          rfl
        · show [O.arr true 4 (List.map cA (List.take (n + 1) l) ++ [cA x])] = [O.arr true 4 ((l.take (n + 1 + 1)).map cA)]
          rw [h1, List.map_append]
          rfl
      · conv => whnf
        try simp only [decide_eq_true_eq, decide_eq_false_iff_not, Bool.not_eq_true', Bool.not_eq_false', List.length_map, Int.not_lt, Int.not_le, Decidable.not_not, gt_iff_lt, ge_iff_le] at *
        have hn3 : n + 1 = l.length := by omega
        have h1 : l.take (n + 1) = l := by rw [hn3]; exact List.take_length
        rw [h1] at hn2 ⊢
        rw [hn2, goodsS, if_pos hn2, List.drop_zero, List.take_of_length_le (by rw [List.length_map]; omega)]
end Go.Proofs.Ytkkfclpodgagdaa
