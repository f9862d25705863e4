/- Layer 21's functions of numbers. -/
import Derived.Test.YtkkfclpodgagdaaFunX
set_option maxRecDepth 100000
set_option linter.all false
namespace Go.Proofs.Ytkkfclpodgagdaa
open Ab R
theorem goods1 (a : Ar) (h : goodA a = true) : Ret Try.prog F_lookup_goods [.row false [cA a]] (.tup [.row false [cA a], .bool true]) := by
  have := lookup_goods [a] (by simp)
  simpa [goodsS, h] using this
theorem goods2 (a b : Ar) (h : goodA a = true) (h2 : goodA b = true) : Ret Try.prog F_lookup_goods [.row false [cA a, cA b]] (.tup [.row false [cA a, cA b], .bool true]) := by
  have := lookup_goods [a, b] (by simp)
  simpa [goodsS, h, h2] using this
/-- MATCH of a number among numbers in one line, the nearest. -/
theorem place2 (x g : Ar) (X : Int) (s : ByteArray) (hx : oneS x = ⟨1, X, s⟩) (hg : goodA g = true) (hl : g.rows = 1 ∨ g.cols = 1) (hk : ∀ k ∈ g.l, k.k = 1) :
    Ret Try.prog F_lookup_place [.row false [cA x, cA g]] (eV (let m := scanS 1 X g.l 1 0; if 0 < m.2 then badS m.2 else ofS (IntKind.i64.wrap (m.1 * 10000)) true)) := by
  obtain ⟨⟨g1, g2, g3, g4, g5⟩, _⟩ := goodA_out hg
  have hm := mulb g1 g3 g2 g4
  have hgl := grid_line g
  rw [decide_eq_true hl] at hgl
  have hmt := match_nth x g (g.l.map cV).length 1 X s hx (by rw [List.length_map]) hk (by omega) (by rw [List.length_map]; omega)
  refine r_lookup_place rfl fun hw => ?_
  clear hw
  repeat' ((conv => whnf); (first | refine csp (fun h => ?_) (fun h => ?_) | refine cll (goods1 g hg) (fun _ => ?_) | refine cll (hgl) (fun _ => ?_) | refine cll (hmt) (fun _ => ?_) | refine cll (value_Bad _) (fun _ => ?_) | refine cll (lookup_whole _) (fun _ => ?_) | (refine sda ?_ ?_; (focus (first | rfl | (simp; done)))) | refine sda ?_ ?_ | refine conk rfl ?_ | refine mapk (fun x hx => ?_) | intro hl))
  all_goals conv => whnf
  all_goals try simp only [decide_eq_true_eq, decide_eq_false_iff_not, Bool.not_eq_true', Bool.not_eq_false', List.length_map, Int.not_lt, Int.not_le, Decidable.not_not, gt_iff_lt, ge_iff_le] at *
  · show eV _ = eV _
    rw [if_pos h]
  · show eV _ = eV _
    rw [if_neg (by omega)]
def isGV (v : GV) : Prop := v.k = 1
theorem place3 (x g w : Ar) (X : Int) (s : ByteArray) (hx : oneS x = ⟨1, X, s⟩) (hg : goodA g = true) (hl : g.rows = 1 ∨ g.cols = 1) (hk : ∀ k ∈ g.l, k.k = 1) (hw3 : ¬ (oneS w).k = 2) (hi : intsS (oneS w) = (0, 0)) :
    Ret Try.prog F_lookup_place [.row false [cA x, cA g, cA w]] (eV (let m := scanS 0 X g.l 1 0; if 0 < m.2 then badS m.2 else ofS (IntKind.i64.wrap (m.1 * 10000)) true)) := by
  obtain ⟨⟨g1, g2, g3, g4, g5⟩, _⟩ := goodA_out hg
  have hm := mulb g1 g3 g2 g4
  have hgl := grid_line g
  rw [decide_eq_true hl] at hgl
  have hmt := match_nth x g (g.l.map cV).length 0 X s hx (by rw [List.length_map]) hk (by omega) (by rw [List.length_map]; omega)
  have hit := lookup_ints w hw3
  rw [hi] at hit
  refine r_lookup_place rfl fun hw => ?_
  clear hw
  repeat' ((conv => whnf); (first | refine csp (fun h => ?_) (fun h => ?_) | refine cll (goods1 g hg) (fun _ => ?_) | refine cll (hgl) (fun _ => ?_) | refine cll (hmt) (fun _ => ?_) | refine cll (hit) (fun _ => ?_) | refine cll (value_Bad _) (fun _ => ?_) | refine cll (lookup_whole _) (fun _ => ?_) | (refine sda ?_ ?_; (focus (first | rfl | (simp; done)))) | refine sda ?_ ?_ | refine conk rfl ?_ | refine mapk (fun x hx => ?_) | intro hl))
  all_goals conv => whnf
  all_goals try simp only [decide_eq_true_eq, decide_eq_false_iff_not, Bool.not_eq_true', Bool.not_eq_false', List.length_map, Int.not_lt, Int.not_le, Decidable.not_not, gt_iff_lt, ge_iff_le] at *
  · show eV _ = eV _
    rw [if_pos h]
  · show eV _ = eV _
    rw [if_neg (by omega)]
theorem index2 (g w : Ar) (hg : goodA g = true) (hr : g.rows = 1) (hw2 : ¬ (oneS w).k = 2) (k : Int) (hi : intsS (oneS w) = (k, 0)) :
    Ret Try.prog F_lookup_index [.row false [cA g, cA w]] (eV (atS g 1 k)) := by
  have hit := lookup_ints w hw2
  rw [hi] at hit
  refine r_lookup_index rfl fun hw => ?_
  clear hw
  repeat' ((conv => whnf); (first | refine csp (fun h => ?_) (fun h => ?_) | refine cll (goods1 g hg) (fun _ => ?_) | refine cll (hit) (fun _ => ?_) | refine cll (value_Bad _) (fun _ => ?_) | refine cll (grid_at g 1 k hg) (fun _ => ?_) | (refine sda ?_ ?_; (focus (first | rfl | (simp; done)))) | refine sda ?_ ?_ | refine conk rfl ?_ | refine mapk (fun x hx => ?_) | intro hl))
  all_goals conv => whnf
  all_goals try simp only [decide_eq_true_eq, decide_eq_false_iff_not, Bool.not_eq_true', Bool.not_eq_false', List.length_map, Int.not_lt, Int.not_le, Decidable.not_not, gt_iff_lt, ge_iff_le] at *
  exact absurd hr h
theorem lines3 (x g w : Ar) (X : Int) (s : ByteArray) (hx : oneS x = ⟨1, X, s⟩) (hg : goodA g = true) (hl : g.rows = 1 ∨ g.cols = 1) (hk : ∀ k ∈ g.l, k.k = 1) (v : GV) (hf : (scanS 1 X g.l 1 0).2 = 0) (hf1 : 1 ≤ (scanS 1 X g.l 1 0).1) (hv : g.l[((scanS 1 X g.l 1 0).1 - 1).toNat]? = some v) :
    Ret Try.prog F_lookup_lines_1 [.row false [cA x, cA g, cA g], .elem [.int .i64 1]] (eV v) := by
  obtain ⟨⟨g1, g2, g3, g4, g5⟩, _⟩ := goodA_out hg
  have hm := mulb g1 g3 g2 g4
  have hgl := grid_line g
  rw [decide_eq_true hl] at hgl
  have hmt := match_nth x g (g.l.map cV).length 1 X s hx (by rw [List.length_map]) hk (by omega) (by rw [List.length_map]; omega)
  rw [hf] at hmt
  have hnt := grid_nth g _ v hf1 hv
  refine r_lookup_lines_1 rfl fun hw => ?_
  clear hw
  repeat' ((conv => whnf); (first | refine csp (fun h => ?_) (fun h => ?_) | refine cll (goods2 g g hg hg) (fun _ => ?_) | refine cll (hgl) (fun _ => ?_) | refine cll (hmt) (fun _ => ?_) | refine cll (hnt) (fun _ => ?_) | refine cll (value_Bad _) (fun _ => ?_) | (refine sda ?_ ?_; (focus (first | rfl | (simp; done)))) | refine sda ?_ ?_ | refine conk rfl ?_ | refine mapk (fun x hx => ?_) | intro hl))
  all_goals conv => whnf
  all_goals try simp only [decide_eq_true_eq, decide_eq_false_iff_not, Bool.not_eq_true', Bool.not_eq_false', List.length_map, Int.not_lt, Int.not_le, Decidable.not_not, gt_iff_lt, ge_iff_le] at *
  exact absurd trivial h
theorem find_MATCH : Ret Try.prog F_lookup_find [.str ⟨#[77, 65, 84, 67, 72]⟩] (.tup [.fn F_lookup_place [] [], .int .i64 2, .int .i64 3]) := by
  refine r_lookup_find rfl fun hw => ?_
  clear hw
  repeat' ((conv => whnf); (first | refine csp (fun h => ?_) (fun h => ?_) | (refine sda ?_ ?_; (focus (first | rfl | (simp; done)))) | refine sda ?_ ?_ | refine conk rfl ?_ | refine mapk (fun x hx => ?_) | intro hl))
  all_goals conv => whnf
theorem find_INDEX : Ret Try.prog F_lookup_find [.str ⟨#[73, 78, 68, 69, 88]⟩] (.tup [.fn F_lookup_index [] [], .int .i64 2, .int .i64 3]) := by
  refine r_lookup_find rfl fun hw => ?_
  clear hw
  repeat' ((conv => whnf); (first | refine csp (fun h => ?_) (fun h => ?_) | (refine sda ?_ ?_; (focus (first | rfl | (simp; done)))) | refine sda ?_ ?_ | refine conk rfl ?_ | refine mapk (fun x hx => ?_) | intro hl))
  all_goals conv => whnf
theorem find_LOOKUP : Ret Try.prog F_lookup_find [.str ⟨#[76, 79, 79, 75, 85, 80]⟩] (.tup [.fn F_lookup_lines_1 [] [.elem [.int .i64 1]], .int .i64 3, .int .i64 3]) := by
  refine r_lookup_find rfl fun hw => ?_
  clear hw
  repeat' ((conv => whnf); (first | refine csp (fun h => ?_) (fun h => ?_) | refine cll (lookup_lines _) (fun _ => ?_) | (refine sda ?_ ?_; (focus (first | rfl | (simp; done)))) | refine sda ?_ ?_ | refine conk rfl ?_ | refine mapk (fun x hx => ?_) | intro hl))
  all_goals conv => whnf
theorem lookup_sized_2 : Ret Try.prog F_lookup_sized [.fn F_lookup_find_2 [] []] (.fn F_lookup_sized_1 [] [.elem [.fn F_lookup_find_2 [] []]]) := by
  refine r_lookup_sized rfl fun hw => ?_
  clear hw
  repeat' ((conv => whnf); (first | refine csp (fun h => ?_) (fun h => ?_) | (refine sda ?_ ?_; (focus (first | rfl | (simp; done)))) | refine sda ?_ ?_ | refine conk rfl ?_ | refine mapk (fun x hx => ?_) | intro hl))
  all_goals conv => whnf
theorem find_COLUMNS : Ret Try.prog F_lookup_find [.str ⟨#[67, 79, 76, 85, 77, 78, 83]⟩] (.tup [.fn F_lookup_sized_1 [] [.elem [.fn F_lookup_find_2 [] []]], .int .i64 1, .int .i64 1]) := by
  refine r_lookup_find rfl fun hw => ?_
  clear hw
  repeat' ((conv => whnf); (first | refine csp (fun h => ?_) (fun h => ?_) | refine cll (lookup_sized_2) (fun _ => ?_) | (refine sda ?_ ?_; (focus (first | rfl | (simp; done)))) | refine sda ?_ ?_ | refine conk rfl ?_ | refine mapk (fun x hx => ?_) | intro hl))
  all_goals conv => whnf
theorem find_2 (g : Ar) : Ret Try.prog F_lookup_find_2 [eA g] (.int .i64 g.cols) := by
  refine r_lookup_find_2 rfl fun hw => ?_
  clear hw
  repeat' ((conv => whnf); (first | refine csp (fun h => ?_) (fun h => ?_) | (refine sda ?_ ?_; (focus (first | rfl | (simp; done)))) | refine sda ?_ ?_ | refine conk rfl ?_ | refine mapk (fun x hx => ?_) | intro hl))
  all_goals conv => whnf
theorem sized_2 (g : Ar) (hg : goodA g = true) : Ret Try.prog F_lookup_sized_1 [.row false [cA g], .elem [.fn F_lookup_find_2 [] []]] (eV (ofS (IntKind.i64.wrap (g.cols * 10000)) true)) := by
  refine r_lookup_sized_1 rfl fun hw => ?_
  clear hw
  repeat' ((conv => whnf); (first | refine csp (fun h => ?_) (fun h => ?_) | refine cll (goods1 g hg) (fun _ => ?_) | refine cll (value_Bad _) (fun _ => ?_) | refine cll (find_2 g) (fun _ => ?_) | refine cll (lookup_whole _) (fun _ => ?_) | (refine sda ?_ ?_; (focus (first | rfl | (simp; done)))) | refine sda ?_ ?_ | refine conk rfl ?_ | refine mapk (fun x hx => ?_) | intro hl))
  all_goals conv => whnf
end Go.Proofs.Ytkkfclpodgagdaa
