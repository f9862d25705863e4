/- What the functions answer, and the law. -/
import Derived.Test.YtllceoncpgebpaaGreatDoorR
import Derived.Test.YtllceoncpgebpaaGreatDoorB
import Derived.Test.YtllceoncpgebpaaGreatDoorPl
import Derived.Test.YtllceoncpgebpaaGreatDoorPx8
import Derived.Test.YtllceoncpgebpaaGreatDoorFn
set_option maxRecDepth 100000
set_option linter.all false
namespace Go.Proofs.YtllceoncpgebpaaGreatDoor
open Ab R
def empA (l : List Ar) (n : Nat) : Bool := ((l[n]?).map fun a => a.l.isEmpty).getD false
def sl5 (l : List Ar) : Nat → V
 | 0 => .row true []
 | n + 1 => if empA l n = true then .sl 0 0 (n + 1) else .sl 1 0 (n + 1)
def ob5 (l : List Ar) : Nat → List O
 | 0 => [.gone, .gone]
 | n + 1 => if empA l n = true then [.arr true 4 ((l.take (n + 1)).map cA), .gone] else [.arr false 3 ((((l[n]?).map fun a => a.l).getD []).map cV), .arr true 4 ((l.take (n + 1)).map cA)]
theorem emp_1 {l : List Ar} {n : Nat} {x : Ar} (hx : l[n]? = some x) (h : (x.l.map cV).isEmpty = true) : empA l n = true ∧ x.l = [] := by
 have : x.l = [] := by
  cases hl : x.l with
  | nil => rfl
  | cons a b => rw [hl] at h; cases h
 exact ⟨by rw [empA, hx]; simp [this], this⟩
theorem emp_0 {l : List Ar} {n : Nat} {x : Ar} (hx : l[n]? = some x) (h : (x.l.map cV).isEmpty = false) : ¬ empA l n = true := by
 rw [empA, hx]
 cases hl : x.l with
 | nil => rw [hl] at h; cases h
 | cons a b => simp [hl]
theorem cA_0 {x : Ar} (h : x.l = []) : [V.int IntKind.i64 x.rows, .int .i64 x.cols, .row false [], .bool x.many] = cA x := by
 show _ = [V.int IntKind.i64 x.rows, .int .i64 x.cols, .row false (x.l.map cV), .bool x.many]
 rw [h]
 rfl
theorem cA_1 {x : Ar} : [V.int IntKind.i64 x.rows, .int .i64 x.cols, .row false (List.take (([] : List (List V)).length + x.l.length) (List.drop 0 ([] ++ List.map cV x.l))), .bool x.many] = cA x := by
 show _ = [V.int IntKind.i64 x.rows, .int .i64 x.cols, .row false (x.l.map cV), .bool x.many]
 rw [List.nil_append, List.drop_zero, List.take_of_length_le (by simp)]
theorem take_map {l : List Ar} {n : Nat} {x : Ar} (hx : l[n]? = some x) : (l.take n).map cA ++ [cA x] = (l.take (n + 1)).map cA := by
 rw [List.take_add_one, hx, List.map_append]
 rfl
theorem logicCalls_ret (nm : ByteArray) (l : List Ar) (h1 : nm.size ≤ 140737488351232) (h2 : l.length * 48 ≤ 140737488351232 ∧ l.length ≤ 9223372036854775807 ∧ ∀ x ∈ l, (IntKind.i64.wrap x.rows = x.rows) ∧ ((IntKind.i64.wrap x.cols = x.cols) ∧ ((x.l.length * 32 ≤ 140737488351232 ∧ x.l.length ≤ 9223372036854775807 ∧ ∀ y ∈ x.l, ((IntKind.i64.wrap y.k = y.k) ∧ ((IntKind.i64.wrap y.n = y.n) ∧ (y.s.size ≤ 140737488351232)))) ∧ True))) : Ret Tryz.prog F_octavolaw19_LogicCalls [.str nm, .row false (l.map cA)] (.bool true) := by
 have hlt := law_light19 l
 obtain ⟨v, b, k1, k2, k3, k4⟩ := both19 nm l
 obtain ⟨b1, _, b2⟩ := h2
 have b3 : ∀ {n : Nat} {x : Ar}, l[n]? = some x → x.l.length * 32 ≤ 140737488351232 := fun hx => (b2 _ (List.mem_of_getElem? hx)).2.2.1.1
 clear b2
 by_cases hq : lightS l = true
 ·rw [hq] at hlt
  refine r_octavolaw19_LogicCalls rfl fun hw => ?_
  clear hw
  repeat' ((conv => whnf); (first | refine pickk0 ?_ | refine csp (fun h => ?_) (fun h => ?_) | refine cllo (hlt) (fun _ => ?_) | (refine sda ?_ ?_; (focus (first | rfl | exact of_decide_eq_true rfl | (simp; done)))) | refine sda ?_ ?_ | refine conk rfl ?_ | refine ldk rfl ?_ | refine mapk (fun x hx => ?_) | exact ⟨rfl, rfl⟩ | refine nilk (fun h => absurd h (of_decide_eq_false rfl)) ?_ | refine nilk (fun h => absurd h (List.cons_ne_nil _ _)) ?_ | refine nilk (fun h => ?_) ?_ | exact rfl | refine leftk1 rfl ?_ | refine bytk8 rfl ?_ | refine bytk rfl ?_ | exact leftk0 rfl | refine eqk rfl ?_ | refine fLm rfl ?_ | refine fLk (by assumption) ?_ | refine fVk ?_ | refine fLVk ?_ | refine fWk ?_ | intro hl))
  clear hl
  refine .inl ⟨Nat, [0, 1, 5, 19, 20, 21], [4, 5], fun n => [(0, .str nm), (1, .row false (l.map cA)), (5, sl5 l n), (19, .row false (l.map cA)), (20, .int .i64 (l.map cA).length), (21, .int .i64 n)], fun n => ob5 l n, fun n => n ≤ l.length, fun n => l.length - n, rfl, ?_, fun n hn => ?_⟩
  ·exact ⟨0, rfl, rfl, Nat.zero_le _⟩
  ·cases n with
   | zero =>
    repeat' ((conv => whnf); (first | refine pickk0 ?_ | refine csp (fun h => ?_) (fun h => ?_) | (refine sda ?_ ?_; (focus (first | rfl | exact of_decide_eq_true rfl | (simp; done)))) | refine sda ?_ ?_ | refine conk rfl ?_ | refine ldk rfl ?_ | refine mapk (fun x hx => ?_) | exact ⟨rfl, rfl⟩ | refine nilk (fun h => absurd h (of_decide_eq_false rfl)) ?_ | refine nilk (fun h => absurd h (List.cons_ne_nil _ _)) ?_ | refine nilk (fun h => ?_) ?_ | exact rfl | refine leftk1 rfl ?_ | refine bytk8 rfl ?_ | refine bytk rfl ?_ | exact leftk0 rfl | refine eqk rfl ?_ | refine fLm rfl ?_ | refine fLk (by assumption) ?_ | refine fVk ?_ | refine fLVk ?_ | refine fWk ?_ | intro hl))
    all_goals conv => whnf
    all_goals (try try simp only [tz] at *)
    ·omega
    ·have hx' : l[0]? = some x := hx
     obtain ⟨e1, e2⟩ := emp_1 hx' (by assumption)
     refine ⟨1, ?_, ?_, by omega, by omega⟩
     ·rw [sl5, if_pos e1]
      rfl
     ·rw [ob5, if_pos e1, cA_0 e2, ← take_map hx']
      rfl
    ·rename _ ∈ _ => hm
     obtain ⟨y, _, rfl⟩ := List.mem_map.1 hm
     rfl
    ·have hx' : l[0]? = some x := hx
     have := b3 hx'
     show (0 + x.l.length) * 32 ≤ 140737488355327
     omega
    ·have hx' : l[0]? = some x := hx
     have e1 := emp_0 hx' (by assumption)
     refine ⟨1, ?_, ?_, by omega, by omega⟩
     ·rw [sl5, if_neg e1]
      rfl
     ·rw [ob5, if_neg e1, cA_1, ← take_map hx', hx']
      rfl
    ·obtain rfl : l = [] := List.eq_nil_of_length_eq_zero (by omega)
     repeat' ((conv => whnf); (first | refine pickk0 ?_ | refine csp (fun h => ?_) (fun h => ?_) | refine cllo (k1) (fun _ => ?_) | refine cllo (k2) (fun _ => ?_) | refine cllo (k3) (fun _ => ?_) | refine cllo (k4) (fun _ => ?_) | refine Or.inr (Or.inl ⟨1, ?_⟩) | refine cllo (l19_lives) (fun _ => ?_) | (refine sda ?_ ?_; (focus (first | rfl | exact of_decide_eq_true rfl | (simp; done)))) | refine sda ?_ ?_ | refine conk rfl ?_ | refine ldk rfl ?_ | refine mapk (fun x hx => ?_) | exact ⟨rfl, rfl⟩ | refine nilk (fun h => absurd h (of_decide_eq_false rfl)) ?_ | refine nilk (fun h => absurd h (List.cons_ne_nil _ _)) ?_ | refine nilk (fun h => ?_) ?_ | exact rfl | refine leftk1 rfl ?_ | refine bytk8 rfl ?_ | refine bytk rfl ?_ | exact leftk0 rfl | refine eqk rfl ?_ | refine fLm rfl ?_ | refine fLk (by assumption) ?_ | refine fVk ?_ | refine fLVk ?_ | refine fWk ?_ | intro hl))
     all_goals conv => whnf
     all_goals (try try simp only [tz] at *)
     all_goals (simp at h)
   | succ n =>
    by_cases he : empA l n = true
    ·have e1 : sl5 l (n + 1) = .sl 0 0 (n + 1) := if_pos he
     have e2 : ob5 l (n + 1) = [.arr true 4 ((l.take (n + 1)).map cA), .gone] := if_pos he
     dsimp only
     revert e1 e2
     generalize sl5 l (n + 1) = w1
     generalize ob5 l (n + 1) = w2
     rintro rfl rfl
     have el : (List.take (n + 1) l).length = n + 1 := by rw [List.length_take]; omega
     have hfin : l.length ≤ n + 1 → List.take (n + 1) (List.drop 0 (List.map cA (List.take (n + 1) l))) = l.map cA := fun q => by
      rw [List.take_of_length_le (l := l) q, List.drop_zero, List.take_of_length_le (by rw [List.length_map]; exact q)]
     repeat' ((conv => whnf); (first | refine pickk0 ?_ | refine csp (fun h => ?_) (fun h => ?_) | (refine sda ?_ ?_; (focus (first | rfl | exact of_decide_eq_true rfl | (simp; done)))) | refine sda ?_ ?_ | refine conk rfl ?_ | refine ldk rfl ?_ | refine mapk (fun x hx => ?_) | exact ⟨rfl, rfl⟩ | refine nilk (fun h => absurd h (of_decide_eq_false rfl)) ?_ | refine nilk (fun h => absurd h (List.cons_ne_nil _ _)) ?_ | refine nilk (fun h => ?_) ?_ | exact rfl | refine leftk1 rfl ?_ | refine bytk8 rfl ?_ | refine bytk rfl ?_ | exact leftk0 rfl | refine eqk rfl ?_ | refine fLm rfl ?_ | refine fLk (by assumption) ?_ | refine fVk ?_ | refine fLVk ?_ | refine fWk ?_ | intro hl))
     all_goals conv => whnf
     all_goals (try try simp only [tz] at *)
     ·omega
     ·exact el.symm
     ·show ((List.take (n + 1) l).length + 1) * 48 ≤ 140737488355327
      omega
     ·have hx' : l[n + 1]? = some x := hx
      obtain ⟨e1, e2⟩ := emp_1 hx' (by assumption)
      refine ⟨n + 2, ?_, ?_, by omega, by omega⟩
      ·rw [sl5, if_pos e1, el, w64 (by omega)]
       rfl
      ·rw [ob5, if_pos e1, cA_0 e2, take_map hx']
     ·rename _ ∈ _ => hm
      obtain ⟨y, _, rfl⟩ := List.mem_map.1 hm
      rfl
     ·have hx' : l[n + 1]? = some x := hx
      have := b3 hx'
      show (0 + x.l.length) * 32 ≤ 140737488355327
      omega
     ·exact el.symm
     ·show ((List.take (n + 1) l).length + 1) * 48 ≤ 140737488355327
      omega
     ·have hx' : l[n + 1]? = some x := hx
      have e1 := emp_0 hx' (by assumption)
      refine ⟨n + 2, ?_, ?_, by omega, by omega⟩
      ·rw [sl5, if_neg e1, el, w64 (by omega)]
       rfl
      ·rw [ob5, if_neg e1, cA_1, take_map hx', hx']
       rfl
     ·have k1' := k1
      rw [← hfin (by omega)] at k1'
      have hfi := hfin (by omega)
      repeat' ((conv => whnf); (first | refine pickk0 ?_ | refine csp (fun h => ?_) (fun h => ?_) | refine cllo (k1') (fun _ => ?_) | refine cllo (k2) (fun _ => ?_) | refine cllo (k3) (fun _ => ?_) | refine cllo (k4) (fun _ => ?_) | (refine sda ?_ ?_; (focus (first | rfl | exact of_decide_eq_true rfl | (simp; done)))) | refine sda ?_ ?_ | refine conk rfl ?_ | refine ldk rfl ?_ | refine mapk (fun x hx => ?_) | exact ⟨rfl, rfl⟩ | refine nilk (fun h => absurd h (of_decide_eq_false rfl)) ?_ | refine nilk (fun h => absurd h (List.cons_ne_nil _ _)) ?_ | refine nilk (fun h => ?_) ?_ | exact rfl | refine leftk1 rfl ?_ | refine bytk8 rfl ?_ | refine bytk rfl ?_ | exact leftk0 rfl | refine eqk rfl ?_ | refine fLm rfl ?_ | refine fLk (by assumption) ?_ | refine fVk ?_ | refine fLVk ?_ | refine fWk ?_ | intro hl))
      ·conv => whnf
       simp at h
      ·conv => whnf
       simp at h
      ·conv => whnf
       simp at h
      ·conv => whnf
       simp at h
      clear h
      refine .inr (.inr (.inr ⟨Nat, [1, 5, 70, 71], [], fun i => [(1, .row false (l.map cA)), (5, .row false (l.map cA)), (70, .int .i64 l.length), (71, .int .i64 i)], fun _ => [], fun i => i ≤ l.length, fun i => l.length - i, rfl, ?_, fun i hi => ?_⟩))
      ·conv => whnf
       refine ⟨0, ?_, rfl, Nat.zero_le _⟩
       rw [hfi]
       simp only [List.length_map]
       rfl
      ·repeat' ((conv => whnf); (first | refine pickk0 ?_ | refine csp (fun h => ?_) (fun h => ?_) | refine cllo (l19_lives) (fun _ => ?_) | (refine sda ?_ ?_; (focus (first | rfl | exact of_decide_eq_true rfl | (simp; done)))) | refine sda ?_ ?_ | refine conk rfl ?_ | refine ldk rfl ?_ | refine mapk (fun x hx => ?_) | exact ⟨rfl, rfl⟩ | refine nilk (fun h => absurd h (of_decide_eq_false rfl)) ?_ | refine nilk (fun h => absurd h (List.cons_ne_nil _ _)) ?_ | refine nilk (fun h => ?_) ?_ | exact rfl | refine leftk1 rfl ?_ | refine bytk8 rfl ?_ | refine bytk rfl ?_ | exact leftk0 rfl | refine eqk rfl ?_ | refine fLm rfl ?_ | refine fLk (by assumption) ?_ | refine fVk ?_ | refine fLVk ?_ | refine fWk ?_ | intro hl))
       all_goals conv => whnf
       all_goals (try try simp only [tz] at *)
       ·omega
       ·rename Ar => y
        rename l[_]? = some y => hy
        have hy' : l[i]? = some y := hy
        clear hy
        refine .inl ⟨Nat, [1, 5, 13, 70, 71, 79, 80], [], fun k => [(1, .row false (l.map cA)), (5, .row false (l.map cA)), (13, .int .i64 i), (70, .int .i64 l.length), (71, .int .i64 i), (79, .int .i64 y.l.length), (80, .int .i64 k)], fun _ => [], fun k => k ≤ y.l.length, fun k => y.l.length - k, rfl, ?_, fun k hk => ?_⟩
        ·exact ⟨0, rfl, rfl, Nat.zero_le _⟩
        ·repeat' ((conv => whnf); (first | refine pickk0 ?_ | refine csp (fun h => ?_) (fun h => ?_) | (refine sda ?_ ?_; (focus (first | rfl | exact of_decide_eq_true rfl | (simp; done)))) | refine sda ?_ ?_ | refine conk rfl ?_ | refine ldk rfl ?_ | refine mapk (fun x hx => ?_) | exact ⟨rfl, rfl⟩ | refine nilk (fun h => absurd h (of_decide_eq_false rfl)) ?_ | refine nilk (fun h => absurd h (List.cons_ne_nil _ _)) ?_ | refine nilk (fun h => ?_) ?_ | exact rfl | refine leftk1 rfl ?_ | refine bytk8 rfl ?_ | refine bytk rfl ?_ | exact leftk0 rfl | refine eqk rfl ?_ | refine fLm rfl ?_ | refine fLk (by assumption) ?_ | refine fVk ?_ | refine fLVk ?_ | refine fWk ?_ | intro hl))
         all_goals conv => whnf
         all_goals (try try simp only [tz] at *)
         ·omega
         ·have e : x = y := Option.some.inj (hx.symm.trans hy')
          rw [e]
          omega
         ·omega
         ·have e : x = y := Option.some.inj (hx.symm.trans hy')
          rw [e]
          omega
         ·rename_i a1 ha1 g1 hg1 a2 ha2 hlt
          obtain rfl : a1 = a2 := Option.some.inj (ha1.symm.trans ha2)
          obtain rfl : g1 = x := Option.some.inj (hg1.symm.trans hx)
          simp at h
         ·exact ⟨k + 1, by rw [w64 (by omega)]; rfl, by trivial, by omega, by omega⟩
         ·exact ⟨i + 1, by rw [w64 (by omega)]; rfl, by trivial, by omega, by omega⟩
    ·have e1 : sl5 l (n + 1) = .sl 1 0 (n + 1) := if_neg he
     have e2 : ob5 l (n + 1) = [.arr false 3 ((((l[n]?).map fun a => a.l).getD []).map cV), .arr true 4 ((l.take (n + 1)).map cA)] := if_neg he
     dsimp only
     revert e1 e2
     generalize sl5 l (n + 1) = w1
     generalize ob5 l (n + 1) = w2
     rintro rfl rfl
     have el : (List.take (n + 1) l).length = n + 1 := by rw [List.length_take]; omega
     have hfin : l.length ≤ n + 1 → List.take (n + 1) (List.drop 0 (List.map cA (List.take (n + 1) l))) = l.map cA := fun q => by
      rw [List.take_of_length_le (l := l) q, List.drop_zero, List.take_of_length_le (by rw [List.length_map]; exact q)]
     repeat' ((conv => whnf); (first | refine pickk0 ?_ | refine csp (fun h => ?_) (fun h => ?_) | (refine sda ?_ ?_; (focus (first | rfl | exact of_decide_eq_true rfl | (simp; done)))) | refine sda ?_ ?_ | refine conk rfl ?_ | refine ldk rfl ?_ | refine mapk (fun x hx => ?_) | exact ⟨rfl, rfl⟩ | refine nilk (fun h => absurd h (of_decide_eq_false rfl)) ?_ | refine nilk (fun h => absurd h (List.cons_ne_nil _ _)) ?_ | refine nilk (fun h => ?_) ?_ | exact rfl | refine leftk1 rfl ?_ | refine bytk8 rfl ?_ | refine bytk rfl ?_ | exact leftk0 rfl | refine eqk rfl ?_ | refine fLm rfl ?_ | refine fLk (by assumption) ?_ | refine fVk ?_ | refine fLVk ?_ | refine fWk ?_ | intro hl))
     all_goals conv => whnf
     all_goals (try try simp only [tz] at *)
     ·omega
     ·exact el.symm
     ·show ((List.take (n + 1) l).length + 1) * 48 ≤ 140737488355327
      omega
     ·have hx' : l[n + 1]? = some x := hx
      obtain ⟨e1, e2⟩ := emp_1 hx' (by assumption)
      refine ⟨n + 2, ?_, ?_, by omega, by omega⟩
      ·rw [sl5, if_pos e1, el, w64 (by omega)]
       rfl
      ·rw [ob5, if_pos e1, cA_0 e2, take_map hx']
     ·rename _ ∈ _ => hm
      obtain ⟨y, _, rfl⟩ := List.mem_map.1 hm
      rfl
     ·have hx' : l[n + 1]? = some x := hx
      have := b3 hx'
      show (0 + x.l.length) * 32 ≤ 140737488355327
      omega
     ·exact el.symm
     ·show ((List.take (n + 1) l).length + 1) * 48 ≤ 140737488355327
      omega
     ·have hx' : l[n + 1]? = some x := hx
      have e1 := emp_0 hx' (by assumption)
      refine ⟨n + 2, ?_, ?_, by omega, by omega⟩
      ·rw [sl5, if_neg e1, el, w64 (by omega)]
       rfl
      ·rw [ob5, if_neg e1, cA_1, take_map hx', hx']
       rfl
     ·have k1' := k1
      rw [← hfin (by omega)] at k1'
      have hfi := hfin (by omega)
      repeat' ((conv => whnf); (first | refine pickk0 ?_ | refine csp (fun h => ?_) (fun h => ?_) | refine cllo (k1') (fun _ => ?_) | refine cllo (k2) (fun _ => ?_) | refine cllo (k3) (fun _ => ?_) | refine cllo (k4) (fun _ => ?_) | (refine sda ?_ ?_; (focus (first | rfl | exact of_decide_eq_true rfl | (simp; done)))) | refine sda ?_ ?_ | refine conk rfl ?_ | refine ldk rfl ?_ | refine mapk (fun x hx => ?_) | exact ⟨rfl, rfl⟩ | refine nilk (fun h => absurd h (of_decide_eq_false rfl)) ?_ | refine nilk (fun h => absurd h (List.cons_ne_nil _ _)) ?_ | refine nilk (fun h => ?_) ?_ | exact rfl | refine leftk1 rfl ?_ | refine bytk8 rfl ?_ | refine bytk rfl ?_ | exact leftk0 rfl | refine eqk rfl ?_ | refine fLm rfl ?_ | refine fLk (by assumption) ?_ | refine fVk ?_ | refine fLVk ?_ | refine fWk ?_ | intro hl))
      ·conv => whnf
       simp at h
      ·conv => whnf
       simp at h
      ·conv => whnf
       simp at h
      ·conv => whnf
       simp at h
      clear h
      refine .inr (.inr (.inr ⟨Nat, [1, 5, 70, 71], [], fun i => [(1, .row false (l.map cA)), (5, .row false (l.map cA)), (70, .int .i64 l.length), (71, .int .i64 i)], fun _ => [], fun i => i ≤ l.length, fun i => l.length - i, rfl, ?_, fun i hi => ?_⟩))
      ·conv => whnf
       refine ⟨0, ?_, rfl, Nat.zero_le _⟩
       rw [hfi]
       simp only [List.length_map]
       rfl
      ·repeat' ((conv => whnf); (first | refine pickk0 ?_ | refine csp (fun h => ?_) (fun h => ?_) | refine cllo (l19_lives) (fun _ => ?_) | (refine sda ?_ ?_; (focus (first | rfl | exact of_decide_eq_true rfl | (simp; done)))) | refine sda ?_ ?_ | refine conk rfl ?_ | refine ldk rfl ?_ | refine mapk (fun x hx => ?_) | exact ⟨rfl, rfl⟩ | refine nilk (fun h => absurd h (of_decide_eq_false rfl)) ?_ | refine nilk (fun h => absurd h (List.cons_ne_nil _ _)) ?_ | refine nilk (fun h => ?_) ?_ | exact rfl | refine leftk1 rfl ?_ | refine bytk8 rfl ?_ | refine bytk rfl ?_ | exact leftk0 rfl | refine eqk rfl ?_ | refine fLm rfl ?_ | refine fLk (by assumption) ?_ | refine fVk ?_ | refine fLVk ?_ | refine fWk ?_ | intro hl))
       all_goals conv => whnf
       all_goals (try try simp only [tz] at *)
       ·omega
       ·rename Ar => y
        rename l[_]? = some y => hy
        have hy' : l[i]? = some y := hy
        clear hy
        refine .inl ⟨Nat, [1, 5, 13, 70, 71, 79, 80], [], fun k => [(1, .row false (l.map cA)), (5, .row false (l.map cA)), (13, .int .i64 i), (70, .int .i64 l.length), (71, .int .i64 i), (79, .int .i64 y.l.length), (80, .int .i64 k)], fun _ => [], fun k => k ≤ y.l.length, fun k => y.l.length - k, rfl, ?_, fun k hk => ?_⟩
        ·exact ⟨0, rfl, rfl, Nat.zero_le _⟩
        ·repeat' ((conv => whnf); (first | refine pickk0 ?_ | refine csp (fun h => ?_) (fun h => ?_) | (refine sda ?_ ?_; (focus (first | rfl | exact of_decide_eq_true rfl | (simp; done)))) | refine sda ?_ ?_ | refine conk rfl ?_ | refine ldk rfl ?_ | refine mapk (fun x hx => ?_) | exact ⟨rfl, rfl⟩ | refine nilk (fun h => absurd h (of_decide_eq_false rfl)) ?_ | refine nilk (fun h => absurd h (List.cons_ne_nil _ _)) ?_ | refine nilk (fun h => ?_) ?_ | exact rfl | refine leftk1 rfl ?_ | refine bytk8 rfl ?_ | refine bytk rfl ?_ | exact leftk0 rfl | refine eqk rfl ?_ | refine fLm rfl ?_ | refine fLk (by assumption) ?_ | refine fVk ?_ | refine fLVk ?_ | refine fWk ?_ | intro hl))
         all_goals conv => whnf
         all_goals (try try simp only [tz] at *)
         ·omega
         ·have e : x = y := Option.some.inj (hx.symm.trans hy')
          rw [e]
          omega
         ·omega
         ·have e : x = y := Option.some.inj (hx.symm.trans hy')
          rw [e]
          omega
         ·rename_i a1 ha1 g1 hg1 a2 ha2 hlt
          obtain rfl : a1 = a2 := Option.some.inj (ha1.symm.trans ha2)
          obtain rfl : g1 = x := Option.some.inj (hg1.symm.trans hx)
          simp at h
         ·exact ⟨k + 1, by rw [w64 (by omega)]; rfl, by trivial, by omega, by omega⟩
         ·exact ⟨i + 1, by rw [w64 (by omega)]; rfl, by trivial, by omega, by omega⟩
 ·rw [Bool.eq_false_iff.2 hq] at hlt
  refine r_octavolaw19_LogicCalls rfl fun hw => ?_
  clear hw
  repeat' ((conv => whnf); (first | refine csp (fun h => ?_) (fun h => ?_) | refine cllo (hlt) (fun _ => ?_) | refine cllo (l19_lives) (fun _ => ?_) | (refine sda ?_ ?_; (focus (first | rfl | (simp; done)))) | refine sda ?_ ?_ | refine conk rfl ?_ | refine ldk rfl ?_ | refine mapk (fun x hx => ?_) | exact ⟨rfl, rfl⟩ | refine nilk (fun h => ?_) ?_ | intro hl))
  all_goals conv => whnf
end Go.Proofs.YtllceoncpgebpaaGreatDoor
