/- What the functions answer, and the law. -/
import Derived.Test.YtcbknemdidehlaaGreatDoorR
import Derived.Test.YtcbknemdidehlaaGreatDoorB
import Derived.Test.YtcbknemdidehlaaGreatDoorPl
import Derived.Test.YtcbknemdidehlaaGreatDoorSh
import Derived.WalkKit
import Derived.BigCall
import Derived.Test.YtcbknemdidehlaaGreatDoorPx4
import Derived.Test.YtcbknemdidehlaaGreatDoorPx2
import Derived.Test.YtcbknemdidehlaaGreatDoorPx3
import Derived.Test.YtcbknemdidehlaaGreatDoorPx1
import Derived.Test.YtcbknemdidehlaaGreatDoorFn
set_option maxRecDepth 100000
set_option linter.all false
namespace Go.Proofs.YtcbknemdidehlaaGreatDoor
open Ab R P Vl Go.RowKit
theorem Ab.RetL.allocS {P : Program} {f : FuncId} {args : List V} {vs : List Value} {xs : List ByteArray} {T : Nat} (hcall : ∀ ar w, (callFunc f ar).run P w = .ok (.enter f ar) w) (ha : Sames args vs) (hz : ∀ c ∈ xs, c.size ≤ 9223372036854775807) (hz9 : xs.length ≤ 9223372036854775807) (hg : 0 ∈ gvars)
  (h : ∀ (w : World) (n : Int), w.cell? ⟨0, 0, none⟩ = some (.int .i64 n) → Calls P f vs.toArray w fun e w' => e = .returned (.slice (some ⟨w.heap.size, 0, none⟩) xs.length xs.length) ∧ w' = w.alloc (.cells (xs.map Value.string).toArray T)) : RetL P f args [] (.sl 0 0 xs.length) [.arr true 1 (xs.map cS)] := by
 intro m w ys ι hmo rv
 have hι : ι = [] := List.eq_nil_of_length_eq_zero hmo.len
 subst hι
 rw [sames_repL ha rv]
 unfold CallsX
 rw [hcall]
 obtain ⟨n, hn⟩ := hmo.glo 0 hg
 refine (h w n (hmo.mok _ _ _ hn)).mono fun e w' ⟨he, hw'⟩ => ?_
 subst hw'
 have hb : Below w.heap.size w (w.alloc (.cells (xs.map Value.string).toArray T)) := (Below.refl _ w).alloc (Nat.le_refl _) _
 have hok : m.ok (w.alloc (.cells (xs.map Value.string).toArray T)) := fun b o v hv => by
  rw [World.cell?_of_block (w := w) (a := ⟨b, o, none⟩) (hb.block b (hmo.mok.lt hv))]
  exact hmo.mok b o v hv
 have hh : (w.alloc (.cells (xs.map Value.string).toArray T)).heap[w.heap.size]? = some (.cells (xs.map Value.string).toArray T (0, 0)) := heap_alloc_new w _
 have hlm : (xs.map cS).length = xs.length := List.length_map _
 have hno : ∀ o, m w.heap.size o = none := fun o => by
  cases q : m w.heap.size o with
  | none => rfl
  | some v => have := hmo.mok.lt q; omega
 have hgl : w.heap.size < (w.alloc (.cells (xs.map Value.string).toArray T)).heap.size := (Array.getElem?_eq_some_iff.1 hh).1
 have ob : Ob m [⟨w.heap.size, xs.length, 1, xs.length⟩] (w.alloc (.cells (xs.map Value.string).toArray T)) ⟨w.heap.size, xs.length, 1, xs.length⟩ (.arr true 1 (xs.map cS)) := by
  refine ⟨xs.map Value.string, T, (0, 0), rfl, hh, by simp, by rw [hlm]; exact Nat.le_refl _, hlm, by rw [hlm]; exact hz9, fun el hel => ?_, fun i j el c hi hj => ?_, ⟨Nat.le_refl _, fun i _ q => by simp at q⟩, fun o _ => hno o, fun _ o => hno o⟩
  ·obtain ⟨p, _, rfl⟩ := List.mem_map.1 hel
   rfl
  ·rw [List.getElem?_map] at hi
   cases hx : xs[i]? with
   | none => rw [hx] at hi; cases hi
   | some p =>
    rw [hx] at hi
    cases hi
    cases j with
    | zero =>
     cases hj
     refine ⟨.string p, ?_, .str [] p (hz p (List.mem_of_getElem? hx))⟩
     rw [Nat.mul_one, Nat.add_zero, List.getElem?_map, hx]
     rfl
    | succ j => cases hj
 refine ⟨_, he, m, [⟨w.heap.size, xs.length, 1, xs.length⟩], ?_, ?_⟩
 ·exact
  {mle := fun _ _ _ q => q
   glo := hmo.glo
   mok := hok
   fresh := fun b o x hx h0 => by rw [hx] at h0; cases h0
   below := hmo.below.on hb
   len := rfl
   obj := fun i o β ho hβ => by
    cases i with
    | zero => cases ho; cases hβ; exact ob
    | succ i => cases ho
   own := fun i o β ho hβ _ => by
    cases i with
    | zero => cases ho; cases hβ; exact ⟨.inl (Nat.le_refl _), hgl⟩
    | succ i => cases ho
   inj := fun i j o p β γ ho hp hβ hγ _ _ hij => by
    cases i with
    | zero =>
     cases j with
     | zero => exact absurd rfl hij
     | succ j => cases hp
    | succ i => cases ho
   pin := fun i β hi => by cases i <;> cases hi }
 ·exact .sl _ 0 0 xs.length _ xs.length ⟨w.heap.size, xs.length, 1, xs.length⟩ rfl (Nat.le_refl _) (by simp) (by simp) hz9 (fun _ => by simp)
def spl (s t : ByteArray) : List ByteArray := Lib.splitB t 0 (Lib.countB s t) s
theorem spl_len (s t : ByteArray) (h1 : 1 ≤ t.size) : (spl s t).length = Lib.countB s t + 1 := Lib.splitB_all t h1 0 _ s rfl
theorem splitB_size (t : ByteArray) : ∀ (k : Nat) (s : ByteArray), ∀ c ∈ Lib.splitB t 0 k s, c.size ≤ s.size := by
 intro k
 induction k with
 | zero =>
  intro s c hc
  rw [Lib.splitB_zero, List.mem_singleton] at hc
  rw [hc]
  exact Nat.le_refl _
 | succ k ih =>
  intro s c hc
  by_cases hi : Lib.indexB s t = -1
  ·rw [Lib.splitB_miss t 0 (k + 1) s hi, List.mem_singleton] at hc
   rw [hc]
   exact Nat.le_refl _
  ·obtain ⟨i, hi, _⟩ := (Lib.indexB_cases s t).resolve_left hi
   rw [Lib.splitB_hit t 0 k s i hi] at hc
   rcases List.mem_cons.1 hc with rfl | hc
   ·rw [ByteArray.size_extract]
    omega
   ·have := ih _ c hc
    rw [ByteArray.size_extract] at this
    omega
theorem spl_ok (s t : ByteArray) (hs : s.size ≤ 255) (h1 : 1 ≤ t.size) : (spl s t).length ≤ 256 ∧ ∀ c ∈ spl s t, c.size ≤ 255 := by
 have h9 := Lib.countB_le t h1 s.size s (Nat.le_refl _)
 refine ⟨by rw [spl_len s t h1]; omega, fun c hc => ?_⟩
 have := splitB_size t _ s c hc
 omega
theorem Split_o (s t : ByteArray) (hs : s.size ≤ 255) (h1 : 1 ≤ t.size) : RetL Tryz.prog F_strings_Split [.str s, .str t] [] (.sl 0 0 (spl s t).length) [.arr true 1 ((spl s t).map cS)] := by
 obtain ⟨z1, z2⟩ := spl_ok s t hs h1
 refine Ab.RetL.allocS (T := 9) Tryz.call110 (vs := [.string s, .string t]) ⟨same_str s, same_str t, True.intro⟩ (fun c hc => by have := z2 c hc; omega) (by omega) g0 (fun w n hn => ?_)
 have := Tryz.strings_Split s t n w (by omega) hn h1
 rw [← spl_len s t h1] at this
 exact this
theorem trim_1_c (s : ByteArray) : Ret Tryz.prog F_texts_trim_1 [.str s] (.bool (decide (s = e0))) := by
 refine r_texts_trim_1 rfl fun hw => ?_
 clear hw
 repeat' ((conv => whnf); (first | refine csp (fun h => ?_) (fun h => ?_) | (refine sda ?_ ?_; (focus (first | rfl | (simp; done)))) | refine sda ?_ ?_ | refine conk rfl ?_ | refine ldk rfl ?_ | refine mapk (fun x hx => ?_) | exact ⟨rfl, rfl⟩ | refine nilk (fun h => ?_) ?_ | intro hl))
 all_goals conv => whnf
def idxE : List ByteArray → Int
 | [] => -1
 | c :: l => if c = e0 then 0 else if idxE l = -1 then -1 else idxE l + 1
theorem idxE_at : ∀ (l : List ByteArray), (idxE l = -1 ∧ ∀ c ∈ l, c ≠ e0) ∨ ∃ i : Nat, idxE l = i ∧ l[i]? = some e0 ∧ ∀ (j : Nat) c, j < i → l[j]? = some c → c ≠ e0
 | [] => .inl ⟨rfl, fun c hc => by cases hc⟩
 | c :: l => by
  by_cases h : c = e0
  ·exact .inr ⟨0, by rw [idxE, if_pos h]; rfl, by rw [h]; rfl, fun j c hj => by omega⟩
  ·rcases idxE_at l with ⟨h1, h2⟩ | ⟨i, h1, h2, h3⟩
   ·refine .inl ⟨by rw [idxE, if_neg h, if_pos h1], fun d hd => ?_⟩
    rcases List.mem_cons.1 hd with rfl | hd
    ·exact h
    ·exact h2 d hd
   ·refine .inr ⟨i + 1, by rw [idxE, if_neg h, h1, if_neg (by omega)]; omega, h2, fun j d hj hd => ?_⟩
    cases j with
    | zero => obtain rfl := Option.some.inj hd; exact h
    | succ j => exact h3 j d (by omega) hd
theorem IndexFunc_c (l : List ByteArray) (h9 : l.length ≤ 1000) : RetL Tryz.prog F_slices_IndexFunc_string_string [.sl 0 0 l.length, .fn F_texts_trim_1 [] []] [.arr true 1 (l.map cS)] (.int .i64 (idxE l)) [.arr true 1 (l.map cS)] := by
 have hlm : (l.map cS).length = l.length := List.length_map _
 refine rl_slices_IndexFunc_string_string rfl fun hw _ => ?_
 clear hw
 repeat' ((conv => whnf); (first | refine Bth.mk ?_ ?_ | refine pickk0 ?_ | refine csp (fun h => ?_) (fun h => ?_) | (refine sda ?_ ?_; (focus (first | rfl | exact of_decide_eq_true rfl | (simp; done)))) | refine sda ?_ ?_ | refine conk rfl ?_ | refine ldk rfl ?_ | refine mapk (fun x hx => ?_) | exact ⟨rfl, rfl⟩ | refine nilk (fun h => absurd h (of_decide_eq_false rfl)) ?_ | refine nilk (fun h => absurd h (List.cons_ne_nil _ _)) ?_ | refine nilk (fun h => ?_) ?_ | exact rfl | exact True.intro | refine leftk1 rfl ?_ | refine bytk8 rfl ?_ | refine bytk rfl ?_ | exact leftk0 rfl | refine eqk rfl ?_ | refine fLm rfl ?_ | refine fLk (by assumption) ?_ | refine fVk ?_ | refine fLVk ?_ | refine fWk ?_ | intro hl))
 refine .inl ⟨Nat, [0, 1, 7, 8], [0], fun i => [(0, .sl 0 0 l.length), (1, .fn F_texts_trim_1 [] []), (7, .int .i64 l.length), (8, .int .i64 i)], fun _ => [.arr true 1 (l.map cS)], fun i => i ≤ l.length ∧ ∀ (j : Nat) c, j < i → l[j]? = some c → c ≠ e0, fun i => l.length - i, rfl, ?_, fun i hi => ?_⟩
 ·exact ⟨0, rfl, rfl, by omega, fun j c hj => by omega⟩
 ·obtain ⟨hi1, hi2⟩ := hi
  by_cases hin : i < l.length
  ·have d1 : decide ((i : Int) < ((l.length : Nat) : Int)) = true := decide_eq_true (by omega)
   obtain ⟨x, hx⟩ : ∃ x, l[i]? = some x := ⟨_, List.getElem?_eq_getElem hin⟩
   have hc : (l.map cS)[0 + ((i : Nat) : Int).toNat]? = some (cS x) := by rw [Int.toNat_natCast, Nat.zero_add, List.getElem?_map, hx]; rfl
   have d2 : 0 ≤ (i : Int) ∧ (i : Int) < ((l.length : Nat) : Int) := by omega
   have d3 : 0 + ((i : Nat) : Int).toNat < (l.map cS).length := by rw [hlm, Int.toNat_natCast]; omega
   by_cases hxe : x = e0
   ·have d4 : decide (x = e0) = true := decide_eq_true hxe
    have hidx : idxE l = (i : Int) := by
     rcases idxE_at l with ⟨h1, h2⟩ | ⟨k, h1, h2, h3⟩
     ·exact absurd hxe (h2 x (List.mem_of_getElem? hx))
     ·rcases Nat.lt_trichotomy k i with q | q | q
      ·exact absurd rfl (hi2 k e0 q h2)
      ·rw [h1, q]
      ·exact absurd hxe (h3 i x q hx)
    have ht := trim_1_c x
    rw [d4] at ht
    repeat' ((conv => whnf); (first | refine Bth.mk ?_ ?_ | refine csp_t (d1) ?_ | refine sda (d2) ?_ | refine sda (d3) ?_ | refine pickk0 ?_ | refine csp (fun h => ?_) (fun h => ?_) | refine conk hc ?_ | refine cllo (ht) (fun _ => ?_) | (refine sda ?_ ?_; (focus (first | rfl | exact of_decide_eq_true rfl | (simp; done)))) | refine sda ?_ ?_ | refine conk rfl ?_ | refine ldk rfl ?_ | refine mapk (fun x hx => ?_) | exact ⟨rfl, rfl⟩ | refine nilk (fun h => absurd h (of_decide_eq_false rfl)) ?_ | refine nilk (fun h => absurd h (List.cons_ne_nil _ _)) ?_ | refine nilk (fun h => ?_) ?_ | exact rfl | exact True.intro | refine leftk1 rfl ?_ | refine bytk8 rfl ?_ | refine bytk rfl ?_ | exact leftk0 rfl | refine eqk rfl ?_ | refine fLm rfl ?_ | refine fLk (by assumption) ?_ | refine fVk ?_ | refine fLVk ?_ | refine fWk ?_ | intro hl))
    all_goals conv => whnf
    all_goals exact ⟨by rw [hidx], rfl⟩
   ·have d4 : decide (x = e0) = false := decide_eq_false hxe
    have ht := trim_1_c x
    rw [d4] at ht
    repeat' ((conv => whnf); (first | refine Bth.mk ?_ ?_ | refine csp_t (d1) ?_ | refine sda (d2) ?_ | refine sda (d3) ?_ | refine pickk0 ?_ | refine csp (fun h => ?_) (fun h => ?_) | refine conk hc ?_ | refine cllo (ht) (fun _ => ?_) | (refine sda ?_ ?_; (focus (first | rfl | exact of_decide_eq_true rfl | (simp; done)))) | refine sda ?_ ?_ | refine conk rfl ?_ | refine ldk rfl ?_ | refine mapk (fun x hx => ?_) | exact ⟨rfl, rfl⟩ | refine nilk (fun h => absurd h (of_decide_eq_false rfl)) ?_ | refine nilk (fun h => absurd h (List.cons_ne_nil _ _)) ?_ | refine nilk (fun h => ?_) ?_ | exact rfl | exact True.intro | refine leftk1 rfl ?_ | refine bytk8 rfl ?_ | refine bytk rfl ?_ | exact leftk0 rfl | refine eqk rfl ?_ | refine fLm rfl ?_ | refine fLk (by assumption) ?_ | refine fVk ?_ | refine fLVk ?_ | refine fWk ?_ | intro hl))
    all_goals conv => whnf
    refine ⟨i + 1, by rw [w64 (by omega)]; rfl, rfl, ⟨by omega, fun j c hj hcj => ?_⟩, by show l.length - (i + 1) < l.length - i; omega⟩
    by_cases q : j = i
    ·subst q
     rw [hx] at hcj
     obtain rfl := Option.some.inj hcj
     exact hxe
    ·exact hi2 j c (by omega) hcj
  ·have d1 : decide ((i : Int) < ((l.length : Nat) : Int)) = false := decide_eq_false (by omega)
   have hidx : idxE l = -1 := by
    rcases idxE_at l with ⟨h1, h2⟩ | ⟨k, h1, h2, h3⟩
    ·exact h1
    ·exact absurd rfl (hi2 k e0 (by have := (List.getElem?_eq_some_iff.1 h2).1; omega) h2)
   repeat' ((conv => whnf); (first | refine Bth.mk ?_ ?_ | refine csp_f (d1) ?_ | refine pickk0 ?_ | refine csp (fun h => ?_) (fun h => ?_) | (refine sda ?_ ?_; (focus (first | rfl | exact of_decide_eq_true rfl | (simp; done)))) | refine sda ?_ ?_ | refine conk rfl ?_ | refine ldk rfl ?_ | refine mapk (fun x hx => ?_) | exact ⟨rfl, rfl⟩ | refine nilk (fun h => absurd h (of_decide_eq_false rfl)) ?_ | refine nilk (fun h => absurd h (List.cons_ne_nil _ _)) ?_ | refine nilk (fun h => ?_) ?_ | exact rfl | exact True.intro | refine leftk1 rfl ?_ | refine bytk8 rfl ?_ | refine bytk rfl ?_ | exact leftk0 rfl | refine eqk rfl ?_ | refine fLm rfl ?_ | refine fLk (by assumption) ?_ | refine fVk ?_ | refine fLVk ?_ | refine fWk ?_ | intro hl))
   all_goals conv => whnf
   all_goals exact ⟨by rw [hidx], rfl⟩
def neE (l : List ByteArray) : List ByteArray := l.filter fun x => !decide (x = e0)
theorem neE_all {l : List ByteArray} (h : ∀ c ∈ l, c ≠ e0) : neE l = l := List.filter_eq_self.2 fun c hc => by simp [h c hc]
theorem neE_next {l : List ByteArray} {j : Nat} {x : ByteArray} (hx : l[j]? = some x) : neE (l.take (j + 1)) = neE (l.take j) ++ (if x = e0 then [] else [x]) := by
 rw [neE, List.take_add_one, hx, List.filter_append]
 congr 1
 by_cases h : x = e0 <;> simp [h]
theorem neE_len (l : List ByteArray) : (neE l).length ≤ l.length := List.length_filter_le _ _
theorem DeleteFunc_c (l : List ByteArray) (h9 : l.length ≤ 1000) : ∃ t : List ByteArray, RetL Tryz.prog F_slices_DeleteFunc_string_string [.sl 0 0 l.length, .fn F_texts_trim_1 [] []] [.arr true 1 (l.map cS)] (.sl 0 0 (neE l).length) [.arr true 1 ((neE l ++ t).map cS)] := by
 have hI := IndexFunc_c l h9
 have hlm : (l.map cS).length = l.length := List.length_map _
 rcases idxE_at l with ⟨h1, h2⟩ | ⟨k, h1, h2, h3⟩
 ·rw [h1] at hI
  refine ⟨[], ?_⟩
  rw [neE_all h2, List.append_nil]
  refine rl_slices_DeleteFunc_string_string rfl fun hw _ => ?_
  clear hw
  repeat' ((conv => whnf); (first | refine Bth.mk ?_ ?_ | refine pickk0 ?_ | refine csp (fun h => ?_) (fun h => ?_) | refine clll (hI) (fun _ _ => ?_) | (refine sda ?_ ?_; (focus (first | rfl | exact of_decide_eq_true rfl | (simp; done)))) | refine sda ?_ ?_ | refine conk rfl ?_ | refine ldk rfl ?_ | refine mapk (fun x hx => ?_) | exact ⟨rfl, rfl⟩ | refine nilk (fun h => absurd h (of_decide_eq_false rfl)) ?_ | refine nilk (fun h => absurd h (List.cons_ne_nil _ _)) ?_ | refine nilk (fun h => ?_) ?_ | exact rfl | exact True.intro | refine leftk1 rfl ?_ | refine bytk8 rfl ?_ | refine bytk rfl ?_ | exact leftk0 rfl | refine eqk rfl ?_ | refine fLm rfl ?_ | refine fLk (by assumption) ?_ | refine fVk ?_ | refine fLVk ?_ | refine fWk ?_ | intro hl))
  all_goals conv => whnf
  all_goals exact ⟨rfl, rfl⟩
 ·rw [h1] at hI
  have hkl : k < l.length := (List.getElem?_eq_some_iff.1 h2).1
  refine ⟨List.replicate (l.length - (neE l).length) e0, ?_⟩
  have d0 : decide ((k : Int) = -1) = false := decide_eq_false (by omega)
  have eK : IntKind.i64.wrap ((k : Int) + 1) = ((k + 1 : Nat) : Int) := by rw [w64 (by omega)]; omega
  have hpre : neE (l.take k) = l.take k := neE_all fun c hc => by
   obtain ⟨j, hj, rfl⟩ := List.mem_iff_getElem.1 hc
   have hj2 : j < k := by simp at hj; omega
   refine h3 j _ hj2 ?_
   rw [List.getElem_take]
   exact List.getElem?_eq_getElem _
  refine rl_slices_DeleteFunc_string_string rfl fun hw _ => ?_
  clear hw
  repeat' ((conv => whnf); (first | refine Bth.mk ?_ ?_ | refine csp_f (d0) ?_ | refine pickk0 ?_ | refine csp (fun h => ?_) (fun h => ?_) | refine clll (hI) (fun _ _ => ?_) | (refine sda ?_ ?_; (focus (first | rfl | exact of_decide_eq_true rfl | (simp; done)))) | refine sda ?_ ?_ | refine conk rfl ?_ | refine ldk rfl ?_ | refine mapk (fun x hx => ?_) | exact ⟨rfl, rfl⟩ | refine nilk (fun h => absurd h (of_decide_eq_false rfl)) ?_ | refine nilk (fun h => absurd h (List.cons_ne_nil _ _)) ?_ | refine nilk (fun h => ?_) ?_ | exact rfl | exact True.intro | refine leftk1 rfl ?_ | refine bytk8 rfl ?_ | refine bytk rfl ?_ | exact leftk0 rfl | refine eqk rfl ?_ | refine fLm rfl ?_ | refine fLk (by assumption) ?_ | refine fVk ?_ | refine fLVk ?_ | refine fWk ?_ | intro hl))
  refine .inr (.inr (.inl ⟨Nat, [0, 1, 5, 6], fun j => [(0, .sl 0 0 l.length), (1, .fn F_texts_trim_1 [] []), (5, .int .i64 (neE (l.take j)).length), (6, .int .i64 j)], fun j z => ∃ L : List ByteArray, z = [.arr true 1 (L.map cS)] ∧ L.length = l.length ∧ k < j ∧ j ≤ l.length ∧ L.take (neE (l.take j)).length = neE (l.take j) ∧ ∀ i, j ≤ i → L[i]? = l[i]?, fun j => l.length - j, ?_, ?_⟩))
  ·refine ⟨k + 1, ?_, l, rfl, rfl, by omega, by omega, ?_, fun i _ => rfl⟩
   ·show _ = [(0, V.sl 0 0 l.length), (1, V.fn F_texts_trim_1 [] []), (5, V.int .i64 ((neE (l.take (k + 1))).length : Nat)), (6, V.int .i64 ((k + 1 : Nat) : Int))]
    rw [eK, neE_next h2, if_pos rfl, List.append_nil, hpre, List.length_take, Nat.min_eq_left (by omega)]
   ·rw [neE_next h2, if_pos rfl, List.append_nil, hpre, List.length_take, Nat.min_eq_left (by omega)]
  ·rintro j z ⟨L, rfl, hL, hkj, hjl, hT, hS⟩ hwf
   clear hwf
   have hLm : (L.map cS).length = L.length := List.length_map _
   have hni : (neE (l.take j)).length ≤ j := by
    have := neE_len (l.take j)
    rw [List.length_take] at this
    omega
   by_cases hjn : j < l.length
   ·have d1 : decide ((j : Int) < ((l.length : Nat) : Int)) = true := decide_eq_true (by omega)
    obtain ⟨x, hx⟩ : ∃ x, l[j]? = some x := ⟨_, List.getElem?_eq_getElem hjn⟩
    have hxL : L[j]? = some x := by rw [hS j (Nat.le_refl _), hx]
    have hc : (L.map cS)[0 + ((j : Nat) : Int).toNat]? = some (cS x) := by rw [Int.toNat_natCast, Nat.zero_add, List.getElem?_map, hxL]; rfl
    have d2 : 0 ≤ (j : Int) ∧ (j : Int) < ((l.length : Nat) : Int) := by omega
    have d3 : 0 + ((j : Nat) : Int).toNat < (L.map cS).length := by rw [hLm, Int.toNat_natCast]; omega
    have eJ : IntKind.i64.wrap ((j : Int) + 1) = ((j + 1 : Nat) : Int) := by rw [w64 (by omega)]; omega
    have ht := trim_1_c x
    have hnx := neE_next hx
    by_cases hxe : x = e0
    ·rw [if_pos hxe, List.append_nil] at hnx
     rw [decide_eq_true hxe] at ht
     repeat' ((conv => whnf); (first | refine Bth.mk ?_ ?_ | refine csp_t (d1) ?_ | refine sda (d2) ?_ | refine sda (d3) ?_ | refine pickk0 ?_ | refine csp (fun h => ?_) (fun h => ?_) | refine conk hc ?_ | refine cllo (ht) (fun _ => ?_) | (refine sda ?_ ?_; (focus (first | rfl | exact of_decide_eq_true rfl | (simp; done)))) | refine sda ?_ ?_ | refine conk rfl ?_ | refine ldk rfl ?_ | refine mapk (fun x hx => ?_) | exact ⟨rfl, rfl⟩ | refine nilk (fun h => absurd h (of_decide_eq_false rfl)) ?_ | refine nilk (fun h => absurd h (List.cons_ne_nil _ _)) ?_ | refine nilk (fun h => ?_) ?_ | exact rfl | exact True.intro | refine leftk1 rfl ?_ | refine bytk8 rfl ?_ | refine bytk rfl ?_ | exact leftk0 rfl | refine eqk rfl ?_ | refine fLm rfl ?_ | refine fLk (by assumption) ?_ | refine fVk ?_ | refine fLVk ?_ | refine fWk ?_ | intro hl))
     all_goals conv => whnf
     refine ⟨j + 1, ?_, ⟨L, rfl, hL, by omega, by omega, ?_, fun i hi => hS i (by omega)⟩, by show l.length - (j + 1) < l.length - j; omega⟩
     ·show _ = [(0, V.sl 0 0 l.length), (1, V.fn F_texts_trim_1 [] []), (5, V.int .i64 ((neE (l.take (j + 1))).length : Nat)), (6, V.int .i64 ((j + 1 : Nat) : Int))]
      rw [eJ, hnx]
     ·rw [hnx]
      exact hT
    ·rw [if_neg hxe] at hnx
     rw [decide_eq_false hxe] at ht
     have eM : IntKind.i64.wrap (((neE (l.take j)).length : Int) + 1) = (((neE (l.take j)).length + 1 : Nat) : Int) := by rw [w64 (by omega)]; omega
     have B0 : 0 ≤ ((neE (l.take j)).length : Int) ∧ ((neE (l.take j)).length : Int) < ((l.length : Nat) : Int) := by omega
     have D0 : 0 + (((neE (l.take j)).length : Nat) : Int).toNat < (L.map cS).length := by rw [hLm, Int.toNat_natCast]; omega
     obtain ⟨y, hy⟩ : ∃ y, L[(neE (l.take j)).length]? = some y := ⟨_, List.getElem?_eq_getElem (by omega)⟩
     have hcm : (L.map cS)[0 + (((neE (l.take j)).length : Nat) : Int).toNat]? = some (cS y) := by rw [Int.toNat_natCast, Nat.zero_add, List.getElem?_map, hy]; rfl
     repeat' ((conv => whnf); (first | refine Bth.mk ?_ ?_ | refine csp_t (d1) ?_ | refine sda (d2) ?_ | refine sda (d3) ?_ | refine sda (B0) ?_ | refine sda (D0) ?_ | refine pickk0 ?_ | refine csp (fun h => ?_) (fun h => ?_) | refine conk hc ?_ | refine conk hcm ?_ | refine cllo (ht) (fun _ => ?_) | (refine sda ?_ ?_; (focus (first | rfl | exact of_decide_eq_true rfl | (simp; done)))) | refine sda ?_ ?_ | refine conk rfl ?_ | refine ldk rfl ?_ | refine mapk (fun x hx => ?_) | exact ⟨rfl, rfl⟩ | refine nilk (fun h => absurd h (of_decide_eq_false rfl)) ?_ | refine nilk (fun h => absurd h (List.cons_ne_nil _ _)) ?_ | refine nilk (fun h => ?_) ?_ | exact rfl | exact True.intro | refine leftk1 rfl ?_ | refine bytk8 rfl ?_ | refine bytk rfl ?_ | exact leftk0 rfl | refine eqk rfl ?_ | refine fLm rfl ?_ | refine fLk (by assumption) ?_ | refine fVk ?_ | refine fLVk ?_ | refine fWk ?_ | intro hl))
     all_goals conv => whnf
     refine ⟨j + 1, ?_, ⟨L.set (neE (l.take j)).length x, ?_, by rw [List.length_set]; exact hL, by omega, by omega, ?_, fun i hi => ?_⟩, by show l.length - (j + 1) < l.length - j; omega⟩
     ·show _ = [(0, V.sl 0 0 l.length), (1, V.fn F_texts_trim_1 [] []), (5, V.int .i64 ((neE (l.take (j + 1))).length : Nat)), (6, V.int .i64 ((j + 1 : Nat) : Int))]
      rw [eJ, eM, hnx, List.length_append]
      rfl
     ·show [O.arr true 1 (setAt (L.map cS) (0 + (((neE (l.take j)).length : Nat) : Int).toNat) [V.str x])] = _
      rw [setAt_eq, Int.toNat_natCast, Nat.zero_add, List.map_set]
     ·rw [hnx, List.length_append]
      show (L.set (neE (l.take j)).length x).take ((neE (l.take j)).length + 1) = _
      rw [List.take_succ_eq_append_getElem (by rw [List.length_set]; omega), List.take_set_of_le (Nat.le_refl _), hT, List.getElem_set_self]
     ·rw [List.getElem?_set_ne (by omega)]
      exact hS i (by omega)
   ·have hje : j = l.length := by omega
    subst hje
    have d1 : decide ((l.length : Int) < ((l.length : Nat) : Int)) = false := decide_eq_false (by omega)
    have e9 : l.take l.length = l := List.take_length
    repeat' ((conv => whnf); (first | refine Bth.mk ?_ ?_ | refine csp_f (d1) ?_ | refine pickk0 ?_ | refine csp (fun h => ?_) (fun h => ?_) | (refine sda ?_ ?_; (focus (first | rfl | exact of_decide_eq_true rfl | (simp; done)))) | refine sda ?_ ?_ | refine conk rfl ?_ | refine ldk rfl ?_ | refine mapk (fun x hx => ?_) | exact ⟨rfl, rfl⟩ | refine nilk (fun h => absurd h (of_decide_eq_false rfl)) ?_ | refine nilk (fun h => absurd h (List.cons_ne_nil _ _)) ?_ | refine nilk (fun h => ?_) ?_ | exact rfl | exact True.intro | refine leftk1 rfl ?_ | refine bytk8 rfl ?_ | refine bytk rfl ?_ | exact leftk0 rfl | refine eqk rfl ?_ | refine fLm rfl ?_ | refine fLk (by assumption) ?_ | refine fVk ?_ | refine fLVk ?_ | refine fWk ?_ | intro hl))
    all_goals conv => whnf
    ·omega
    ·omega
    ·rw [e9] at hT hni ⊢
     refine ⟨by rw [Int.sub_zero, Int.toNat_natCast], ?_⟩
     rw [Int.toNat_natCast, Nat.zero_add, List.drop_eq_nil_of_le (by rw [hLm]; omega), List.append_nil, ← List.map_take, hT, List.map_append, List.map_replicate, show ((l.length : Int) - ((neE l).length : Int)).toNat = l.length - (neE l).length by omega]
     rfl
end Go.Proofs.YtcbknemdidehlaaGreatDoor
set_option maxRecDepth 100000
set_option linter.all false
namespace Go.Proofs.YtcbknemdidehlaaGreatDoor
open Ab R P Vl Go.RowKit
theorem tkl (a t : List ByteArray) : (((a ++ t).map cS).drop 0).take a.length = a.map cS := by rw [List.drop_zero, ← List.map_take, List.take_left]
theorem neE_ok {l : List ByteArray} (h : l.length ≤ 256 ∧ ∀ c ∈ l, c.size ≤ 255) : (neE l).length ≤ 256 ∧ ∀ c ∈ neE l, c.size ≤ 255 :=
 ⟨by have := neE_len l; omega, fun c hc => h.2 c (List.mem_filter.1 hc).1⟩
theorem trim_g (s : ByteArray) (hs : s.size ≤ 255) : Ret Tryz.prog F_texts_trim [.str s] (.str (joinB (neE (spl s ⟨#[32]⟩)) ⟨#[32]⟩)) := by
 have ho := Split_o s ⟨#[32]⟩ hs (by decide)
 have hk := spl_ok s ⟨#[32]⟩ hs (by decide)
 generalize spl s ⟨#[32]⟩ = l at *
 obtain ⟨t, hd⟩ := DeleteFunc_c l (by omega)
 obtain ⟨n1, n2⟩ := neE_ok hk
 have hj := Join_g (neE l) ⟨#[32]⟩ (by decide) (by omega) n2
 generalize neE l = u at *
 rw [← tkl u t] at hj
 refine r_texts_trim rfl fun hw => ?_
 clear hw
 repeat' ((conv => whnf); (first | refine Bth.mk ?_ ?_ | refine pickk0 ?_ | refine csp (fun h => ?_) (fun h => ?_) | refine clll (ho) (fun _ _ => ?_) | refine clll (hd) (fun _ _ => ?_) | refine cllo (hj) (fun _ => ?_) | (refine sda ?_ ?_; (focus (first | rfl | exact of_decide_eq_true rfl | (simp; done)))) | refine sda ?_ ?_ | refine conk rfl ?_ | refine ldk rfl ?_ | refine mapk (fun x hx => ?_) | exact ⟨rfl, rfl⟩ | refine nilk (fun h => absurd h (of_decide_eq_false rfl)) ?_ | refine nilk (fun h => absurd h (List.cons_ne_nil _ _)) ?_ | refine nilk (fun h => ?_) ?_ | exact rfl | exact True.intro | refine leftk1 rfl ?_ | refine bytk8 rfl ?_ | refine bytk rfl ?_ | exact leftk0 rfl | refine eqk rfl ?_ | refine fLm rfl ?_ | refine fLk (by assumption) ?_ | refine fVk ?_ | refine fLVk ?_ | refine fWk ?_ | intro hl))
 all_goals conv => whnf
theorem fndS_good (t : ByteArray) (l : List ByteArray) (k : Int) (hk : 0 ≤ k ∧ k ≤ 10000000 - 1000) (h9 : l.length ≤ 255) : goodV (fndS t l k) = true := by
 rcases fndS_at t l k with q | ⟨j, h1, h2, _⟩
 ·rw [q]
  exact goodV_bad 2
 ·rw [h2]
  exact good_n ⟨by omega, by omega⟩
set_option maxHeartbeats 4000000 in
theorem finds_1_c (t : ByteArray) (l : List ByteArray) (hsm : Sm l) (i0 : Nat) (hi0 : i0 ≤ l.length) : Ret Tryz.prog F_texts_finds_1_1 [.elem [.row false (l.map cS)], .elem [.int .i64 ((i0 : Int) + 1)], .elem [.str t]] (eV (fndS t (l.drop i0) ((i0 : Int) + 1))) := by
 have h9 := hsm.len
 have hj := fun els he => Join_r els (l.drop i0) he (hsm.drop i0)
 have hlm : (l.map cS).length = l.length := List.length_map _
 have e0' : IntKind.i64.wrap ((i0 : Int) + 1 - 1) = i0 := by rw [w64 (by omega)]; omega
 have hk : List.take (((l.map cS).length : Int) - IntKind.i64.wrap ((i0 : Int) + 1 - 1)).toNat (List.drop (IntKind.i64.wrap ((i0 : Int) + 1 - 1)).toNat (l.map cS)) = (l.drop i0).map cS := by
  rw [e0', Int.toNat_natCast, List.take_of_length_le (by simp), List.map_drop]
 refine r_texts_finds_1_1 rfl fun hw => ?_
 clear hw
 repeat' ((conv => whnf); (first | refine Bth.mk ?_ ?_ | refine pickk0 ?_ | refine csp (fun h => ?_) (fun h => ?_) | refine cllo (hj _ hk) (fun _ => ?_) | (refine sda ?_ ?_; (focus (first | rfl | exact of_decide_eq_true rfl | (simp; done)))) | refine sda ?_ ?_ | refine conk rfl ?_ | refine ldk rfl ?_ | refine mapk (fun x hx => ?_) | exact ⟨rfl, rfl⟩ | refine nilk (fun h => absurd h (of_decide_eq_false rfl)) ?_ | refine nilk (fun h => absurd h (List.cons_ne_nil _ _)) ?_ | refine nilk (fun h => ?_) ?_ | exact rfl | exact True.intro | refine leftk1 rfl ?_ | refine bytk8 rfl ?_ | refine bytk rfl ?_ | exact leftk0 rfl | refine eqk rfl ?_ | refine fLm rfl ?_ | refine fLk (by assumption) ?_ | refine fVk ?_ | refine fLVk ?_ | refine fWk ?_ | intro hl))
 ·rw [hlm, e0']
  omega
 ·exact len1 hl
 refine .inl ⟨Nat, [0, 2, 3, 4, 5], [0], fun i => [(0, .elem [.row false (l.map cS)]), (2, .elem [.str t]), (3, .ptr 0 0), (4, .str (catL (l.drop i))), (5, .int .i64 ((i : Int) + 1))],
  fun _ => [.box true [.int .i64 0, .int .i64 0, .str e0]],
  fun i => i ≤ l.length ∧ fndS t (l.drop i) ((i : Int) + 1) = fndS t (l.drop i0) ((i0 : Int) + 1), fun i => l.length - i, rfl, ?_, fun i hi => ?_⟩
 ·exact ⟨i0, rfl, rfl, hi0, rfl⟩
 ·obtain ⟨hi1, hi2⟩ := hi
  by_cases hb : preB (catL (l.drop i)) t = true
  ·rw [fndS_y _ _ hb] at hi2
   repeat' ((conv => whnf); (first | refine Bth.mk ?_ ?_ | refine csp_t (hb) ?_ | refine pickk0 ?_ | refine csp (fun h => ?_) (fun h => ?_) | refine cllo (HasPrefix_c _ _) (fun _ => ?_) | refine cllo (texts_whole_c _ (by omega)) (fun _ => ?_) | (refine sda ?_ ?_; (focus (first | rfl | exact of_decide_eq_true rfl | (simp; done)))) | refine sda ?_ ?_ | refine conk rfl ?_ | refine ldk rfl ?_ | refine mapk (fun x hx => ?_) | exact ⟨rfl, rfl⟩ | refine nilk (fun h => absurd h (of_decide_eq_false rfl)) ?_ | refine nilk (fun h => absurd h (List.cons_ne_nil _ _)) ?_ | refine nilk (fun h => ?_) ?_ | exact rfl | exact True.intro | refine leftk1 rfl ?_ | refine bytk8 rfl ?_ | refine bytk rfl ?_ | exact leftk0 rfl | refine eqk rfl ?_ | refine fLm rfl ?_ | refine fLk (by assumption) ?_ | refine fVk ?_ | refine fLVk ?_ | refine fWk ?_ | intro hl))
   all_goals conv => whnf
   rw [← hi2]
  ·have hb' : preB (catL (l.drop i)) t = false := by simpa using hb
   have hwi : IntKind.i64.wrap ((i : Int) + 1 - 1) = i := by rw [w64 (by omega)]; omega
   by_cases hin : i < l.length
   ·have d1 : decide ((i : Int) + 1 > ((l.map cS).length : Nat)) = false := decide_eq_false (by omega)
    obtain ⟨x, hx⟩ : ∃ x, l[i]? = some x := ⟨_, List.getElem?_eq_getElem hin⟩
    have hc : (l.map cS)[(IntKind.i64.wrap ((i : Int) + 1 - 1)).toNat]? = some (cS x) := by rw [hwi, Int.toNat_natCast, List.getElem?_map, hx]; rfl
    have d2 : 0 ≤ IntKind.i64.wrap ((i : Int) + 1 - 1) ∧ IntKind.i64.wrap ((i : Int) + 1 - 1) < ((l.map cS).length : Int) := by rw [hwi]; omega
    have hd : l.drop i = x :: l.drop (i + 1) := by
     obtain ⟨hlt, hx⟩ := List.getElem?_eq_some_iff.1 hx
     rw [List.drop_eq_getElem_cons hlt, hx]
    have d3 : 0 ≤ ((x.size : Nat) : Int) ∧ ((x.size : Nat) : Int) ≤ (((catL (l.drop i)).size : Nat) : Int) ∧ (((catL (l.drop i)).size : Nat) : Int) ≤ ((catL (l.drop i)).size : Int) := by
     rw [hd, cat_cons, ByteArray.size_append]
     omega
    have he : (catL (l.drop i)).extract ((x.size : Nat) : Int).toNat (((catL (l.drop i)).size : Nat) : Int).toNat = catL (l.drop (i + 1)) := by
     rw [hd, cat_cons, Int.toNat_natCast, Int.toNat_natCast]
     exact ext_app x (catL (l.drop (i + 1)))
    have hw2 : IntKind.i64.wrap ((i : Int) + 1 + 1) = ((i + 1 : Nat) : Int) + 1 := by
     rw [w64 ⟨by omega, by omega⟩]
     omega
    repeat' ((conv => whnf); (first | refine Bth.mk ?_ ?_ | refine csp_f (hb') ?_ | refine csp_f (d1) ?_ | refine sda (d2) ?_ | refine sda (d3) ?_ | refine pickk0 ?_ | refine csp (fun h => ?_) (fun h => ?_) | refine conk hc ?_ | refine cllo (HasPrefix_c _ _) (fun _ => ?_) | refine cllo (value_Bad _) (fun _ => ?_) | (refine sda ?_ ?_; (focus (first | rfl | exact of_decide_eq_true rfl | (simp; done)))) | refine sda ?_ ?_ | refine conk rfl ?_ | refine ldk rfl ?_ | refine mapk (fun x hx => ?_) | exact ⟨rfl, rfl⟩ | refine nilk (fun h => absurd h (of_decide_eq_false rfl)) ?_ | refine nilk (fun h => absurd h (List.cons_ne_nil _ _)) ?_ | refine nilk (fun h => ?_) ?_ | exact rfl | exact True.intro | refine leftk1 rfl ?_ | refine bytk8 rfl ?_ | refine bytk rfl ?_ | exact leftk0 rfl | refine eqk rfl ?_ | refine fLm rfl ?_ | refine fLk (by assumption) ?_ | refine fVk ?_ | refine fLVk ?_ | refine fWk ?_ | intro hl))
    all_goals conv => whnf
    refine ⟨i + 1, ?_, rfl, ⟨by omega, ?_⟩, by show l.length - (i + 1) < l.length - i; omega⟩
    ·rw [he, hw2]
    ·rw [← hi2, hd, fndS, if_neg (by rw [← hd, hb']; decide)]
     rfl
   ·have d1 : decide ((i : Int) + 1 > ((l.map cS).length : Nat)) = true := decide_eq_true (by omega)
    rw [List.drop_eq_nil_of_le (by omega)] at hi2 hb'
    rw [fndS, if_neg (by rw [hb']; decide)] at hi2
    have hnil : l.drop i = [] := List.drop_eq_nil_of_le (by omega)
    have hP := HasPrefix_c (catL (l.drop i)) t
    rw [hnil, hb'] at hP
    rw [← hnil] at hP
    repeat' ((conv => whnf); (first | refine Bth.mk ?_ ?_ | refine csp_t (d1) ?_ | refine pickk0 ?_ | refine csp (fun h => ?_) (fun h => ?_) | refine cllo (hP) (fun _ => ?_) | refine cllo (value_Bad _) (fun _ => ?_) | (refine sda ?_ ?_; (focus (first | rfl | exact of_decide_eq_true rfl | (simp; done)))) | refine sda ?_ ?_ | refine conk rfl ?_ | refine ldk rfl ?_ | refine mapk (fun x hx => ?_) | exact ⟨rfl, rfl⟩ | refine nilk (fun h => absurd h (of_decide_eq_false rfl)) ?_ | refine nilk (fun h => absurd h (List.cons_ne_nil _ _)) ?_ | refine nilk (fun h => ?_) ?_ | exact rfl | exact True.intro | refine leftk1 rfl ?_ | refine bytk8 rfl ?_ | refine bytk rfl ?_ | exact leftk0 rfl | refine eqk rfl ?_ | refine fLm rfl ?_ | refine fLk (by assumption) ?_ | refine fVk ?_ | refine fLVk ?_ | refine fWk ?_ | intro hl))
    all_goals conv => whnf
    rw [← hi2]
theorem tl_bad (l : List Ar) (b : Int) (c : Bool) (ls : List ByteArray) (k : Int) (t : ByteArray) (hb : 0 < b) : Ret Tryz.prog F_texts_asked_tells [.elem [.row false (l.map cA), .int .i64 b], .bool c, .fn F_texts_finds_1_1 [] [.elem [.row false (ls.map cS)], .elem [.int .i64 k], .elem [.str t]]] (eV (badS b)) := by
 have d1 : decide (b > 0) = true := decide_eq_true hb
 refine r_texts_asked_tells rfl fun hw => ?_
 clear hw
 repeat' ((conv => whnf); (first | refine Bth.mk ?_ ?_ | refine csp_t (d1) ?_ | refine pickk0 ?_ | refine csp (fun h => ?_) (fun h => ?_) | refine cllo (value_Bad _) (fun _ => ?_) | (refine sda ?_ ?_; (focus (first | rfl | exact of_decide_eq_true rfl | (simp; done)))) | refine sda ?_ ?_ | refine conk rfl ?_ | refine ldk rfl ?_ | refine mapk (fun x hx => ?_) | exact ⟨rfl, rfl⟩ | refine nilk (fun h => absurd h (of_decide_eq_false rfl)) ?_ | refine nilk (fun h => absurd h (List.cons_ne_nil _ _)) ?_ | refine nilk (fun h => ?_) ?_ | exact rfl | exact True.intro | refine leftk1 rfl ?_ | refine bytk8 rfl ?_ | refine bytk rfl ?_ | exact leftk0 rfl | refine eqk rfl ?_ | refine fLm rfl ?_ | refine fLk (by assumption) ?_ | refine fVk ?_ | refine fLVk ?_ | refine fWk ?_ | intro hl))
 all_goals conv => whnf
theorem tl_no (l : List Ar) (b : Int) (ls : List ByteArray) (k : Int) (t : ByteArray) (hb : ¬ 0 < b) : Ret Tryz.prog F_texts_asked_tells [.elem [.row false (l.map cA), .int .i64 b], .bool false, .fn F_texts_finds_1_1 [] [.elem [.row false (ls.map cS)], .elem [.int .i64 k], .elem [.str t]]] (eV (badS 2)) := by
 have d1 : decide (b > 0) = false := decide_eq_false hb
 refine r_texts_asked_tells rfl fun hw => ?_
 clear hw
 repeat' ((conv => whnf); (first | refine Bth.mk ?_ ?_ | refine csp_f (d1) ?_ | refine pickk0 ?_ | refine csp (fun h => ?_) (fun h => ?_) | refine cllo (value_Bad _) (fun _ => ?_) | (refine sda ?_ ?_; (focus (first | rfl | exact of_decide_eq_true rfl | (simp; done)))) | refine sda ?_ ?_ | refine conk rfl ?_ | refine ldk rfl ?_ | refine mapk (fun x hx => ?_) | exact ⟨rfl, rfl⟩ | refine nilk (fun h => absurd h (of_decide_eq_false rfl)) ?_ | refine nilk (fun h => absurd h (List.cons_ne_nil _ _)) ?_ | refine nilk (fun h => ?_) ?_ | exact rfl | exact True.intro | refine leftk1 rfl ?_ | refine bytk8 rfl ?_ | refine bytk rfl ?_ | exact leftk0 rfl | refine eqk rfl ?_ | refine fLm rfl ?_ | refine fLk (by assumption) ?_ | refine fVk ?_ | refine fLVk ?_ | refine fWk ?_ | intro hl))
 all_goals conv => whnf
theorem tl_y (l : List Ar) (b : Int) (ls : List ByteArray) (hsm : Sm ls) (i0 : Nat) (h : i0 ≤ ls.length) (t : ByteArray) (hb : ¬ 0 < b) : Ret Tryz.prog F_texts_asked_tells [.elem [.row false (l.map cA), .int .i64 b], .bool true, .fn F_texts_finds_1_1 [] [.elem [.row false (ls.map cS)], .elem [.int .i64 ((i0 : Int) + 1)], .elem [.str t]]] (eV (fndS t (ls.drop i0) ((i0 : Int) + 1))) := by
 have d1 : decide (b > 0) = false := decide_eq_false hb
 have hf := finds_1_c t ls hsm i0 h
 generalize fndS t (ls.drop i0) ((i0 : Int) + 1) = r at *
 refine r_texts_asked_tells rfl fun hw => ?_
 clear hw
 repeat' ((conv => whnf); (first | refine Bth.mk ?_ ?_ | refine csp_f (d1) ?_ | refine pickk0 ?_ | refine csp (fun h => ?_) (fun h => ?_) | refine cllo (hf) (fun _ => ?_) | (refine sda ?_ ?_; (focus (first | rfl | exact of_decide_eq_true rfl | (simp; done)))) | refine sda ?_ ?_ | refine conk rfl ?_ | refine ldk rfl ?_ | refine mapk (fun x hx => ?_) | exact ⟨rfl, rfl⟩ | refine nilk (fun h => absurd h (of_decide_eq_false rfl)) ?_ | refine nilk (fun h => absurd h (List.cons_ne_nil _ _)) ?_ | refine nilk (fun h => ?_) ?_ | exact rfl | exact True.intro | refine leftk1 rfl ?_ | refine bytk8 rfl ?_ | refine bytk rfl ?_ | exact leftk0 rfl | refine eqk rfl ?_ | refine fLm rfl ?_ | refine fLk (by assumption) ?_ | refine fVk ?_ | refine fLVk ?_ | refine fWk ?_ | intro hl))
 all_goals conv => whnf
set_option maxHeartbeats 4000000 in
theorem g_finds (g : FuncId) (F : ByteArray → ByteArray) (hg : ∀ s : ByteArray, s.size ≤ 255 → Ret Tryz.prog g [.str s] (.str (F s)) ∧ (F s).size ≤ 255) : G1 F_texts_finds_1 [.elem [.fn g [] []]] := by
 intro q hq
 have t1 := text_g q
 obtain ⟨z1, hq1⟩ := txS_ok hq
 generalize txS q = p1 at *
 obtain ⟨t, q1⟩ := p1
 dsimp only at t1 z1 hq1
 have t2 := text_g q1
 obtain ⟨z2, hq2⟩ := txS_ok hq1
 generalize txS q1 = p2 at *
 obtain ⟨s, q2⟩ := p2
 dsimp only at t2 z2 hq2
 have t3 := whole_g 1 q2
 obtain ⟨z3, hq3⟩ := whS_ok (d := 1) hq2 (by decide)
 generalize whS18 1 q2 = p3 at *
 obtain ⟨k, l, b⟩ := p3
 dsimp only at t3 z3 hq3
 obtain ⟨i1, y1⟩ := hg t z1
 obtain ⟨i2, y2⟩ := hg s z2
 generalize F t = T at *
 generalize F s = S at *
 have T1a : RetL Tryz.prog F_texts_asked_text [.ptr 0 0] [cQ q, .box true [.int .i64 0, .int .i64 0, .str e0]] (.str t) [cQ q1, .box true [.int .i64 0, .int .i64 0, .str e0]] := RetL.frame t1 _ [0] rfl (by simp) rfl rfl
 have T1b : RetL Tryz.prog F_texts_asked_text [.ptr 0 0] [cQ q, .box true [.int .i64 0, .int .i64 0, .str e0], .box true [.str e0]] (.str t) [cQ q1, .box true [.int .i64 0, .int .i64 0, .str e0], .box true [.str e0]] := RetL.frame t1 _ [0] rfl (by simp) rfl rfl
 have T2a : RetL Tryz.prog F_texts_asked_text [.ptr 0 0] [cQ q1, .box true [.int .i64 0, .int .i64 0, .str e0]] (.str s) [cQ q2, .box true [.int .i64 0, .int .i64 0, .str e0]] := RetL.frame t2 _ [0] rfl (by simp) rfl rfl
 have T2b : RetL Tryz.prog F_texts_asked_text [.ptr 0 0] [cQ q1, .box true [.int .i64 0, .int .i64 0, .str e0], .box true [.str e0]] (.str s) [cQ q2, .box true [.int .i64 0, .int .i64 0, .str e0], .box true [.str e0]] := RetL.frame t2 _ [0] rfl (by simp) rfl rfl
 have hc := Chars_c S (by omega)
 have hsm := sm_chars y2
 have h9 := hsm.len
 generalize Vl.chars S = ls at *
 have hlm : (ls.map cS).length = ls.length := List.length_map _
 obtain ⟨V, hgV, hV1, hV2, hV3⟩ : ∃ V : GV, goodV V = true ∧ (0 < b → V = badS b) ∧ (¬ 0 < b → ¬ (1 ≤ k ∧ k ≤ ls.length + 1) → V = badS 2) ∧ (¬ 0 < b → ∀ i0 : Nat, i0 ≤ ls.length → k = (i0 : Int) + 1 → V = fndS T (ls.drop i0) ((i0 : Int) + 1)) := by
  by_cases hb : 0 < b
  ·exact ⟨badS b, goodV_bad _, fun _ => rfl, fun h => absurd hb h, fun h => absurd hb h⟩
  ·by_cases hk : 1 ≤ k ∧ k ≤ ls.length + 1
   ·refine ⟨fndS T (ls.drop (k - 1).toNat) k, fndS_good _ _ _ ⟨by omega, by omega⟩ (by simp; omega), fun h => absurd h hb, fun _ h => absurd hk h, fun _ i0 h1 h2 => ?_⟩
    rw [h2, show ((i0 : Int) + 1 - 1).toNat = i0 by omega]
   ·exact ⟨badS 2, goodV_bad _, fun h => absurd h hb, fun _ _ => rfl, fun _ i0 h1 h2 => absurd ⟨by omega, by omega⟩ hk⟩
 refine ⟨V, false, ⟨l, b⟩, hgV, ?_⟩
 refine rl_texts_finds_1 rfl fun hw9 _ => ?_
 clear hw9 t1 t2
 conv => whnf
 refine Exists.intro (fun e z => e = [(0, .ptr 0 0), (3, .ptr 1 0), (4, .ptr 2 0), (5, .str S)] ∧ z = [cQ q2, .box true [.int .i64 0, .int .i64 0, .str e0], .box true [.str T]]) ?_
 refine Bth.mk ?_ ?_
 ·repeat' ((conv => whnf); (first | (with_reducible refine Bth.mk ?_ ?_) | (with_reducible refine clll T1a (fun _ _ => ?_)) | (with_reducible refine clll T1b (fun _ _ => ?_)) | (with_reducible refine clll T2a (fun _ _ => ?_)) | (with_reducible refine clll T2b (fun _ _ => ?_)) | (with_reducible refine cllo i1 (fun _ => ?_)) | (with_reducible refine cllo i2 (fun _ => ?_)) | (with_reducible exact True.intro) | (with_reducible refine fLVk ?_) | exact ⟨rfl, rfl⟩))
 ·rintro _ _ ⟨rfl, rfl⟩
  clear T1a T1b T2a T2b i1 i2
  by_cases hb : 0 < b
  ·obtain rfl := hV1 hb
   repeat' ((conv => whnf); (first | refine Bth.mk ?_ ?_ | refine pickk0 ?_ | refine csp (fun h => ?_) (fun h => ?_) | refine clll (RetL.frame (t3) _ [0] rfl (by simp) rfl rfl) (fun _ _ => ?_) | refine cllo (hc) (fun _ => ?_) | refine cllo (tl_bad l b _ ls k T hb) (fun _ => ?_) | (refine sda ?_ ?_; (focus (first | rfl | exact of_decide_eq_true rfl | (simp; done)))) | refine sda ?_ ?_ | refine conk rfl ?_ | refine ldk rfl ?_ | refine mapk (fun x hx => ?_) | exact ⟨rfl, rfl⟩ | refine nilk (fun h => absurd h (of_decide_eq_false rfl)) ?_ | refine nilk (fun h => absurd h (List.cons_ne_nil _ _)) ?_ | refine nilk (fun h => ?_) ?_ | exact rfl | exact True.intro | refine leftk1 rfl ?_ | refine bytk8 rfl ?_ | refine bytk rfl ?_ | exact leftk0 rfl | refine eqk rfl ?_ | refine fLm rfl ?_ | refine fLk (by assumption) ?_ | refine fVk ?_ | refine fLVk ?_ | refine fWk ?_ | intro hl))
   all_goals conv => whnf
  by_cases c1 : 1 ≤ k
  rotate_left
  ·obtain rfl := hV2 hb (fun h => c1 h.1)
   have d1 : decide (k ≥ 1) = false := decide_eq_false (by omega)
   repeat' ((conv => whnf); (first | refine Bth.mk ?_ ?_ | refine csp_f (d1) ?_ | refine pickk0 ?_ | refine csp (fun h => ?_) (fun h => ?_) | refine clll (RetL.frame (t3) _ [0] rfl (by simp) rfl rfl) (fun _ _ => ?_) | refine cllo (hc) (fun _ => ?_) | refine cllo (tl_no l b ls k T hb) (fun _ => ?_) | (refine sda ?_ ?_; (focus (first | rfl | exact of_decide_eq_true rfl | (simp; done)))) | refine sda ?_ ?_ | refine conk rfl ?_ | refine ldk rfl ?_ | refine mapk (fun x hx => ?_) | exact ⟨rfl, rfl⟩ | refine nilk (fun h => absurd h (of_decide_eq_false rfl)) ?_ | refine nilk (fun h => absurd h (List.cons_ne_nil _ _)) ?_ | refine nilk (fun h => ?_) ?_ | exact rfl | exact True.intro | refine leftk1 rfl ?_ | refine bytk8 rfl ?_ | refine bytk rfl ?_ | exact leftk0 rfl | refine eqk rfl ?_ | refine fLm rfl ?_ | refine fLk (by assumption) ?_ | refine fVk ?_ | refine fLVk ?_ | refine fWk ?_ | intro hl))
   all_goals conv => whnf
  have d1 : decide (k ≥ 1) = true := decide_eq_true c1
  have eL : IntKind.i64.wrap (((ls.map cS).length : Int) + 1) = (ls.length : Int) + 1 := by rw [hlm, w64 (by omega)]
  by_cases c2 : k ≤ ls.length + 1
  rotate_left
  ·obtain rfl := hV2 hb (fun h => c2 h.2)
   have d2 : decide (k ≤ IntKind.i64.wrap (((ls.map cS).length : Int) + 1)) = false := by rw [eL]; exact decide_eq_false c2
   have hY : Ret Tryz.prog F_texts_asked_tells [.elem [.row false (l.map cA), .int .i64 b], .bool (decide (k ≤ IntKind.i64.wrap (((ls.map cS).length : Int) + 1))), .fn F_texts_finds_1_1 [] [.elem [.row false (ls.map cS)], .elem [.int .i64 k], .elem [.str T]]] (eV (badS 2)) := by rw [d2]; exact tl_no l b ls k T hb
   repeat' ((conv => whnf); (first | refine Bth.mk ?_ ?_ | refine csp_t (d1) ?_ | refine pickk0 ?_ | refine csp (fun h => ?_) (fun h => ?_) | refine clll (RetL.frame (t3) _ [0] rfl (by simp) rfl rfl) (fun _ _ => ?_) | refine cllo (hc) (fun _ => ?_) | refine cllo (hY) (fun _ => ?_) | (refine sda ?_ ?_; (focus (first | rfl | exact of_decide_eq_true rfl | (simp; done)))) | refine sda ?_ ?_ | refine conk rfl ?_ | refine ldk rfl ?_ | refine mapk (fun x hx => ?_) | exact ⟨rfl, rfl⟩ | refine nilk (fun h => absurd h (of_decide_eq_false rfl)) ?_ | refine nilk (fun h => absurd h (List.cons_ne_nil _ _)) ?_ | refine nilk (fun h => ?_) ?_ | exact rfl | exact True.intro | refine leftk1 rfl ?_ | refine bytk8 rfl ?_ | refine bytk rfl ?_ | exact leftk0 rfl | refine eqk rfl ?_ | refine fLm rfl ?_ | refine fLk (by assumption) ?_ | refine fVk ?_ | refine fLVk ?_ | refine fWk ?_ | intro hl))
   all_goals conv => whnf
  ·obtain ⟨i0, hi0⟩ : ∃ i0 : Nat, k = (i0 : Int) + 1 := ⟨(k - 1).toNat, by omega⟩
   have hV := hV3 hb i0 (by omega) hi0
   subst hi0
   have d2 : decide ((i0 : Int) + 1 ≤ IntKind.i64.wrap (((ls.map cS).length : Int) + 1)) = true := by rw [eL]; exact decide_eq_true c2
   have hY : Ret Tryz.prog F_texts_asked_tells [.elem [.row false (l.map cA), .int .i64 b], .bool (decide ((i0 : Int) + 1 ≤ IntKind.i64.wrap (((ls.map cS).length : Int) + 1))), .fn F_texts_finds_1_1 [] [.elem [.row false (ls.map cS)], .elem [.int .i64 ((i0 : Int) + 1)], .elem [.str T]]] (eV V) := by rw [d2, hV]; exact tl_y l b ls hsm i0 (by omega) T hb
   repeat' ((conv => whnf); (first | refine Bth.mk ?_ ?_ | refine csp_t (d1) ?_ | refine pickk0 ?_ | refine csp (fun h => ?_) (fun h => ?_) | refine clll (RetL.frame (t3) _ [0] rfl (by simp) rfl rfl) (fun _ _ => ?_) | refine cllo (hc) (fun _ => ?_) | refine cllo (hY) (fun _ => ?_) | (refine sda ?_ ?_; (focus (first | rfl | exact of_decide_eq_true rfl | (simp; done)))) | refine sda ?_ ?_ | refine conk rfl ?_ | refine ldk rfl ?_ | refine mapk (fun x hx => ?_) | exact ⟨rfl, rfl⟩ | refine nilk (fun h => absurd h (of_decide_eq_false rfl)) ?_ | refine nilk (fun h => absurd h (List.cons_ne_nil _ _)) ?_ | refine nilk (fun h => ?_) ?_ | exact rfl | exact True.intro | refine leftk1 rfl ?_ | refine bytk8 rfl ?_ | refine bytk rfl ?_ | exact leftk0 rfl | refine eqk rfl ?_ | refine fLm rfl ?_ | refine fLk (by assumption) ?_ | refine fVk ?_ | refine fLVk ?_ | refine fWk ?_ | intro hl))
   all_goals conv => whnf
end Go.Proofs.YtcbknemdidehlaaGreatDoor
set_option maxRecDepth 100000
set_option linter.all false
namespace Go.Proofs.YtcbknemdidehlaaGreatDoor
open Ab R P Vl Go.RowKit
theorem Ab.Ret.allocS {P : Program} {f : FuncId} {args : List V} {vs : List Value} {xs : List ByteArray} {T : Nat} (hcall : ∀ ar w, (callFunc f ar).run P w = .ok (.enter f ar) w) (ha : Sames args vs) (hz : ∀ c ∈ xs, c.size ≤ 9223372036854775807) (hz9 : xs.length ≤ 9223372036854775807) (hg : 0 ∈ gvars)
  (h : ∀ (w : World) (n : Int), w.cell? ⟨0, 0, none⟩ = some (.int .i64 n) → Calls P f vs.toArray w fun e w' => e = .returned (.slice (some ⟨w.heap.size, 0, none⟩) xs.length xs.length) ∧ w' = w.alloc (.cells (xs.map Value.string).toArray T)) : Ret P f args (.row false (xs.map cS)) := by
 intro m w ys hG hm rv
 rw [sames_repL ha rv]
 unfold CallsX
 rw [hcall]
 obtain ⟨n, hn⟩ := hG 0 hg
 refine (h w n (hm _ _ _ hn)).mono fun e w' ⟨he, hw'⟩ => ?_
 subst hw'
 have hb : Below w.heap.size w (w.alloc (.cells (xs.map Value.string).toArray T)) := (Below.refl _ w).alloc (Nat.le_refl _) _
 have hh : (w.alloc (.cells (xs.map Value.string).toArray T)).heap[w.heap.size]? = some (.cells (xs.map Value.string).toArray T (0, 0)) := heap_alloc_new w _
 have hlm : (xs.map cS).length = xs.length := List.length_map _
 have hcell : ∀ (j : Nat) p, xs[j]? = some p → (w.alloc (.cells (xs.map Value.string).toArray T)).cell? ⟨w.heap.size, j, none⟩ = some (.string p) := fun j p hj => by
  rw [Lib.cell_of_heap hh]
  simp [hj]
 have el : ∀ {i j : Nat} {e : List V} {c : V}, (xs.map cS)[i]? = some e → e[j]? = some c → ∃ p, xs[i]? = some p ∧ j = 0 ∧ c = .str p := by
  intro i j e c he hc
  rw [List.getElem?_map] at he
  cases hx : xs[i]? with
  | none => rw [hx] at he; cases he
  | some p =>
   rw [hx] at he
   cases he
   cases j with
   | zero => cases hc; exact ⟨p, rfl, rfl, rfl⟩
   | succ j => cases hc
 refine ⟨_, he, fun b o => if b = w.heap.size then (xs[o]?).map Value.string else m b o, fun b o v hv => ?_, fun b o v hv => ?_, ?_, hb, fun b o y hy hn => ?_⟩
 ·have : b ≠ w.heap.size := fun q => by subst q; have := hm.lt hv; omega
  simp only [if_neg this]
  exact hv
 ·dsimp only at hv
  split at hv
  ·rename_i q
   subst q
   cases hx : xs[o]? with
   | none => rw [hx] at hv; cases hv
   | some p => rw [hx] at hv; cases hv; exact hcell o p hx
  ·rw [World.cell?_of_block (w := w) (a := ⟨b, o, none⟩) (hb.block b (hm.lt hv))]
   exact hm b o v hv
 ·have := Rep.row (m := fun b o => if b = w.heap.size then (xs[o]?).map Value.string else m b o) [] false (xs.map cS) (some ⟨w.heap.size, 0, none⟩) xs.length 1 w.heap.size 0 (fun i _ => ((xs[i]?).map Value.string).getD (.string ⟨#[]⟩)) (fun q => by cases q) (by rw [hlm]; exact Nat.le_refl _) (by rw [hlm]; exact hz9)
   (fun e he => by obtain ⟨p, _, rfl⟩ := List.mem_map.1 he; rfl) (fun _ => rfl) (fun i j e c he hc => by
    obtain ⟨p, hp, rfl, rfl⟩ := el he hc
    simp [hp]) (fun i j e c he hc => by
    obtain ⟨p, hp, rfl, rfl⟩ := el he hc
    simp only [hp, Option.map_some, Option.getD_some]
    exact .str [] p (hz p (List.mem_of_getElem? hp)))
  rw [hlm] at this
  exact this
 ·dsimp only at hy
  split at hy
  ·rename_i q
   subst q
   exact Nat.le_refl _
  ·rw [hy] at hn
   cases hn
theorem Split_c (s t : ByteArray) (hs : s.size ≤ 255) (h1 : 1 ≤ t.size) : Ret Tryz.prog F_strings_Split [.str s, .str t] (.row false ((spl s t).map cS)) := by
 obtain ⟨z1, z2⟩ := spl_ok s t hs h1
 refine Ab.Ret.allocS (T := 9) Tryz.call110 (vs := [.string s, .string t]) ⟨same_str s, same_str t, True.intro⟩ (fun c hc => by have := z2 c hc; omega) (by omega) g0 (fun w n hn => ?_)
 have := Tryz.strings_Split s t n w (by omega) hn h1
 rw [← spl_len s t h1] at this
 exact this
theorem replaceK_len (old new : List UInt8) : ∀ (k : Nat) (s : List UInt8), (Lib.replaceK old new k s).length ≤ s.length + k * new.length
 | 0, s => by simp [Lib.replaceK]
 | k + 1, s => by
  unfold Lib.replaceK
  split
  ·omega
  ·have := replaceK_len old new k (s.drop ((Lib.index s old).toNat + old.length))
   simp only [List.length_append, List.length_take, List.length_drop] at this ⊢
   rw [Nat.add_mul, Nat.one_mul]
   omega
theorem repAB_size (s t u : ByteArray) (hs : s.size ≤ 255) (ht : 1 ≤ t.size) (hu : u.size ≤ 255) : (repAB s t u).size ≤ 140737488355328 := by
 show (Lib.replaceAll s.data.toList t.data.toList u.data.toList).toArray.size ≤ _
 have hl : s.data.toList.length = s.size := Array.length_toList
 have hlu : u.data.toList.length = u.size := Array.length_toList
 rw [List.size_toArray, Lib.replaceAll, Lib.replace]
 split
 ·omega
 ·have h1 := replaceK_len t.data.toList u.data.toList (Lib.replaceNum s.data.toList t.data.toList (-1)) s.data.toList
  have h2 : Lib.replaceNum s.data.toList t.data.toList (-1) ≤ s.size := by
   rw [Lib.replaceNum, if_pos (.inl (by decide))]
   exact Lib.countB_le t ht s.size s (Nat.le_refl _)
  have h3 : Lib.replaceNum s.data.toList t.data.toList (-1) * u.data.toList.length ≤ 255 * 255 := Nat.mul_le_mul (by omega) (by omega)
  omega
theorem joinB_size {l : List ByteArray} {d : ByteArray} (hd : d.size ≤ 255) (hs : ∀ c ∈ l, c.size ≤ 255) : (joinB l d).size ≤ 510 * l.length := by
 show (Lib.join (l.map (·.data.toList)) d.data.toList).toArray.size ≤ _
 rw [List.size_toArray]
 have := join_len d.data.toList (by rw [Array.length_toList]; exact hd) (l.map (·.data.toList)) (fun c hc => by
  obtain ⟨x, hx, rfl⟩ := List.mem_map.1 hc
  rw [Array.length_toList]
  exact hs x hx)
 rw [List.length_map] at this
 exact this
set_option maxHeartbeats 8000000 in
theorem g_subst : G1 F_texts_substitute [] := by
 intro q hq
 have t1 := text_g q
 obtain ⟨z1, hq1⟩ := txS_ok hq
 generalize txS q = p1 at *
 obtain ⟨s, q1⟩ := p1
 dsimp only at t1 z1 hq1
 have t2 := text_g q1
 obtain ⟨z2, hq2⟩ := txS_ok hq1
 generalize txS q1 = p2 at *
 obtain ⟨t, q2⟩ := p2
 dsimp only at t2 z2 hq2
 have t3 := text_g q2
 obtain ⟨z3, hq3⟩ := txS_ok hq2
 generalize txS q2 = p3 at *
 obtain ⟨u, l3, b3⟩ := p3
 dsimp only at t3 z3 hq3
 have t4 := whole_g 1 ⟨l3, b3⟩
 obtain ⟨z4, hq4⟩ := whS_ok (d := 1) hq3 (by decide)
 generalize whS18 1 ⟨l3, b3⟩ = p4 at *
 obtain ⟨k, q4⟩ := p4
 dsimp only at t4 z4 hq4
 by_cases hb : 0 < q4.b
 ·have d1 : decide (q4.b > 0) = true := decide_eq_true hb
  refine ⟨badS q4.b, true, q4, goodV_bad _, ?_⟩
  refine rl_texts_substitute rfl fun hw9 _ => ?_
  clear hw9
  repeat' ((conv => whnf); (first | refine Bth.mk ?_ ?_ | refine csp_t (d1) ?_ | refine pickk0 ?_ | refine csp (fun h => ?_) (fun h => ?_) | refine clll (RetL.frame (t1) _ [0] rfl (by simp) rfl rfl) (fun _ _ => ?_) | refine clll (RetL.frame (t2) _ [0] rfl (by simp) rfl rfl) (fun _ _ => ?_) | refine clll (RetL.frame (t3) _ [0] rfl (by simp) rfl rfl) (fun _ _ => ?_) | refine clll (RetL.frame (t4) _ [0] rfl (by simp) rfl rfl) (fun _ _ => ?_) | (apply clqi; apply rq_texts_asked_tells rfl) | refine cllo (value_Bad _) (fun _ => ?_) | (refine sda ?_ ?_; (focus (first | rfl | exact of_decide_eq_true rfl | (simp; done)))) | refine sda ?_ ?_ | refine conk rfl ?_ | refine ldk rfl ?_ | refine mapk (fun x hx => ?_) | exact ⟨rfl, rfl⟩ | refine nilk (fun h => absurd h (of_decide_eq_false rfl)) ?_ | refine nilk (fun h => absurd h (List.cons_ne_nil _ _)) ?_ | refine nilk (fun h => ?_) ?_ | exact rfl | exact True.intro | refine leftk1 rfl ?_ | refine bytk8 rfl ?_ | refine bytk rfl ?_ | exact leftk0 rfl | refine eqk rfl ?_ | refine fLm rfl ?_ | refine fLk (by assumption) ?_ | refine fVk ?_ | refine fLVk ?_ | refine fWk ?_ | intro hl))
  all_goals conv => whnf
  all_goals exact ⟨rfl, rfl⟩
 have d1 : decide (q4.b > 0) = false := decide_eq_false hb
 by_cases hk : 1 ≤ k
 rotate_left
 ·have d2 : (!decide (k ≥ 1)) = true := by rw [decide_eq_false (by omega)]; rfl
  refine ⟨badS 2, true, q4, goodV_bad _, ?_⟩
  refine rl_texts_substitute rfl fun hw9 _ => ?_
  clear hw9
  repeat' ((conv => whnf); (first | refine Bth.mk ?_ ?_ | refine csp_t (d2) ?_ | refine csp_f (d1) ?_ | refine pickk0 ?_ | refine csp (fun h => ?_) (fun h => ?_) | refine clll (RetL.frame (t1) _ [0] rfl (by simp) rfl rfl) (fun _ _ => ?_) | refine clll (RetL.frame (t2) _ [0] rfl (by simp) rfl rfl) (fun _ _ => ?_) | refine clll (RetL.frame (t3) _ [0] rfl (by simp) rfl rfl) (fun _ _ => ?_) | refine clll (RetL.frame (t4) _ [0] rfl (by simp) rfl rfl) (fun _ _ => ?_) | (apply clqi; apply rq_texts_asked_tells rfl) | refine cllo (value_Bad _) (fun _ => ?_) | (refine sda ?_ ?_; (focus (first | rfl | exact of_decide_eq_true rfl | (simp; done)))) | refine sda ?_ ?_ | refine conk rfl ?_ | refine ldk rfl ?_ | refine mapk (fun x hx => ?_) | exact ⟨rfl, rfl⟩ | refine nilk (fun h => absurd h (of_decide_eq_false rfl)) ?_ | refine nilk (fun h => absurd h (List.cons_ne_nil _ _)) ?_ | refine nilk (fun h => ?_) ?_ | exact rfl | exact True.intro | refine leftk1 rfl ?_ | refine bytk8 rfl ?_ | refine bytk rfl ?_ | exact leftk0 rfl | refine eqk rfl ?_ | refine fLm rfl ?_ | refine fLk (by assumption) ?_ | refine fVk ?_ | refine fLVk ?_ | refine fWk ?_ | intro hl))
  all_goals conv => whnf
  all_goals exact ⟨rfl, rfl⟩
 have d2 : (!decide (k ≥ 1)) = false := by rw [decide_eq_true (by omega)]; rfl
 by_cases ht : t = e0
 ·subst ht
  refine ⟨strS s, true, q4, strS_good _, ?_⟩
  refine rl_texts_substitute rfl fun hw9 _ => ?_
  clear hw9
  repeat' ((conv => whnf); (first | refine Bth.mk ?_ ?_ | refine csp_f (d2) ?_ | refine csp_f (d1) ?_ | refine pickk0 ?_ | refine csp (fun h => ?_) (fun h => ?_) | refine clll (RetL.frame (t1) _ [0] rfl (by simp) rfl rfl) (fun _ _ => ?_) | refine clll (RetL.frame (t2) _ [0] rfl (by simp) rfl rfl) (fun _ _ => ?_) | refine clll (RetL.frame (t3) _ [0] rfl (by simp) rfl rfl) (fun _ _ => ?_) | refine clll (RetL.frame (t4) _ [0] rfl (by simp) rfl rfl) (fun _ _ => ?_) | (apply clqi; apply rq_texts_asked_tells rfl) | (apply clqi; apply rq_texts_substitute_1 rfl) | refine cllo (value_Str _) (fun _ => ?_) | (refine sda ?_ ?_; (focus (first | rfl | exact of_decide_eq_true rfl | (simp; done)))) | refine sda ?_ ?_ | refine conk rfl ?_ | refine ldk rfl ?_ | refine mapk (fun x hx => ?_) | exact ⟨rfl, rfl⟩ | refine nilk (fun h => absurd h (of_decide_eq_false rfl)) ?_ | refine nilk (fun h => absurd h (List.cons_ne_nil _ _)) ?_ | refine nilk (fun h => ?_) ?_ | exact rfl | exact True.intro | refine leftk1 rfl ?_ | refine bytk8 rfl ?_ | refine bytk rfl ?_ | exact leftk0 rfl | refine eqk rfl ?_ | refine fLm rfl ?_ | refine fLk (by assumption) ?_ | refine fVk ?_ | refine fLVk ?_ | refine fWk ?_ | intro hl))
  all_goals conv => whnf
  all_goals exact ⟨rfl, rfl⟩
 have d3 : decide (t = e0) = false := decide_eq_false ht
 have hp := size_pos ht
 by_cases hl : l3.length = 0
 ·have d4 : decide (((l3.map cA).length : Int) = 0) = true := decide_eq_true (by rw [List.length_map]; omega)
  have hr := ReplaceAll_c s t u z1 hp z3 (repAB_size s t u z1 hp z3)
  refine ⟨strS (repAB s t u), true, q4, strS_good _, ?_⟩
  generalize repAB s t u = r at *
  refine rl_texts_substitute rfl fun hw9 _ => ?_
  clear hw9
  repeat' ((conv => whnf); (first | refine Bth.mk ?_ ?_ | refine csp_t (d4) ?_ | refine csp_f (d2) ?_ | refine csp_f (d1) ?_ | refine csp_f (d3) ?_ | refine pickk0 ?_ | refine csp (fun h => ?_) (fun h => ?_) | refine clll (RetL.frame (t1) _ [0] rfl (by simp) rfl rfl) (fun _ _ => ?_) | refine clll (RetL.frame (t2) _ [0] rfl (by simp) rfl rfl) (fun _ _ => ?_) | refine clll (RetL.frame (t3) _ [0] rfl (by simp) rfl rfl) (fun _ _ => ?_) | refine clll (RetL.frame (t4) _ [0] rfl (by simp) rfl rfl) (fun _ _ => ?_) | (apply clqi; apply rq_texts_asked_tells rfl) | (apply clqi; apply rq_texts_substitute_1 rfl) | refine cllo (hr) (fun _ => ?_) | refine cllo (value_Str _) (fun _ => ?_) | (refine sda ?_ ?_; (focus (first | rfl | exact of_decide_eq_true rfl | (simp; done)))) | refine sda ?_ ?_ | refine conk rfl ?_ | refine ldk rfl ?_ | refine mapk (fun x hx => ?_) | exact ⟨rfl, rfl⟩ | refine nilk (fun h => absurd h (of_decide_eq_false rfl)) ?_ | refine nilk (fun h => absurd h (List.cons_ne_nil _ _)) ?_ | refine nilk (fun h => ?_) ?_ | exact rfl | exact True.intro | refine leftk1 rfl ?_ | refine bytk8 rfl ?_ | refine bytk rfl ?_ | exact leftk0 rfl | refine eqk rfl ?_ | refine fLm rfl ?_ | refine fLk (by assumption) ?_ | refine fVk ?_ | refine fLVk ?_ | refine fWk ?_ | intro hl))
  all_goals conv => whnf
  all_goals exact ⟨rfl, rfl⟩
 have d4 : decide (((l3.map cA).length : Int) = 0) = false := decide_eq_false (by rw [List.length_map]; omega)
 have hS := Split_c s t z1 hp
 obtain ⟨y1, y2⟩ := spl_ok s t z1 hp
 generalize spl s t = ls at *
 have hlm : (ls.map cS).length = ls.length := List.length_map _
 by_cases hkl : k < ls.length
 rotate_left
 ·have d5 : decide (k ≥ ((ls.map cS).length : Nat)) = true := decide_eq_true (by omega)
  refine ⟨strS s, true, q4, strS_good _, ?_⟩
  refine rl_texts_substitute rfl fun hw9 _ => ?_
  clear hw9
  repeat' ((conv => whnf); (first | refine Bth.mk ?_ ?_ | refine csp_t (d5) ?_ | refine csp_f (d4) ?_ | refine csp_f (d2) ?_ | refine csp_f (d1) ?_ | refine csp_f (d3) ?_ | refine pickk0 ?_ | refine csp (fun h => ?_) (fun h => ?_) | refine clll (RetL.frame (t1) _ [0] rfl (by simp) rfl rfl) (fun _ _ => ?_) | refine clll (RetL.frame (t2) _ [0] rfl (by simp) rfl rfl) (fun _ _ => ?_) | refine clll (RetL.frame (t3) _ [0] rfl (by simp) rfl rfl) (fun _ _ => ?_) | refine clll (RetL.frame (t4) _ [0] rfl (by simp) rfl rfl) (fun _ _ => ?_) | (apply clqi; apply rq_texts_asked_tells rfl) | (apply clqi; apply rq_texts_substitute_1 rfl) | refine cllo (hS) (fun _ => ?_) | refine cllo (value_Str _) (fun _ => ?_) | (refine sda ?_ ?_; (focus (first | rfl | exact of_decide_eq_true rfl | (simp; done)))) | refine sda ?_ ?_ | refine conk rfl ?_ | refine ldk rfl ?_ | refine mapk (fun x hx => ?_) | exact ⟨rfl, rfl⟩ | refine nilk (fun h => absurd h (of_decide_eq_false rfl)) ?_ | refine nilk (fun h => absurd h (List.cons_ne_nil _ _)) ?_ | refine nilk (fun h => ?_) ?_ | exact rfl | exact True.intro | refine leftk1 rfl ?_ | refine bytk8 rfl ?_ | refine bytk rfl ?_ | exact leftk0 rfl | refine eqk rfl ?_ | refine fLm rfl ?_ | refine fLk (by assumption) ?_ | refine fVk ?_ | refine fLVk ?_ | refine fWk ?_ | intro hl))
  all_goals conv => whnf
  all_goals exact ⟨rfl, rfl⟩
 have d5 : decide (k ≥ ((ls.map cS).length : Nat)) = false := decide_eq_false (by omega)
 have w1 : ∀ c ∈ ls.take k.toNat, c.size ≤ 255 := fun c hc => y2 c (List.mem_of_mem_take hc)
 have w2 : ∀ c ∈ ls.drop k.toNat, c.size ≤ 255 := fun c hc => y2 c (List.mem_of_mem_drop hc)
 have j1 := Join_g (ls.take k.toNat) t z2 (by simp; omega) w1
 have j2 := Join_g (ls.drop k.toNat) t z2 (by simp; omega) w2
 have g1 := joinB_size z2 w1
 have g2 := joinB_size z2 w2
 have e1 : (ls.take k.toNat).map cS = List.take (k - 0).toNat (List.drop (Int.toNat 0) (ls.map cS)) := by
  rw [Int.toNat_zero, List.drop_zero, Int.sub_zero, List.map_take]
 have e2 : (ls.drop k.toNat).map cS = List.take (((ls.map cS).length : Int) - k).toNat (List.drop k.toNat (ls.map cS)) := by
  rw [List.map_drop, List.take_of_length_le (by simp; omega)]
 rw [e1] at j1
 rw [e2] at j2
 have g3 : (ls.take k.toNat).length ≤ 256 := by simp; omega
 have g4 : (ls.drop k.toNat).length ≤ 256 := by simp; omega
 generalize joinB (ls.take k.toNat) t = A at *
 generalize joinB (ls.drop k.toNat) t = B at *
 refine ⟨strS (A ++ u ++ B), true, q4, strS_good _, ?_⟩
 refine rl_texts_substitute rfl fun hw9 _ => ?_
 clear hw9
 repeat' ((conv => whnf); (first | refine Bth.mk ?_ ?_ | refine csp_f (d5) ?_ | refine csp_f (d4) ?_ | refine csp_f (d2) ?_ | refine csp_f (d1) ?_ | refine csp_f (d3) ?_ | refine pickk0 ?_ | refine csp (fun h => ?_) (fun h => ?_) | refine clll (RetL.frame (t1) _ [0] rfl (by simp) rfl rfl) (fun _ _ => ?_) | refine clll (RetL.frame (t2) _ [0] rfl (by simp) rfl rfl) (fun _ _ => ?_) | refine clll (RetL.frame (t3) _ [0] rfl (by simp) rfl rfl) (fun _ _ => ?_) | refine clll (RetL.frame (t4) _ [0] rfl (by simp) rfl rfl) (fun _ _ => ?_) | (apply clqi; apply rq_texts_asked_tells rfl) | (apply clqi; apply rq_texts_substitute_1 rfl) | refine cllo (hS) (fun _ => ?_) | refine cllo (j1) (fun _ => ?_) | refine cllo (j2) (fun _ => ?_) | refine cllo (value_Str _) (fun _ => ?_) | (refine sda ?_ ?_; (focus (first | rfl | exact of_decide_eq_true rfl | (simp; done)))) | refine sda ?_ ?_ | refine conk rfl ?_ | refine ldk rfl ?_ | refine mapk (fun x hx => ?_) | exact ⟨rfl, rfl⟩ | refine nilk (fun h => absurd h (of_decide_eq_false rfl)) ?_ | refine nilk (fun h => absurd h (List.cons_ne_nil _ _)) ?_ | refine nilk (fun h => ?_) ?_ | exact rfl | exact True.intro | refine leftk1 rfl ?_ | refine bytk8 rfl ?_ | refine bytk rfl ?_ | exact leftk0 rfl | refine eqk rfl ?_ | refine fLm rfl ?_ | refine fLk (by assumption) ?_ | refine fVk ?_ | refine fLVk ?_ | refine fWk ?_ | intro hl))
 all_goals conv => whnf
 ·omega
 ·exact len1 hl
 ·exact (by omega : A.size + u.size ≤ 9223372036854775807)
 ·omega
 ·exact len1 hl
 ·exact (by rw [ByteArray.size_append]; omega : (A ++ u).size + B.size ≤ 9223372036854775807)
theorem num_Round18 (n d how : Int) (h1 : -9223372036854775808 ≤ d) (h2 : d ≤ 9223372036854775807) : Ret Tryz.prog F_num_Round [.int .i64 n, .int .i64 d, .int .i64 how] (.tup [.int .i64 (Nm.rnd n d how).1, .bool (Nm.rnd n d how).2]) := by
 have := Mt.rnd_bd n d how
 exact c_num_Round n d how (Nm.rnd n d how).1 (Nm.rnd n d how).2 (Nm.Round_is n d how ⟨h1, h2⟩) (w64 (by omega))
theorem Cut_g (s : ByteArray) (hs : s.size ≤ 255) : ∃ (a b : ByteArray) (f : Bool), Ret Tryz.prog F_strings_Cut [.str s, .str ⟨#[46]⟩] (.tup [.str a, .str b, .bool f]) ∧ a.size ≤ 255 ∧ b.size ≤ 255 := by
 have hl : s.data.toList.length = s.size := Array.length_toList
 have hc : (Lib.cut s.data.toList (⟨#[46]⟩ : ByteArray).data.toList).1.length ≤ s.size ∧ (Lib.cut s.data.toList (⟨#[46]⟩ : ByteArray).data.toList).2.1.length ≤ s.size := by
  unfold Lib.cut
  split
  ·simp only [List.length_take, List.length_drop]
   omega
  ·simp only [List.length_nil]
   omega
 generalize hk : Lib.cut s.data.toList (⟨#[46]⟩ : ByteArray).data.toList = c at *
 obtain ⟨a, b, f⟩ := c
 dsimp only at hc
 refine ⟨⟨a.toArray⟩, ⟨b.toArray⟩, f, ?_, ?_, ?_⟩
 ·refine Ab.Ret.callsG Tryz.call140 (vs := [.string s, .string ⟨#[46]⟩]) (x := .tuple #[.string ⟨a.toArray⟩, .string ⟨b.toArray⟩, .bool f]) ⟨same_str s, same_str _, True.intro⟩
   (fits_tup (xs := [.string ⟨a.toArray⟩, .string ⟨b.toArray⟩, .bool f]) ⟨fits_str (by show a.toArray.size ≤ _; simp; omega), fits_str (by show b.toArray.size ≤ _; simp; omega), fits_bool f, True.intro⟩) g0 (fun w n hn => ?_)
  have := Tryz.strings_Cut s ⟨#[46]⟩ n w (by omega) hn
  rw [hk] at this
  refine this.mono fun e w' ⟨he, m, hw⟩ => ⟨he, ?_⟩
  rw [hw]
  exact ⟨rfl, rfl, rfl, Nat.le_refl _, fun _ _ => rfl⟩
 ·show a.toArray.size ≤ _
  simp
  omega
 ·show b.toArray.size ≤ _
  simp
  omega
end Go.Proofs.YtcbknemdidehlaaGreatDoor
set_option maxRecDepth 100000
set_option linter.all false
namespace Go.Proofs.YtcbknemdidehlaaGreatDoor
open Ab R P Vl
set_option maxHeartbeats 4000000 in
theorem g_fixed : G1 F_texts_fixed [] := by
 intro q hq
 have t1 := number_g q
 obtain ⟨z1, hq1⟩ := nmS_ok hq
 generalize nmS q = p1 at *
 obtain ⟨x, q1⟩ := p1
 dsimp only at t1 z1 hq1
 have t2 := whole_g 2 q1
 obtain ⟨z2, hq2⟩ := whS_ok (d := 2) hq1 (by decide)
 generalize whS18 2 q1 = p2 at *
 obtain ⟨d, q2⟩ := p2
 dsimp only at t2 z2 hq2
 by_cases hb : 0 < q2.b
 ·have d1 : decide (q2.b > 0) = true := decide_eq_true hb
  refine ⟨badS q2.b, true, q2, goodV_bad _, ?_⟩
  refine rl_texts_fixed rfl fun hw9 _ => ?_
  clear hw9
  repeat' ((conv => whnf); (first | refine Bth.mk ?_ ?_ | refine csp_t (d1) ?_ | refine pickk0 ?_ | refine csp (fun h => ?_) (fun h => ?_) | refine clll (RetL.frame (t1) _ [0] rfl (by simp) rfl rfl) (fun _ _ => ?_) | refine clll (RetL.frame (t2) _ [0] rfl (by simp) rfl rfl) (fun _ _ => ?_) | (apply clqi; apply rq_texts_asked_tells rfl) | refine cllo (value_Bad _) (fun _ => ?_) | (refine sda ?_ ?_; (focus (first | rfl | exact of_decide_eq_true rfl | (simp; done)))) | refine sda ?_ ?_ | refine conk rfl ?_ | refine ldk rfl ?_ | refine mapk (fun x hx => ?_) | exact ⟨rfl, rfl⟩ | refine nilk (fun h => absurd h (of_decide_eq_false rfl)) ?_ | refine nilk (fun h => absurd h (List.cons_ne_nil _ _)) ?_ | refine nilk (fun h => ?_) ?_ | exact rfl | exact True.intro | refine leftk1 rfl ?_ | refine bytk8 rfl ?_ | refine bytk rfl ?_ | exact leftk0 rfl | refine eqk rfl ?_ | refine fLm rfl ?_ | refine fLk (by assumption) ?_ | refine fVk ?_ | refine fLVk ?_ | refine fWk ?_ | intro hl))
  all_goals conv => whnf
  all_goals exact ⟨rfl, rfl⟩
 have d1 : decide (q2.b > 0) = false := decide_eq_false hb
 have hR := num_Round18 x d 0 (by omega) (by omega)
 have hbd := Mt.rnd_bd x d 0
 generalize Nm.rnd x d 0 = y at *
 obtain ⟨n, ok⟩ := y
 dsimp only at hbd
 by_cases c1 : d < 0
 ·have d2 : decide (d < 0) = true := decide_eq_true c1
  refine ⟨badS 5, true, q2, goodV_bad _, ?_⟩
  refine rl_texts_fixed rfl fun hw9 _ => ?_
  clear hw9
  repeat' ((conv => whnf); (first | refine Bth.mk ?_ ?_ | refine csp_t (d2) ?_ | refine csp_f (d1) ?_ | refine pickk0 ?_ | refine csp (fun h => ?_) (fun h => ?_) | refine clll (RetL.frame (t1) _ [0] rfl (by simp) rfl rfl) (fun _ _ => ?_) | refine clll (RetL.frame (t2) _ [0] rfl (by simp) rfl rfl) (fun _ _ => ?_) | (apply clqi; apply rq_texts_asked_tells rfl) | (apply clqi; apply rq_texts_fixed_1 rfl) | refine cllo (hR) (fun _ => ?_) | refine cllo (value_Bad _) (fun _ => ?_) | (refine sda ?_ ?_; (focus (first | rfl | exact of_decide_eq_true rfl | (simp; done)))) | refine sda ?_ ?_ | refine conk rfl ?_ | refine ldk rfl ?_ | refine mapk (fun x hx => ?_) | exact ⟨rfl, rfl⟩ | refine nilk (fun h => absurd h (of_decide_eq_false rfl)) ?_ | refine nilk (fun h => absurd h (List.cons_ne_nil _ _)) ?_ | refine nilk (fun h => ?_) ?_ | exact rfl | exact True.intro | refine leftk1 rfl ?_ | refine bytk8 rfl ?_ | refine bytk rfl ?_ | exact leftk0 rfl | refine eqk rfl ?_ | refine fLm rfl ?_ | refine fLk (by assumption) ?_ | refine fVk ?_ | refine fLVk ?_ | refine fWk ?_ | intro hl))
  all_goals conv => whnf
  all_goals exact ⟨rfl, rfl⟩
 have d2 : decide (d < 0) = false := decide_eq_false c1
 by_cases c2 : d > 4
 ·have d3 : decide (d > 4) = true := decide_eq_true c2
  refine ⟨badS 5, true, q2, goodV_bad _, ?_⟩
  refine rl_texts_fixed rfl fun hw9 _ => ?_
  clear hw9
  repeat' ((conv => whnf); (first | refine Bth.mk ?_ ?_ | refine csp_t (d3) ?_ | refine csp_f (d2) ?_ | refine csp_f (d1) ?_ | refine pickk0 ?_ | refine csp (fun h => ?_) (fun h => ?_) | refine clll (RetL.frame (t1) _ [0] rfl (by simp) rfl rfl) (fun _ _ => ?_) | refine clll (RetL.frame (t2) _ [0] rfl (by simp) rfl rfl) (fun _ _ => ?_) | (apply clqi; apply rq_texts_asked_tells rfl) | (apply clqi; apply rq_texts_fixed_1 rfl) | refine cllo (hR) (fun _ => ?_) | refine cllo (value_Bad _) (fun _ => ?_) | (refine sda ?_ ?_; (focus (first | rfl | exact of_decide_eq_true rfl | (simp; done)))) | refine sda ?_ ?_ | refine conk rfl ?_ | refine ldk rfl ?_ | refine mapk (fun x hx => ?_) | exact ⟨rfl, rfl⟩ | refine nilk (fun h => absurd h (of_decide_eq_false rfl)) ?_ | refine nilk (fun h => absurd h (List.cons_ne_nil _ _)) ?_ | refine nilk (fun h => ?_) ?_ | exact rfl | exact True.intro | refine leftk1 rfl ?_ | refine bytk8 rfl ?_ | refine bytk rfl ?_ | exact leftk0 rfl | refine eqk rfl ?_ | refine fLm rfl ?_ | refine fLk (by assumption) ?_ | refine fVk ?_ | refine fLVk ?_ | refine fWk ?_ | intro hl))
  all_goals conv => whnf
  all_goals exact ⟨rfl, rfl⟩
 have d3 : decide (d > 4) = false := decide_eq_false c2
 cases ok
 ·refine ⟨badS 5, true, q2, goodV_bad _, ?_⟩
  refine rl_texts_fixed rfl fun hw9 _ => ?_
  clear hw9
  repeat' ((conv => whnf); (first | refine Bth.mk ?_ ?_ | refine csp_f (d3) ?_ | refine csp_f (d2) ?_ | refine csp_f (d1) ?_ | refine pickk0 ?_ | refine csp (fun h => ?_) (fun h => ?_) | refine clll (RetL.frame (t1) _ [0] rfl (by simp) rfl rfl) (fun _ _ => ?_) | refine clll (RetL.frame (t2) _ [0] rfl (by simp) rfl rfl) (fun _ _ => ?_) | (apply clqi; apply rq_texts_asked_tells rfl) | (apply clqi; apply rq_texts_fixed_1 rfl) | refine cllo (hR) (fun _ => ?_) | refine cllo (value_Bad _) (fun _ => ?_) | (refine sda ?_ ?_; (focus (first | rfl | exact of_decide_eq_true rfl | (simp; done)))) | refine sda ?_ ?_ | refine conk rfl ?_ | refine ldk rfl ?_ | refine mapk (fun x hx => ?_) | exact ⟨rfl, rfl⟩ | refine nilk (fun h => absurd h (of_decide_eq_false rfl)) ?_ | refine nilk (fun h => absurd h (List.cons_ne_nil _ _)) ?_ | refine nilk (fun h => ?_) ?_ | exact rfl | exact True.intro | refine leftk1 rfl ?_ | refine bytk8 rfl ?_ | refine bytk rfl ?_ | exact leftk0 rfl | refine eqk rfl ?_ | refine fLm rfl ?_ | refine fLk (by assumption) ?_ | refine fVk ?_ | refine fLVk ?_ | refine fWk ?_ | intro hl))
  all_goals conv => whnf
  all_goals exact ⟨rfl, rfl⟩
 have hP : Ret Tryz.prog F_num_Print [.int .i64 n] (.str (Vl.prt n)) := c_num_Print n _ (Vl.Prt_is (by omega) (by omega)).1 (by have := Vl.prt_sz (n := n) (by omega) (by omega); omega)
 have hps := Vl.prt_sz (n := n) (by omega) (by omega)
 obtain ⟨A, B, f, hC, hA, hB⟩ := Cut_g (Vl.prt n) (by omega)
 generalize Vl.prt n = S at *
 by_cases c3 : d > 0
 ·have d4 : decide (d > 0) = true := decide_eq_true c3
  refine ⟨strS (A ++ (⟨#[46]⟩ ++ (B ++ ⟨#[48, 48, 48, 48]⟩).extract (Int.toNat 0) d.toNat)), true, q2, strS_good _, ?_⟩
  refine rl_texts_fixed rfl fun hw9 _ => ?_
  clear hw9
  repeat' ((conv => whnf); (first | refine Bth.mk ?_ ?_ | refine csp_t (d4) ?_ | refine csp_f (d3) ?_ | refine csp_f (d2) ?_ | refine csp_f (d1) ?_ | refine pickk0 ?_ | refine csp (fun h => ?_) (fun h => ?_) | refine clll (RetL.frame (t1) _ [0] rfl (by simp) rfl rfl) (fun _ _ => ?_) | refine clll (RetL.frame (t2) _ [0] rfl (by simp) rfl rfl) (fun _ _ => ?_) | (apply clqi; apply rq_texts_asked_tells rfl) | (apply clqi; apply rq_texts_fixed_1 rfl) | refine cllo (hR) (fun _ => ?_) | refine cllo (hP) (fun _ => ?_) | refine cllo (hC) (fun _ => ?_) | refine cllo (value_Str _) (fun _ => ?_) | (refine sda ?_ ?_; (focus (first | rfl | exact of_decide_eq_true rfl | (simp; done)))) | refine sda ?_ ?_ | refine conk rfl ?_ | refine ldk rfl ?_ | refine mapk (fun x hx => ?_) | exact ⟨rfl, rfl⟩ | refine nilk (fun h => absurd h (of_decide_eq_false rfl)) ?_ | refine nilk (fun h => absurd h (List.cons_ne_nil _ _)) ?_ | refine nilk (fun h => ?_) ?_ | exact rfl | exact True.intro | refine leftk1 rfl ?_ | refine bytk8 rfl ?_ | refine bytk rfl ?_ | exact leftk0 rfl | refine eqk rfl ?_ | refine fLm rfl ?_ | refine fLk (by assumption) ?_ | refine fVk ?_ | refine fLVk ?_ | refine fWk ?_ | intro hl))
  all_goals conv => whnf
  ·exact (by omega : B.size + 4 ≤ 9223372036854775807)
  ·rw [show (B ++ (⟨#[48, 48, 48, 48]⟩ : ByteArray)).size = B.size + 4 from ByteArray.size_append]
   omega
  ·show 1 + ((B ++ (⟨#[48, 48, 48, 48]⟩ : ByteArray)).extract (Int.toNat 0) d.toNat).size ≤ 9223372036854775807
   rw [ByteArray.size_extract, show (B ++ (⟨#[48, 48, 48, 48]⟩ : ByteArray)).size = B.size + 4 from ByteArray.size_append]
   omega
  ·show A.size + ((⟨#[46]⟩ : ByteArray) ++ (B ++ (⟨#[48, 48, 48, 48]⟩ : ByteArray)).extract (Int.toNat 0) d.toNat).size ≤ 9223372036854775807
   rw [ByteArray.size_append, ByteArray.size_extract, show (B ++ (⟨#[48, 48, 48, 48]⟩ : ByteArray)).size = B.size + 4 from ByteArray.size_append]
   show A.size + (1 + _) ≤ 9223372036854775807
   omega
 ·have d4 : decide (d > 0) = false := decide_eq_false c3
  refine ⟨strS A, true, q2, strS_good _, ?_⟩
  refine rl_texts_fixed rfl fun hw9 _ => ?_
  clear hw9
  repeat' ((conv => whnf); (first | refine Bth.mk ?_ ?_ | refine csp_f (d4) ?_ | refine csp_f (d3) ?_ | refine csp_f (d2) ?_ | refine csp_f (d1) ?_ | refine pickk0 ?_ | refine csp (fun h => ?_) (fun h => ?_) | refine clll (RetL.frame (t1) _ [0] rfl (by simp) rfl rfl) (fun _ _ => ?_) | refine clll (RetL.frame (t2) _ [0] rfl (by simp) rfl rfl) (fun _ _ => ?_) | (apply clqi; apply rq_texts_asked_tells rfl) | (apply clqi; apply rq_texts_fixed_1 rfl) | refine cllo (hR) (fun _ => ?_) | refine cllo (hP) (fun _ => ?_) | refine cllo (hC) (fun _ => ?_) | refine cllo (value_Str _) (fun _ => ?_) | (refine sda ?_ ?_; (focus (first | rfl | exact of_decide_eq_true rfl | (simp; done)))) | refine sda ?_ ?_ | refine conk rfl ?_ | refine ldk rfl ?_ | refine mapk (fun x hx => ?_) | exact ⟨rfl, rfl⟩ | refine nilk (fun h => absurd h (of_decide_eq_false rfl)) ?_ | refine nilk (fun h => absurd h (List.cons_ne_nil _ _)) ?_ | refine nilk (fun h => ?_) ?_ | exact rfl | exact True.intro | refine leftk1 rfl ?_ | refine bytk8 rfl ?_ | refine bytk rfl ?_ | exact leftk0 rfl | refine eqk rfl ?_ | refine fLm rfl ?_ | refine fLk (by assumption) ?_ | refine fVk ?_ | refine fLVk ?_ | refine fWk ?_ | intro hl))
  all_goals conv => whnf
  all_goals exact ⟨rfl, rfl⟩
theorem fnd_TRIM : Ret Tryz.prog F_texts_find [.str ⟨#[84, 82, 73, 77]⟩] (.tup [.fn F_texts_texted_1 [] [.elem [.fn F_texts_made_1 [] [.elem [.fn F_texts_trim [] []]]]], .int .i64 1, .int .i64 1]) := by
 refine r_texts_find rfl fun hw => ?_
 clear hw
 repeat' ((conv => whnf); (first | refine Bth.mk ?_ ?_ | refine pickk0 ?_ | refine csp (fun h => ?_) (fun h => ?_) | (apply clqi; apply rq_texts_ends rfl) | (apply clqi; apply rq_texts_texted rfl) | (apply clqi; apply rq_texts_made rfl) | (apply clqi; apply rq_texts_finds rfl) | (apply clqi; apply rq_texts_kept rfl) | (refine sda ?_ ?_; (focus (first | rfl | exact of_decide_eq_true rfl | (simp; done)))) | refine sda ?_ ?_ | refine conk rfl ?_ | refine ldk rfl ?_ | refine mapk (fun x hx => ?_) | exact ⟨rfl, rfl⟩ | refine nilk (fun h => absurd h (of_decide_eq_false rfl)) ?_ | refine nilk (fun h => absurd h (List.cons_ne_nil _ _)) ?_ | refine nilk (fun h => ?_) ?_ | exact rfl | exact True.intro | refine leftk1 rfl ?_ | refine bytk8 rfl ?_ | refine bytk rfl ?_ | exact leftk0 rfl | refine eqk rfl ?_ | refine fLm rfl ?_ | refine fLk (by assumption) ?_ | refine fVk ?_ | refine fLVk ?_ | refine fWk ?_ | intro hl))
 all_goals conv => whnf
 all_goals rfl
theorem fnd_CODE : Ret Tryz.prog F_texts_find [.str ⟨#[67, 79, 68, 69]⟩] (.tup [.fn F_texts_texted_1 [] [.elem [.fn F_texts_code [] []]], .int .i64 1, .int .i64 1]) := by
 refine r_texts_find rfl fun hw => ?_
 clear hw
 repeat' ((conv => whnf); (first | refine Bth.mk ?_ ?_ | refine pickk0 ?_ | refine csp (fun h => ?_) (fun h => ?_) | (apply clqi; apply rq_texts_ends rfl) | (apply clqi; apply rq_texts_texted rfl) | (apply clqi; apply rq_texts_made rfl) | (apply clqi; apply rq_texts_finds rfl) | (apply clqi; apply rq_texts_kept rfl) | (refine sda ?_ ?_; (focus (first | rfl | exact of_decide_eq_true rfl | (simp; done)))) | refine sda ?_ ?_ | refine conk rfl ?_ | refine ldk rfl ?_ | refine mapk (fun x hx => ?_) | exact ⟨rfl, rfl⟩ | refine nilk (fun h => absurd h (of_decide_eq_false rfl)) ?_ | refine nilk (fun h => absurd h (List.cons_ne_nil _ _)) ?_ | refine nilk (fun h => ?_) ?_ | exact rfl | exact True.intro | refine leftk1 rfl ?_ | refine bytk8 rfl ?_ | refine bytk rfl ?_ | exact leftk0 rfl | refine eqk rfl ?_ | refine fLm rfl ?_ | refine fLk (by assumption) ?_ | refine fVk ?_ | refine fLVk ?_ | refine fWk ?_ | intro hl))
 all_goals conv => whnf
 all_goals rfl
theorem fnd_VALUE : Ret Tryz.prog F_texts_find [.str ⟨#[86, 65, 76, 85, 69]⟩] (.tup [.fn F_texts_texted_1 [] [.elem [.fn F_texts_find_2 [] []]], .int .i64 1, .int .i64 1]) := by
 refine r_texts_find rfl fun hw => ?_
 clear hw
 repeat' ((conv => whnf); (first | refine Bth.mk ?_ ?_ | refine pickk0 ?_ | refine csp (fun h => ?_) (fun h => ?_) | (apply clqi; apply rq_texts_ends rfl) | (apply clqi; apply rq_texts_texted rfl) | (apply clqi; apply rq_texts_made rfl) | (apply clqi; apply rq_texts_finds rfl) | (apply clqi; apply rq_texts_kept rfl) | (refine sda ?_ ?_; (focus (first | rfl | exact of_decide_eq_true rfl | (simp; done)))) | refine sda ?_ ?_ | refine conk rfl ?_ | refine ldk rfl ?_ | refine mapk (fun x hx => ?_) | exact ⟨rfl, rfl⟩ | refine nilk (fun h => absurd h (of_decide_eq_false rfl)) ?_ | refine nilk (fun h => absurd h (List.cons_ne_nil _ _)) ?_ | refine nilk (fun h => ?_) ?_ | exact rfl | exact True.intro | refine leftk1 rfl ?_ | refine bytk8 rfl ?_ | refine bytk rfl ?_ | exact leftk0 rfl | refine eqk rfl ?_ | refine fLm rfl ?_ | refine fLk (by assumption) ?_ | refine fVk ?_ | refine fLVk ?_ | refine fWk ?_ | intro hl))
 all_goals conv => whnf
 all_goals rfl
theorem fnd_T : Ret Tryz.prog F_texts_find [.str ⟨#[84]⟩] (.tup [.fn F_texts_kept_1 [] [.elem [.int .i64 2], .elem [.fn F_texts_find_3 [] []]], .int .i64 1, .int .i64 1]) := by
 refine r_texts_find rfl fun hw => ?_
 clear hw
 repeat' ((conv => whnf); (first | refine Bth.mk ?_ ?_ | refine pickk0 ?_ | refine csp (fun h => ?_) (fun h => ?_) | (apply clqi; apply rq_texts_ends rfl) | (apply clqi; apply rq_texts_texted rfl) | (apply clqi; apply rq_texts_made rfl) | (apply clqi; apply rq_texts_finds rfl) | (apply clqi; apply rq_texts_kept rfl) | (refine sda ?_ ?_; (focus (first | rfl | exact of_decide_eq_true rfl | (simp; done)))) | refine sda ?_ ?_ | refine conk rfl ?_ | refine ldk rfl ?_ | refine mapk (fun x hx => ?_) | exact ⟨rfl, rfl⟩ | refine nilk (fun h => absurd h (of_decide_eq_false rfl)) ?_ | refine nilk (fun h => absurd h (List.cons_ne_nil _ _)) ?_ | refine nilk (fun h => ?_) ?_ | exact rfl | exact True.intro | refine leftk1 rfl ?_ | refine bytk8 rfl ?_ | refine bytk rfl ?_ | exact leftk0 rfl | refine eqk rfl ?_ | refine fLm rfl ?_ | refine fLk (by assumption) ?_ | refine fVk ?_ | refine fLVk ?_ | refine fWk ?_ | intro hl))
 all_goals conv => whnf
 all_goals rfl
theorem fnd_N : Ret Tryz.prog F_texts_find [.str ⟨#[78]⟩] (.tup [.fn F_texts_kept_1 [] [.elem [.int .i64 1], .elem [.fn F_texts_find_4 [] []]], .int .i64 1, .int .i64 1]) := by
 refine r_texts_find rfl fun hw => ?_
 clear hw
 repeat' ((conv => whnf); (first | refine Bth.mk ?_ ?_ | refine pickk0 ?_ | refine csp (fun h => ?_) (fun h => ?_) | (apply clqi; apply rq_texts_ends rfl) | (apply clqi; apply rq_texts_texted rfl) | (apply clqi; apply rq_texts_made rfl) | (apply clqi; apply rq_texts_finds rfl) | (apply clqi; apply rq_texts_kept rfl) | (refine sda ?_ ?_; (focus (first | rfl | exact of_decide_eq_true rfl | (simp; done)))) | refine sda ?_ ?_ | refine conk rfl ?_ | refine ldk rfl ?_ | refine mapk (fun x hx => ?_) | exact ⟨rfl, rfl⟩ | refine nilk (fun h => absurd h (of_decide_eq_false rfl)) ?_ | refine nilk (fun h => absurd h (List.cons_ne_nil _ _)) ?_ | refine nilk (fun h => ?_) ?_ | exact rfl | exact True.intro | refine leftk1 rfl ?_ | refine bytk8 rfl ?_ | refine bytk rfl ?_ | exact leftk0 rfl | refine eqk rfl ?_ | refine fLm rfl ?_ | refine fLk (by assumption) ?_ | refine fVk ?_ | refine fLVk ?_ | refine fWk ?_ | intro hl))
 all_goals conv => whnf
 all_goals rfl
theorem fnd_CHAR : Ret Tryz.prog F_texts_find [.str ⟨#[67, 72, 65, 82]⟩] (.tup [.fn F_texts_char [] [], .int .i64 1, .int .i64 1]) := by
 refine r_texts_find rfl fun hw => ?_
 clear hw
 repeat' ((conv => whnf); (first | refine Bth.mk ?_ ?_ | refine pickk0 ?_ | refine csp (fun h => ?_) (fun h => ?_) | (apply clqi; apply rq_texts_ends rfl) | (apply clqi; apply rq_texts_texted rfl) | (apply clqi; apply rq_texts_made rfl) | (apply clqi; apply rq_texts_finds rfl) | (apply clqi; apply rq_texts_kept rfl) | (refine sda ?_ ?_; (focus (first | rfl | exact of_decide_eq_true rfl | (simp; done)))) | refine sda ?_ ?_ | refine conk rfl ?_ | refine ldk rfl ?_ | refine mapk (fun x hx => ?_) | exact ⟨rfl, rfl⟩ | refine nilk (fun h => absurd h (of_decide_eq_false rfl)) ?_ | refine nilk (fun h => absurd h (List.cons_ne_nil _ _)) ?_ | refine nilk (fun h => ?_) ?_ | exact rfl | exact True.intro | refine leftk1 rfl ?_ | refine bytk8 rfl ?_ | refine bytk rfl ?_ | exact leftk0 rfl | refine eqk rfl ?_ | refine fLm rfl ?_ | refine fLk (by assumption) ?_ | refine fVk ?_ | refine fLVk ?_ | refine fWk ?_ | intro hl))
 all_goals conv => whnf
 all_goals rfl
theorem fnd_EXACT : Ret Tryz.prog F_texts_find [.str ⟨#[69, 88, 65, 67, 84]⟩] (.tup [.fn F_texts_find_5 [] [], .int .i64 2, .int .i64 2]) := by
 refine r_texts_find rfl fun hw => ?_
 clear hw
 repeat' ((conv => whnf); (first | refine Bth.mk ?_ ?_ | refine pickk0 ?_ | refine csp (fun h => ?_) (fun h => ?_) | (apply clqi; apply rq_texts_ends rfl) | (apply clqi; apply rq_texts_texted rfl) | (apply clqi; apply rq_texts_made rfl) | (apply clqi; apply rq_texts_finds rfl) | (apply clqi; apply rq_texts_kept rfl) | (refine sda ?_ ?_; (focus (first | rfl | exact of_decide_eq_true rfl | (simp; done)))) | refine sda ?_ ?_ | refine conk rfl ?_ | refine ldk rfl ?_ | refine mapk (fun x hx => ?_) | exact ⟨rfl, rfl⟩ | refine nilk (fun h => absurd h (of_decide_eq_false rfl)) ?_ | refine nilk (fun h => absurd h (List.cons_ne_nil _ _)) ?_ | refine nilk (fun h => ?_) ?_ | exact rfl | exact True.intro | refine leftk1 rfl ?_ | refine bytk8 rfl ?_ | refine bytk rfl ?_ | exact leftk0 rfl | refine eqk rfl ?_ | refine fLm rfl ?_ | refine fLk (by assumption) ?_ | refine fVk ?_ | refine fLVk ?_ | refine fWk ?_ | intro hl))
 all_goals conv => whnf
 all_goals rfl
theorem fnd_SEARCH : Ret Tryz.prog F_texts_find [.str ⟨#[83, 69, 65, 82, 67, 72]⟩] (.tup [.fn F_texts_finds_1 [] [.elem [.fn F_value_Upper [] []]], .int .i64 2, .int .i64 3]) := by
 refine r_texts_find rfl fun hw => ?_
 clear hw
 repeat' ((conv => whnf); (first | refine Bth.mk ?_ ?_ | refine pickk0 ?_ | refine csp (fun h => ?_) (fun h => ?_) | (apply clqi; apply rq_texts_ends rfl) | (apply clqi; apply rq_texts_texted rfl) | (apply clqi; apply rq_texts_made rfl) | (apply clqi; apply rq_texts_finds rfl) | (apply clqi; apply rq_texts_kept rfl) | (refine sda ?_ ?_; (focus (first | rfl | exact of_decide_eq_true rfl | (simp; done)))) | refine sda ?_ ?_ | refine conk rfl ?_ | refine ldk rfl ?_ | refine mapk (fun x hx => ?_) | exact ⟨rfl, rfl⟩ | refine nilk (fun h => absurd h (of_decide_eq_false rfl)) ?_ | refine nilk (fun h => absurd h (List.cons_ne_nil _ _)) ?_ | refine nilk (fun h => ?_) ?_ | exact rfl | exact True.intro | refine leftk1 rfl ?_ | refine bytk8 rfl ?_ | refine bytk rfl ?_ | exact leftk0 rfl | refine eqk rfl ?_ | refine fLm rfl ?_ | refine fLk (by assumption) ?_ | refine fVk ?_ | refine fLVk ?_ | refine fWk ?_ | intro hl))
 all_goals conv => whnf
 all_goals rfl
theorem fnd_TEXTJOIN : Ret Tryz.prog F_texts_find [.str ⟨#[84, 69, 88, 84, 74, 79, 73, 78]⟩] (.tup [.fn F_texts_find_8 [] [], .int .i64 2, .int .i64 1073741824]) := by
 refine r_texts_find rfl fun hw => ?_
 clear hw
 repeat' ((conv => whnf); (first | refine Bth.mk ?_ ?_ | refine pickk0 ?_ | refine csp (fun h => ?_) (fun h => ?_) | (apply clqi; apply rq_texts_ends rfl) | (apply clqi; apply rq_texts_texted rfl) | (apply clqi; apply rq_texts_made rfl) | (apply clqi; apply rq_texts_finds rfl) | (apply clqi; apply rq_texts_kept rfl) | (refine sda ?_ ?_; (focus (first | rfl | exact of_decide_eq_true rfl | (simp; done)))) | refine sda ?_ ?_ | refine conk rfl ?_ | refine ldk rfl ?_ | refine mapk (fun x hx => ?_) | exact ⟨rfl, rfl⟩ | refine nilk (fun h => absurd h (of_decide_eq_false rfl)) ?_ | refine nilk (fun h => absurd h (List.cons_ne_nil _ _)) ?_ | refine nilk (fun h => ?_) ?_ | exact rfl | exact True.intro | refine leftk1 rfl ?_ | refine bytk8 rfl ?_ | refine bytk rfl ?_ | exact leftk0 rfl | refine eqk rfl ?_ | refine fLm rfl ?_ | refine fLk (by assumption) ?_ | refine fVk ?_ | refine fLVk ?_ | refine fWk ?_ | intro hl))
 all_goals conv => whnf
 all_goals rfl
theorem cl_LEN (ls : List Ar) (hq : OkQ ⟨ls, 0⟩) : ∃ v : GV, goodV v = true ∧ Ret Tryz.prog F_texts_Call [.str ⟨#[76, 69, 78]⟩, .row false (ls.map cA)] (.tup [eV v, .bool true]) := by
 have hlm : ((ls.map cA).length : Int) = ls.length := by rw [List.length_map]
 by_cases h1 : (1 : Int) ≤ ls.length
 rotate_left
 ·have d1 : decide (((ls.map cA).length : Nat) < (1 : Int)) = true := decide_eq_true (by omega)
  refine ⟨badS 2, goodV_bad 2, ?_⟩
  refine r_texts_Call rfl fun hw => ?_
  clear hw
  repeat' ((conv => whnf); (first | refine Bth.mk ?_ ?_ | refine csp_t (d1) ?_ | refine pickk0 ?_ | refine csp (fun h => ?_) (fun h => ?_) | refine cllo (fnd_LEN) (fun _ => ?_) | refine cllo (value_Bad _) (fun _ => ?_) | (refine sda ?_ ?_; (focus (first | rfl | exact of_decide_eq_true rfl | (simp; done)))) | refine sda ?_ ?_ | refine conk rfl ?_ | refine ldk rfl ?_ | refine mapk (fun x hx => ?_) | exact ⟨rfl, rfl⟩ | refine nilk (fun h => absurd h (of_decide_eq_false rfl)) ?_ | refine nilk (fun h => absurd h (List.cons_ne_nil _ _)) ?_ | refine nilk (fun h => ?_) ?_ | exact rfl | exact True.intro | refine leftk1 rfl ?_ | refine bytk8 rfl ?_ | refine bytk rfl ?_ | exact leftk0 rfl | refine eqk rfl ?_ | refine fLm rfl ?_ | refine fLk (by assumption) ?_ | refine fVk ?_ | refine fLVk ?_ | refine fWk ?_ | intro hl))
  all_goals conv => whnf
 by_cases h2 : (ls.length : Int) ≤ 1
 rotate_left
 ·have d1 : decide (((ls.map cA).length : Nat) < (1 : Int)) = false := decide_eq_false (by omega)
  have d2 : decide (((ls.map cA).length : Nat) > (1 : Int)) = true := decide_eq_true (by omega)
  refine ⟨badS 2, goodV_bad 2, ?_⟩
  refine r_texts_Call rfl fun hw => ?_
  clear hw
  repeat' ((conv => whnf); (first | refine Bth.mk ?_ ?_ | refine csp_t (d2) ?_ | refine csp_f (d1) ?_ | refine pickk0 ?_ | refine csp (fun h => ?_) (fun h => ?_) | refine cllo (fnd_LEN) (fun _ => ?_) | refine cllo (value_Bad _) (fun _ => ?_) | (refine sda ?_ ?_; (focus (first | rfl | exact of_decide_eq_true rfl | (simp; done)))) | refine sda ?_ ?_ | refine conk rfl ?_ | refine ldk rfl ?_ | refine mapk (fun x hx => ?_) | exact ⟨rfl, rfl⟩ | refine nilk (fun h => absurd h (of_decide_eq_false rfl)) ?_ | refine nilk (fun h => absurd h (List.cons_ne_nil _ _)) ?_ | refine nilk (fun h => ?_) ?_ | exact rfl | exact True.intro | refine leftk1 rfl ?_ | refine bytk8 rfl ?_ | refine bytk rfl ?_ | exact leftk0 rfl | refine eqk rfl ?_ | refine fLm rfl ?_ | refine fLk (by assumption) ?_ | refine fVk ?_ | refine fLVk ?_ | refine fWk ?_ | intro hl))
  all_goals conv => whnf
 have d1 : decide (((ls.map cA).length : Nat) < (1 : Int)) = false := decide_eq_false (by omega)
 have d2 : decide (((ls.map cA).length : Nat) > (1 : Int)) = false := decide_eq_false (by omega)
 obtain ⟨v, x, q', hv, hr⟩ := (g_texted _ f_len) ⟨ls, 0⟩ hq
 refine ⟨v, hv, ?_⟩
 refine r_texts_Call rfl fun hw => ?_
 clear hw
 repeat' ((conv => whnf); (first | refine Bth.mk ?_ ?_ | refine csp_f (d1) ?_ | refine csp_f (d2) ?_ | refine pickk0 ?_ | refine csp (fun h => ?_) (fun h => ?_) | refine cllo (fnd_LEN) (fun _ => ?_) | refine clll (RetL.frame hr _ [1] rfl (by simp) rfl rfl) (fun _ _ => ?_) | (refine sda ?_ ?_; (focus (first | rfl | exact of_decide_eq_true rfl | (simp; done)))) | refine sda ?_ ?_ | refine conk rfl ?_ | refine ldk rfl ?_ | refine mapk (fun x hx => ?_) | exact ⟨rfl, rfl⟩ | refine nilk (fun h => absurd h (of_decide_eq_false rfl)) ?_ | refine nilk (fun h => absurd h (List.cons_ne_nil _ _)) ?_ | refine nilk (fun h => ?_) ?_ | exact rfl | exact True.intro | refine leftk1 rfl ?_ | refine bytk8 rfl ?_ | refine bytk rfl ?_ | exact leftk0 rfl | refine eqk rfl ?_ | refine fLm rfl ?_ | refine fLk (by assumption) ?_ | refine fVk ?_ | refine fLVk ?_ | refine fWk ?_ | intro hl))
 all_goals conv => whnf
theorem cl_UPPER (ls : List Ar) (hq : OkQ ⟨ls, 0⟩) : ∃ v : GV, goodV v = true ∧ Ret Tryz.prog F_texts_Call [.str ⟨#[85, 80, 80, 69, 82]⟩, .row false (ls.map cA)] (.tup [eV v, .bool true]) := by
 have hlm : ((ls.map cA).length : Int) = ls.length := by rw [List.length_map]
 by_cases h1 : (1 : Int) ≤ ls.length
 rotate_left
 ·have d1 : decide (((ls.map cA).length : Nat) < (1 : Int)) = true := decide_eq_true (by omega)
  refine ⟨badS 2, goodV_bad 2, ?_⟩
  refine r_texts_Call rfl fun hw => ?_
  clear hw
  repeat' ((conv => whnf); (first | refine Bth.mk ?_ ?_ | refine csp_t (d1) ?_ | refine pickk0 ?_ | refine csp (fun h => ?_) (fun h => ?_) | refine cllo (fnd_UPPER) (fun _ => ?_) | refine cllo (value_Bad _) (fun _ => ?_) | (refine sda ?_ ?_; (focus (first | rfl | exact of_decide_eq_true rfl | (simp; done)))) | refine sda ?_ ?_ | refine conk rfl ?_ | refine ldk rfl ?_ | refine mapk (fun x hx => ?_) | exact ⟨rfl, rfl⟩ | refine nilk (fun h => absurd h (of_decide_eq_false rfl)) ?_ | refine nilk (fun h => absurd h (List.cons_ne_nil _ _)) ?_ | refine nilk (fun h => ?_) ?_ | exact rfl | exact True.intro | refine leftk1 rfl ?_ | refine bytk8 rfl ?_ | refine bytk rfl ?_ | exact leftk0 rfl | refine eqk rfl ?_ | refine fLm rfl ?_ | refine fLk (by assumption) ?_ | refine fVk ?_ | refine fLVk ?_ | refine fWk ?_ | intro hl))
  all_goals conv => whnf
 by_cases h2 : (ls.length : Int) ≤ 1
 rotate_left
 ·have d1 : decide (((ls.map cA).length : Nat) < (1 : Int)) = false := decide_eq_false (by omega)
  have d2 : decide (((ls.map cA).length : Nat) > (1 : Int)) = true := decide_eq_true (by omega)
  refine ⟨badS 2, goodV_bad 2, ?_⟩
  refine r_texts_Call rfl fun hw => ?_
  clear hw
  repeat' ((conv => whnf); (first | refine Bth.mk ?_ ?_ | refine csp_t (d2) ?_ | refine csp_f (d1) ?_ | refine pickk0 ?_ | refine csp (fun h => ?_) (fun h => ?_) | refine cllo (fnd_UPPER) (fun _ => ?_) | refine cllo (value_Bad _) (fun _ => ?_) | (refine sda ?_ ?_; (focus (first | rfl | exact of_decide_eq_true rfl | (simp; done)))) | refine sda ?_ ?_ | refine conk rfl ?_ | refine ldk rfl ?_ | refine mapk (fun x hx => ?_) | exact ⟨rfl, rfl⟩ | refine nilk (fun h => absurd h (of_decide_eq_false rfl)) ?_ | refine nilk (fun h => absurd h (List.cons_ne_nil _ _)) ?_ | refine nilk (fun h => ?_) ?_ | exact rfl | exact True.intro | refine leftk1 rfl ?_ | refine bytk8 rfl ?_ | refine bytk rfl ?_ | exact leftk0 rfl | refine eqk rfl ?_ | refine fLm rfl ?_ | refine fLk (by assumption) ?_ | refine fVk ?_ | refine fLVk ?_ | refine fWk ?_ | intro hl))
  all_goals conv => whnf
 have d1 : decide (((ls.map cA).length : Nat) < (1 : Int)) = false := decide_eq_false (by omega)
 have d2 : decide (((ls.map cA).length : Nat) > (1 : Int)) = false := decide_eq_false (by omega)
 obtain ⟨v, x, q', hv, hr⟩ := (g_made _ fun s h => ⟨_, Upper_c s (by omega)⟩) ⟨ls, 0⟩ hq
 refine ⟨v, hv, ?_⟩
 refine r_texts_Call rfl fun hw => ?_
 clear hw
 repeat' ((conv => whnf); (first | refine Bth.mk ?_ ?_ | refine csp_f (d1) ?_ | refine csp_f (d2) ?_ | refine pickk0 ?_ | refine csp (fun h => ?_) (fun h => ?_) | refine cllo (fnd_UPPER) (fun _ => ?_) | refine clll (RetL.frame hr _ [1] rfl (by simp) rfl rfl) (fun _ _ => ?_) | (refine sda ?_ ?_; (focus (first | rfl | exact of_decide_eq_true rfl | (simp; done)))) | refine sda ?_ ?_ | refine conk rfl ?_ | refine ldk rfl ?_ | refine mapk (fun x hx => ?_) | exact ⟨rfl, rfl⟩ | refine nilk (fun h => absurd h (of_decide_eq_false rfl)) ?_ | refine nilk (fun h => absurd h (List.cons_ne_nil _ _)) ?_ | refine nilk (fun h => ?_) ?_ | exact rfl | exact True.intro | refine leftk1 rfl ?_ | refine bytk8 rfl ?_ | refine bytk rfl ?_ | exact leftk0 rfl | refine eqk rfl ?_ | refine fLm rfl ?_ | refine fLk (by assumption) ?_ | refine fVk ?_ | refine fLVk ?_ | refine fWk ?_ | intro hl))
 all_goals conv => whnf
theorem cl_LOWER (ls : List Ar) (hq : OkQ ⟨ls, 0⟩) : ∃ v : GV, goodV v = true ∧ Ret Tryz.prog F_texts_Call [.str ⟨#[76, 79, 87, 69, 82]⟩, .row false (ls.map cA)] (.tup [eV v, .bool true]) := by
 have hlm : ((ls.map cA).length : Int) = ls.length := by rw [List.length_map]
 by_cases h1 : (1 : Int) ≤ ls.length
 rotate_left
 ·have d1 : decide (((ls.map cA).length : Nat) < (1 : Int)) = true := decide_eq_true (by omega)
  refine ⟨badS 2, goodV_bad 2, ?_⟩
  refine r_texts_Call rfl fun hw => ?_
  clear hw
  repeat' ((conv => whnf); (first | refine Bth.mk ?_ ?_ | refine csp_t (d1) ?_ | refine pickk0 ?_ | refine csp (fun h => ?_) (fun h => ?_) | refine cllo (fnd_LOWER) (fun _ => ?_) | refine cllo (value_Bad _) (fun _ => ?_) | (refine sda ?_ ?_; (focus (first | rfl | exact of_decide_eq_true rfl | (simp; done)))) | refine sda ?_ ?_ | refine conk rfl ?_ | refine ldk rfl ?_ | refine mapk (fun x hx => ?_) | exact ⟨rfl, rfl⟩ | refine nilk (fun h => absurd h (of_decide_eq_false rfl)) ?_ | refine nilk (fun h => absurd h (List.cons_ne_nil _ _)) ?_ | refine nilk (fun h => ?_) ?_ | exact rfl | exact True.intro | refine leftk1 rfl ?_ | refine bytk8 rfl ?_ | refine bytk rfl ?_ | exact leftk0 rfl | refine eqk rfl ?_ | refine fLm rfl ?_ | refine fLk (by assumption) ?_ | refine fVk ?_ | refine fLVk ?_ | refine fWk ?_ | intro hl))
  all_goals conv => whnf
 by_cases h2 : (ls.length : Int) ≤ 1
 rotate_left
 ·have d1 : decide (((ls.map cA).length : Nat) < (1 : Int)) = false := decide_eq_false (by omega)
  have d2 : decide (((ls.map cA).length : Nat) > (1 : Int)) = true := decide_eq_true (by omega)
  refine ⟨badS 2, goodV_bad 2, ?_⟩
  refine r_texts_Call rfl fun hw => ?_
  clear hw
  repeat' ((conv => whnf); (first | refine Bth.mk ?_ ?_ | refine csp_t (d2) ?_ | refine csp_f (d1) ?_ | refine pickk0 ?_ | refine csp (fun h => ?_) (fun h => ?_) | refine cllo (fnd_LOWER) (fun _ => ?_) | refine cllo (value_Bad _) (fun _ => ?_) | (refine sda ?_ ?_; (focus (first | rfl | exact of_decide_eq_true rfl | (simp; done)))) | refine sda ?_ ?_ | refine conk rfl ?_ | refine ldk rfl ?_ | refine mapk (fun x hx => ?_) | exact ⟨rfl, rfl⟩ | refine nilk (fun h => absurd h (of_decide_eq_false rfl)) ?_ | refine nilk (fun h => absurd h (List.cons_ne_nil _ _)) ?_ | refine nilk (fun h => ?_) ?_ | exact rfl | exact True.intro | refine leftk1 rfl ?_ | refine bytk8 rfl ?_ | refine bytk rfl ?_ | exact leftk0 rfl | refine eqk rfl ?_ | refine fLm rfl ?_ | refine fLk (by assumption) ?_ | refine fVk ?_ | refine fLVk ?_ | refine fWk ?_ | intro hl))
  all_goals conv => whnf
 have d1 : decide (((ls.map cA).length : Nat) < (1 : Int)) = false := decide_eq_false (by omega)
 have d2 : decide (((ls.map cA).length : Nat) > (1 : Int)) = false := decide_eq_false (by omega)
 obtain ⟨v, x, q', hv, hr⟩ := (g_made _ fun s h => ⟨_, Lower_c s (by omega)⟩) ⟨ls, 0⟩ hq
 refine ⟨v, hv, ?_⟩
 refine r_texts_Call rfl fun hw => ?_
 clear hw
 repeat' ((conv => whnf); (first | refine Bth.mk ?_ ?_ | refine csp_f (d1) ?_ | refine csp_f (d2) ?_ | refine pickk0 ?_ | refine csp (fun h => ?_) (fun h => ?_) | refine cllo (fnd_LOWER) (fun _ => ?_) | refine clll (RetL.frame hr _ [1] rfl (by simp) rfl rfl) (fun _ _ => ?_) | (refine sda ?_ ?_; (focus (first | rfl | exact of_decide_eq_true rfl | (simp; done)))) | refine sda ?_ ?_ | refine conk rfl ?_ | refine ldk rfl ?_ | refine mapk (fun x hx => ?_) | exact ⟨rfl, rfl⟩ | refine nilk (fun h => absurd h (of_decide_eq_false rfl)) ?_ | refine nilk (fun h => absurd h (List.cons_ne_nil _ _)) ?_ | refine nilk (fun h => ?_) ?_ | exact rfl | exact True.intro | refine leftk1 rfl ?_ | refine bytk8 rfl ?_ | refine bytk rfl ?_ | exact leftk0 rfl | refine eqk rfl ?_ | refine fLm rfl ?_ | refine fLk (by assumption) ?_ | refine fVk ?_ | refine fLVk ?_ | refine fWk ?_ | intro hl))
 all_goals conv => whnf
theorem cl_PROPER (ls : List Ar) (hq : OkQ ⟨ls, 0⟩) : ∃ v : GV, goodV v = true ∧ Ret Tryz.prog F_texts_Call [.str ⟨#[80, 82, 79, 80, 69, 82]⟩, .row false (ls.map cA)] (.tup [eV v, .bool true]) := by
 have hlm : ((ls.map cA).length : Int) = ls.length := by rw [List.length_map]
 by_cases h1 : (1 : Int) ≤ ls.length
 rotate_left
 ·have d1 : decide (((ls.map cA).length : Nat) < (1 : Int)) = true := decide_eq_true (by omega)
  refine ⟨badS 2, goodV_bad 2, ?_⟩
  refine r_texts_Call rfl fun hw => ?_
  clear hw
  repeat' ((conv => whnf); (first | refine Bth.mk ?_ ?_ | refine csp_t (d1) ?_ | refine pickk0 ?_ | refine csp (fun h => ?_) (fun h => ?_) | refine cllo (fnd_PROPER) (fun _ => ?_) | refine cllo (value_Bad _) (fun _ => ?_) | (refine sda ?_ ?_; (focus (first | rfl | exact of_decide_eq_true rfl | (simp; done)))) | refine sda ?_ ?_ | refine conk rfl ?_ | refine ldk rfl ?_ | refine mapk (fun x hx => ?_) | exact ⟨rfl, rfl⟩ | refine nilk (fun h => absurd h (of_decide_eq_false rfl)) ?_ | refine nilk (fun h => absurd h (List.cons_ne_nil _ _)) ?_ | refine nilk (fun h => ?_) ?_ | exact rfl | exact True.intro | refine leftk1 rfl ?_ | refine bytk8 rfl ?_ | refine bytk rfl ?_ | exact leftk0 rfl | refine eqk rfl ?_ | refine fLm rfl ?_ | refine fLk (by assumption) ?_ | refine fVk ?_ | refine fLVk ?_ | refine fWk ?_ | intro hl))
  all_goals conv => whnf
 by_cases h2 : (ls.length : Int) ≤ 1
 rotate_left
 ·have d1 : decide (((ls.map cA).length : Nat) < (1 : Int)) = false := decide_eq_false (by omega)
  have d2 : decide (((ls.map cA).length : Nat) > (1 : Int)) = true := decide_eq_true (by omega)
  refine ⟨badS 2, goodV_bad 2, ?_⟩
  refine r_texts_Call rfl fun hw => ?_
  clear hw
  repeat' ((conv => whnf); (first | refine Bth.mk ?_ ?_ | refine csp_t (d2) ?_ | refine csp_f (d1) ?_ | refine pickk0 ?_ | refine csp (fun h => ?_) (fun h => ?_) | refine cllo (fnd_PROPER) (fun _ => ?_) | refine cllo (value_Bad _) (fun _ => ?_) | (refine sda ?_ ?_; (focus (first | rfl | exact of_decide_eq_true rfl | (simp; done)))) | refine sda ?_ ?_ | refine conk rfl ?_ | refine ldk rfl ?_ | refine mapk (fun x hx => ?_) | exact ⟨rfl, rfl⟩ | refine nilk (fun h => absurd h (of_decide_eq_false rfl)) ?_ | refine nilk (fun h => absurd h (List.cons_ne_nil _ _)) ?_ | refine nilk (fun h => ?_) ?_ | exact rfl | exact True.intro | refine leftk1 rfl ?_ | refine bytk8 rfl ?_ | refine bytk rfl ?_ | exact leftk0 rfl | refine eqk rfl ?_ | refine fLm rfl ?_ | refine fLk (by assumption) ?_ | refine fVk ?_ | refine fLVk ?_ | refine fWk ?_ | intro hl))
  all_goals conv => whnf
 have d1 : decide (((ls.map cA).length : Nat) < (1 : Int)) = false := decide_eq_false (by omega)
 have d2 : decide (((ls.map cA).length : Nat) > (1 : Int)) = false := decide_eq_false (by omega)
 obtain ⟨v, x, q', hv, hr⟩ := (g_made _ fun s h => ⟨_, proper_c s (by omega)⟩) ⟨ls, 0⟩ hq
 refine ⟨v, hv, ?_⟩
 refine r_texts_Call rfl fun hw => ?_
 clear hw
 repeat' ((conv => whnf); (first | refine Bth.mk ?_ ?_ | refine csp_f (d1) ?_ | refine csp_f (d2) ?_ | refine pickk0 ?_ | refine csp (fun h => ?_) (fun h => ?_) | refine cllo (fnd_PROPER) (fun _ => ?_) | refine clll (RetL.frame hr _ [1] rfl (by simp) rfl rfl) (fun _ _ => ?_) | (refine sda ?_ ?_; (focus (first | rfl | exact of_decide_eq_true rfl | (simp; done)))) | refine sda ?_ ?_ | refine conk rfl ?_ | refine ldk rfl ?_ | refine mapk (fun x hx => ?_) | exact ⟨rfl, rfl⟩ | refine nilk (fun h => absurd h (of_decide_eq_false rfl)) ?_ | refine nilk (fun h => absurd h (List.cons_ne_nil _ _)) ?_ | refine nilk (fun h => ?_) ?_ | exact rfl | exact True.intro | refine leftk1 rfl ?_ | refine bytk8 rfl ?_ | refine bytk rfl ?_ | exact leftk0 rfl | refine eqk rfl ?_ | refine fLm rfl ?_ | refine fLk (by assumption) ?_ | refine fVk ?_ | refine fLVk ?_ | refine fWk ?_ | intro hl))
 all_goals conv => whnf
theorem cl_TRIM (ls : List Ar) (hq : OkQ ⟨ls, 0⟩) : ∃ v : GV, goodV v = true ∧ Ret Tryz.prog F_texts_Call [.str ⟨#[84, 82, 73, 77]⟩, .row false (ls.map cA)] (.tup [eV v, .bool true]) := by
 have hlm : ((ls.map cA).length : Int) = ls.length := by rw [List.length_map]
 by_cases h1 : (1 : Int) ≤ ls.length
 rotate_left
 ·have d1 : decide (((ls.map cA).length : Nat) < (1 : Int)) = true := decide_eq_true (by omega)
  refine ⟨badS 2, goodV_bad 2, ?_⟩
  refine r_texts_Call rfl fun hw => ?_
  clear hw
  repeat' ((conv => whnf); (first | refine Bth.mk ?_ ?_ | refine csp_t (d1) ?_ | refine pickk0 ?_ | refine csp (fun h => ?_) (fun h => ?_) | refine cllo (fnd_TRIM) (fun _ => ?_) | refine cllo (value_Bad _) (fun _ => ?_) | (refine sda ?_ ?_; (focus (first | rfl | exact of_decide_eq_true rfl | (simp; done)))) | refine sda ?_ ?_ | refine conk rfl ?_ | refine ldk rfl ?_ | refine mapk (fun x hx => ?_) | exact ⟨rfl, rfl⟩ | refine nilk (fun h => absurd h (of_decide_eq_false rfl)) ?_ | refine nilk (fun h => absurd h (List.cons_ne_nil _ _)) ?_ | refine nilk (fun h => ?_) ?_ | exact rfl | exact True.intro | refine leftk1 rfl ?_ | refine bytk8 rfl ?_ | refine bytk rfl ?_ | exact leftk0 rfl | refine eqk rfl ?_ | refine fLm rfl ?_ | refine fLk (by assumption) ?_ | refine fVk ?_ | refine fLVk ?_ | refine fWk ?_ | intro hl))
  all_goals conv => whnf
 by_cases h2 : (ls.length : Int) ≤ 1
 rotate_left
 ·have d1 : decide (((ls.map cA).length : Nat) < (1 : Int)) = false := decide_eq_false (by omega)
  have d2 : decide (((ls.map cA).length : Nat) > (1 : Int)) = true := decide_eq_true (by omega)
  refine ⟨badS 2, goodV_bad 2, ?_⟩
  refine r_texts_Call rfl fun hw => ?_
  clear hw
  repeat' ((conv => whnf); (first | refine Bth.mk ?_ ?_ | refine csp_t (d2) ?_ | refine csp_f (d1) ?_ | refine pickk0 ?_ | refine csp (fun h => ?_) (fun h => ?_) | refine cllo (fnd_TRIM) (fun _ => ?_) | refine cllo (value_Bad _) (fun _ => ?_) | (refine sda ?_ ?_; (focus (first | rfl | exact of_decide_eq_true rfl | (simp; done)))) | refine sda ?_ ?_ | refine conk rfl ?_ | refine ldk rfl ?_ | refine mapk (fun x hx => ?_) | exact ⟨rfl, rfl⟩ | refine nilk (fun h => absurd h (of_decide_eq_false rfl)) ?_ | refine nilk (fun h => absurd h (List.cons_ne_nil _ _)) ?_ | refine nilk (fun h => ?_) ?_ | exact rfl | exact True.intro | refine leftk1 rfl ?_ | refine bytk8 rfl ?_ | refine bytk rfl ?_ | exact leftk0 rfl | refine eqk rfl ?_ | refine fLm rfl ?_ | refine fLk (by assumption) ?_ | refine fVk ?_ | refine fLVk ?_ | refine fWk ?_ | intro hl))
  all_goals conv => whnf
 have d1 : decide (((ls.map cA).length : Nat) < (1 : Int)) = false := decide_eq_false (by omega)
 have d2 : decide (((ls.map cA).length : Nat) > (1 : Int)) = false := decide_eq_false (by omega)
 obtain ⟨v, x, q', hv, hr⟩ := (g_made _ fun s h => ⟨_, trim_g s h⟩) ⟨ls, 0⟩ hq
 refine ⟨v, hv, ?_⟩
 refine r_texts_Call rfl fun hw => ?_
 clear hw
 repeat' ((conv => whnf); (first | refine Bth.mk ?_ ?_ | refine csp_f (d1) ?_ | refine csp_f (d2) ?_ | refine pickk0 ?_ | refine csp (fun h => ?_) (fun h => ?_) | refine cllo (fnd_TRIM) (fun _ => ?_) | refine clll (RetL.frame hr _ [1] rfl (by simp) rfl rfl) (fun _ _ => ?_) | (refine sda ?_ ?_; (focus (first | rfl | exact of_decide_eq_true rfl | (simp; done)))) | refine sda ?_ ?_ | refine conk rfl ?_ | refine ldk rfl ?_ | refine mapk (fun x hx => ?_) | exact ⟨rfl, rfl⟩ | refine nilk (fun h => absurd h (of_decide_eq_false rfl)) ?_ | refine nilk (fun h => absurd h (List.cons_ne_nil _ _)) ?_ | refine nilk (fun h => ?_) ?_ | exact rfl | exact True.intro | refine leftk1 rfl ?_ | refine bytk8 rfl ?_ | refine bytk rfl ?_ | exact leftk0 rfl | refine eqk rfl ?_ | refine fLm rfl ?_ | refine fLk (by assumption) ?_ | refine fVk ?_ | refine fLVk ?_ | refine fWk ?_ | intro hl))
 all_goals conv => whnf
theorem cl_REVERSE (ls : List Ar) (hq : OkQ ⟨ls, 0⟩) : ∃ v : GV, goodV v = true ∧ Ret Tryz.prog F_texts_Call [.str ⟨#[82, 69, 86, 69, 82, 83, 69]⟩, .row false (ls.map cA)] (.tup [eV v, .bool true]) := by
 have hlm : ((ls.map cA).length : Int) = ls.length := by rw [List.length_map]
 by_cases h1 : (1 : Int) ≤ ls.length
 rotate_left
 ·have d1 : decide (((ls.map cA).length : Nat) < (1 : Int)) = true := decide_eq_true (by omega)
  refine ⟨badS 2, goodV_bad 2, ?_⟩
  refine r_texts_Call rfl fun hw => ?_
  clear hw
  repeat' ((conv => whnf); (first | refine Bth.mk ?_ ?_ | refine csp_t (d1) ?_ | refine pickk0 ?_ | refine csp (fun h => ?_) (fun h => ?_) | refine cllo (fnd_REVERSE) (fun _ => ?_) | refine cllo (value_Bad _) (fun _ => ?_) | (refine sda ?_ ?_; (focus (first | rfl | exact of_decide_eq_true rfl | (simp; done)))) | refine sda ?_ ?_ | refine conk rfl ?_ | refine ldk rfl ?_ | refine mapk (fun x hx => ?_) | exact ⟨rfl, rfl⟩ | refine nilk (fun h => absurd h (of_decide_eq_false rfl)) ?_ | refine nilk (fun h => absurd h (List.cons_ne_nil _ _)) ?_ | refine nilk (fun h => ?_) ?_ | exact rfl | exact True.intro | refine leftk1 rfl ?_ | refine bytk8 rfl ?_ | refine bytk rfl ?_ | exact leftk0 rfl | refine eqk rfl ?_ | refine fLm rfl ?_ | refine fLk (by assumption) ?_ | refine fVk ?_ | refine fLVk ?_ | refine fWk ?_ | intro hl))
  all_goals conv => whnf
 by_cases h2 : (ls.length : Int) ≤ 1
 rotate_left
 ·have d1 : decide (((ls.map cA).length : Nat) < (1 : Int)) = false := decide_eq_false (by omega)
  have d2 : decide (((ls.map cA).length : Nat) > (1 : Int)) = true := decide_eq_true (by omega)
  refine ⟨badS 2, goodV_bad 2, ?_⟩
  refine r_texts_Call rfl fun hw => ?_
  clear hw
  repeat' ((conv => whnf); (first | refine Bth.mk ?_ ?_ | refine csp_t (d2) ?_ | refine csp_f (d1) ?_ | refine pickk0 ?_ | refine csp (fun h => ?_) (fun h => ?_) | refine cllo (fnd_REVERSE) (fun _ => ?_) | refine cllo (value_Bad _) (fun _ => ?_) | (refine sda ?_ ?_; (focus (first | rfl | exact of_decide_eq_true rfl | (simp; done)))) | refine sda ?_ ?_ | refine conk rfl ?_ | refine ldk rfl ?_ | refine mapk (fun x hx => ?_) | exact ⟨rfl, rfl⟩ | refine nilk (fun h => absurd h (of_decide_eq_false rfl)) ?_ | refine nilk (fun h => absurd h (List.cons_ne_nil _ _)) ?_ | refine nilk (fun h => ?_) ?_ | exact rfl | exact True.intro | refine leftk1 rfl ?_ | refine bytk8 rfl ?_ | refine bytk rfl ?_ | exact leftk0 rfl | refine eqk rfl ?_ | refine fLm rfl ?_ | refine fLk (by assumption) ?_ | refine fVk ?_ | refine fLVk ?_ | refine fWk ?_ | intro hl))
  all_goals conv => whnf
 have d1 : decide (((ls.map cA).length : Nat) < (1 : Int)) = false := decide_eq_false (by omega)
 have d2 : decide (((ls.map cA).length : Nat) > (1 : Int)) = false := decide_eq_false (by omega)
 obtain ⟨v, x, q', hv, hr⟩ := (g_made _ fun s h => ⟨_, reverse_c s h⟩) ⟨ls, 0⟩ hq
 refine ⟨v, hv, ?_⟩
 refine r_texts_Call rfl fun hw => ?_
 clear hw
 repeat' ((conv => whnf); (first | refine Bth.mk ?_ ?_ | refine csp_f (d1) ?_ | refine csp_f (d2) ?_ | refine pickk0 ?_ | refine csp (fun h => ?_) (fun h => ?_) | refine cllo (fnd_REVERSE) (fun _ => ?_) | refine clll (RetL.frame hr _ [1] rfl (by simp) rfl rfl) (fun _ _ => ?_) | (refine sda ?_ ?_; (focus (first | rfl | exact of_decide_eq_true rfl | (simp; done)))) | refine sda ?_ ?_ | refine conk rfl ?_ | refine ldk rfl ?_ | refine mapk (fun x hx => ?_) | exact ⟨rfl, rfl⟩ | refine nilk (fun h => absurd h (of_decide_eq_false rfl)) ?_ | refine nilk (fun h => absurd h (List.cons_ne_nil _ _)) ?_ | refine nilk (fun h => ?_) ?_ | exact rfl | exact True.intro | refine leftk1 rfl ?_ | refine bytk8 rfl ?_ | refine bytk rfl ?_ | exact leftk0 rfl | refine eqk rfl ?_ | refine fLm rfl ?_ | refine fLk (by assumption) ?_ | refine fVk ?_ | refine fLVk ?_ | refine fWk ?_ | intro hl))
 all_goals conv => whnf
theorem cl_CODE (ls : List Ar) (hq : OkQ ⟨ls, 0⟩) : ∃ v : GV, goodV v = true ∧ Ret Tryz.prog F_texts_Call [.str ⟨#[67, 79, 68, 69]⟩, .row false (ls.map cA)] (.tup [eV v, .bool true]) := by
 have hlm : ((ls.map cA).length : Int) = ls.length := by rw [List.length_map]
 by_cases h1 : (1 : Int) ≤ ls.length
 rotate_left
 ·have d1 : decide (((ls.map cA).length : Nat) < (1 : Int)) = true := decide_eq_true (by omega)
  refine ⟨badS 2, goodV_bad 2, ?_⟩
  refine r_texts_Call rfl fun hw => ?_
  clear hw
  repeat' ((conv => whnf); (first | refine Bth.mk ?_ ?_ | refine csp_t (d1) ?_ | refine pickk0 ?_ | refine csp (fun h => ?_) (fun h => ?_) | refine cllo (fnd_CODE) (fun _ => ?_) | refine cllo (value_Bad _) (fun _ => ?_) | (refine sda ?_ ?_; (focus (first | rfl | exact of_decide_eq_true rfl | (simp; done)))) | refine sda ?_ ?_ | refine conk rfl ?_ | refine ldk rfl ?_ | refine mapk (fun x hx => ?_) | exact ⟨rfl, rfl⟩ | refine nilk (fun h => absurd h (of_decide_eq_false rfl)) ?_ | refine nilk (fun h => absurd h (List.cons_ne_nil _ _)) ?_ | refine nilk (fun h => ?_) ?_ | exact rfl | exact True.intro | refine leftk1 rfl ?_ | refine bytk8 rfl ?_ | refine bytk rfl ?_ | exact leftk0 rfl | refine eqk rfl ?_ | refine fLm rfl ?_ | refine fLk (by assumption) ?_ | refine fVk ?_ | refine fLVk ?_ | refine fWk ?_ | intro hl))
  all_goals conv => whnf
 by_cases h2 : (ls.length : Int) ≤ 1
 rotate_left
 ·have d1 : decide (((ls.map cA).length : Nat) < (1 : Int)) = false := decide_eq_false (by omega)
  have d2 : decide (((ls.map cA).length : Nat) > (1 : Int)) = true := decide_eq_true (by omega)
  refine ⟨badS 2, goodV_bad 2, ?_⟩
  refine r_texts_Call rfl fun hw => ?_
  clear hw
  repeat' ((conv => whnf); (first | refine Bth.mk ?_ ?_ | refine csp_t (d2) ?_ | refine csp_f (d1) ?_ | refine pickk0 ?_ | refine csp (fun h => ?_) (fun h => ?_) | refine cllo (fnd_CODE) (fun _ => ?_) | refine cllo (value_Bad _) (fun _ => ?_) | (refine sda ?_ ?_; (focus (first | rfl | exact of_decide_eq_true rfl | (simp; done)))) | refine sda ?_ ?_ | refine conk rfl ?_ | refine ldk rfl ?_ | refine mapk (fun x hx => ?_) | exact ⟨rfl, rfl⟩ | refine nilk (fun h => absurd h (of_decide_eq_false rfl)) ?_ | refine nilk (fun h => absurd h (List.cons_ne_nil _ _)) ?_ | refine nilk (fun h => ?_) ?_ | exact rfl | exact True.intro | refine leftk1 rfl ?_ | refine bytk8 rfl ?_ | refine bytk rfl ?_ | exact leftk0 rfl | refine eqk rfl ?_ | refine fLm rfl ?_ | refine fLk (by assumption) ?_ | refine fVk ?_ | refine fLVk ?_ | refine fWk ?_ | intro hl))
  all_goals conv => whnf
 have d1 : decide (((ls.map cA).length : Nat) < (1 : Int)) = false := decide_eq_false (by omega)
 have d2 : decide (((ls.map cA).length : Nat) > (1 : Int)) = false := decide_eq_false (by omega)
 obtain ⟨v, x, q', hv, hr⟩ := (g_texted _ code_g) ⟨ls, 0⟩ hq
 refine ⟨v, hv, ?_⟩
 refine r_texts_Call rfl fun hw => ?_
 clear hw
 repeat' ((conv => whnf); (first | refine Bth.mk ?_ ?_ | refine csp_f (d1) ?_ | refine csp_f (d2) ?_ | refine pickk0 ?_ | refine csp (fun h => ?_) (fun h => ?_) | refine cllo (fnd_CODE) (fun _ => ?_) | refine clll (RetL.frame hr _ [1] rfl (by simp) rfl rfl) (fun _ _ => ?_) | (refine sda ?_ ?_; (focus (first | rfl | exact of_decide_eq_true rfl | (simp; done)))) | refine sda ?_ ?_ | refine conk rfl ?_ | refine ldk rfl ?_ | refine mapk (fun x hx => ?_) | exact ⟨rfl, rfl⟩ | refine nilk (fun h => absurd h (of_decide_eq_false rfl)) ?_ | refine nilk (fun h => absurd h (List.cons_ne_nil _ _)) ?_ | refine nilk (fun h => ?_) ?_ | exact rfl | exact True.intro | refine leftk1 rfl ?_ | refine bytk8 rfl ?_ | refine bytk rfl ?_ | exact leftk0 rfl | refine eqk rfl ?_ | refine fLm rfl ?_ | refine fLk (by assumption) ?_ | refine fVk ?_ | refine fLVk ?_ | refine fWk ?_ | intro hl))
 all_goals conv => whnf
theorem cl_VALUE (ls : List Ar) (hq : OkQ ⟨ls, 0⟩) : ∃ v : GV, goodV v = true ∧ Ret Tryz.prog F_texts_Call [.str ⟨#[86, 65, 76, 85, 69]⟩, .row false (ls.map cA)] (.tup [eV v, .bool true]) := by
 have hlm : ((ls.map cA).length : Int) = ls.length := by rw [List.length_map]
 by_cases h1 : (1 : Int) ≤ ls.length
 rotate_left
 ·have d1 : decide (((ls.map cA).length : Nat) < (1 : Int)) = true := decide_eq_true (by omega)
  refine ⟨badS 2, goodV_bad 2, ?_⟩
  refine r_texts_Call rfl fun hw => ?_
  clear hw
  repeat' ((conv => whnf); (first | refine Bth.mk ?_ ?_ | refine csp_t (d1) ?_ | refine pickk0 ?_ | refine csp (fun h => ?_) (fun h => ?_) | refine cllo (fnd_VALUE) (fun _ => ?_) | refine cllo (value_Bad _) (fun _ => ?_) | (refine sda ?_ ?_; (focus (first | rfl | exact of_decide_eq_true rfl | (simp; done)))) | refine sda ?_ ?_ | refine conk rfl ?_ | refine ldk rfl ?_ | refine mapk (fun x hx => ?_) | exact ⟨rfl, rfl⟩ | refine nilk (fun h => absurd h (of_decide_eq_false rfl)) ?_ | refine nilk (fun h => absurd h (List.cons_ne_nil _ _)) ?_ | refine nilk (fun h => ?_) ?_ | exact rfl | exact True.intro | refine leftk1 rfl ?_ | refine bytk8 rfl ?_ | refine bytk rfl ?_ | exact leftk0 rfl | refine eqk rfl ?_ | refine fLm rfl ?_ | refine fLk (by assumption) ?_ | refine fVk ?_ | refine fLVk ?_ | refine fWk ?_ | intro hl))
  all_goals conv => whnf
 by_cases h2 : (ls.length : Int) ≤ 1
 rotate_left
 ·have d1 : decide (((ls.map cA).length : Nat) < (1 : Int)) = false := decide_eq_false (by omega)
  have d2 : decide (((ls.map cA).length : Nat) > (1 : Int)) = true := decide_eq_true (by omega)
  refine ⟨badS 2, goodV_bad 2, ?_⟩
  refine r_texts_Call rfl fun hw => ?_
  clear hw
  repeat' ((conv => whnf); (first | refine Bth.mk ?_ ?_ | refine csp_t (d2) ?_ | refine csp_f (d1) ?_ | refine pickk0 ?_ | refine csp (fun h => ?_) (fun h => ?_) | refine cllo (fnd_VALUE) (fun _ => ?_) | refine cllo (value_Bad _) (fun _ => ?_) | (refine sda ?_ ?_; (focus (first | rfl | exact of_decide_eq_true rfl | (simp; done)))) | refine sda ?_ ?_ | refine conk rfl ?_ | refine ldk rfl ?_ | refine mapk (fun x hx => ?_) | exact ⟨rfl, rfl⟩ | refine nilk (fun h => absurd h (of_decide_eq_false rfl)) ?_ | refine nilk (fun h => absurd h (List.cons_ne_nil _ _)) ?_ | refine nilk (fun h => ?_) ?_ | exact rfl | exact True.intro | refine leftk1 rfl ?_ | refine bytk8 rfl ?_ | refine bytk rfl ?_ | exact leftk0 rfl | refine eqk rfl ?_ | refine fLm rfl ?_ | refine fLk (by assumption) ?_ | refine fVk ?_ | refine fLVk ?_ | refine fWk ?_ | intro hl))
  all_goals conv => whnf
 have d1 : decide (((ls.map cA).length : Nat) < (1 : Int)) = false := decide_eq_false (by omega)
 have d2 : decide (((ls.map cA).length : Nat) > (1 : Int)) = false := decide_eq_false (by omega)
 obtain ⟨v, x, q', hv, hr⟩ := (g_texted _ value_g) ⟨ls, 0⟩ hq
 refine ⟨v, hv, ?_⟩
 refine r_texts_Call rfl fun hw => ?_
 clear hw
 repeat' ((conv => whnf); (first | refine Bth.mk ?_ ?_ | refine csp_f (d1) ?_ | refine csp_f (d2) ?_ | refine pickk0 ?_ | refine csp (fun h => ?_) (fun h => ?_) | refine cllo (fnd_VALUE) (fun _ => ?_) | refine clll (RetL.frame hr _ [1] rfl (by simp) rfl rfl) (fun _ _ => ?_) | (refine sda ?_ ?_; (focus (first | rfl | exact of_decide_eq_true rfl | (simp; done)))) | refine sda ?_ ?_ | refine conk rfl ?_ | refine ldk rfl ?_ | refine mapk (fun x hx => ?_) | exact ⟨rfl, rfl⟩ | refine nilk (fun h => absurd h (of_decide_eq_false rfl)) ?_ | refine nilk (fun h => absurd h (List.cons_ne_nil _ _)) ?_ | refine nilk (fun h => ?_) ?_ | exact rfl | exact True.intro | refine leftk1 rfl ?_ | refine bytk8 rfl ?_ | refine bytk rfl ?_ | exact leftk0 rfl | refine eqk rfl ?_ | refine fLm rfl ?_ | refine fLk (by assumption) ?_ | refine fVk ?_ | refine fLVk ?_ | refine fWk ?_ | intro hl))
 all_goals conv => whnf
theorem cl_T (ls : List Ar) (hq : OkQ ⟨ls, 0⟩) : ∃ v : GV, goodV v = true ∧ Ret Tryz.prog F_texts_Call [.str ⟨#[84]⟩, .row false (ls.map cA)] (.tup [eV v, .bool true]) := by
 have hlm : ((ls.map cA).length : Int) = ls.length := by rw [List.length_map]
 by_cases h1 : (1 : Int) ≤ ls.length
 rotate_left
 ·have d1 : decide (((ls.map cA).length : Nat) < (1 : Int)) = true := decide_eq_true (by omega)
  refine ⟨badS 2, goodV_bad 2, ?_⟩
  refine r_texts_Call rfl fun hw => ?_
  clear hw
  repeat' ((conv => whnf); (first | refine Bth.mk ?_ ?_ | refine csp_t (d1) ?_ | refine pickk0 ?_ | refine csp (fun h => ?_) (fun h => ?_) | refine cllo (fnd_T) (fun _ => ?_) | refine cllo (value_Bad _) (fun _ => ?_) | (refine sda ?_ ?_; (focus (first | rfl | exact of_decide_eq_true rfl | (simp; done)))) | refine sda ?_ ?_ | refine conk rfl ?_ | refine ldk rfl ?_ | refine mapk (fun x hx => ?_) | exact ⟨rfl, rfl⟩ | refine nilk (fun h => absurd h (of_decide_eq_false rfl)) ?_ | refine nilk (fun h => absurd h (List.cons_ne_nil _ _)) ?_ | refine nilk (fun h => ?_) ?_ | exact rfl | exact True.intro | refine leftk1 rfl ?_ | refine bytk8 rfl ?_ | refine bytk rfl ?_ | exact leftk0 rfl | refine eqk rfl ?_ | refine fLm rfl ?_ | refine fLk (by assumption) ?_ | refine fVk ?_ | refine fLVk ?_ | refine fWk ?_ | intro hl))
  all_goals conv => whnf
 by_cases h2 : (ls.length : Int) ≤ 1
 rotate_left
 ·have d1 : decide (((ls.map cA).length : Nat) < (1 : Int)) = false := decide_eq_false (by omega)
  have d2 : decide (((ls.map cA).length : Nat) > (1 : Int)) = true := decide_eq_true (by omega)
  refine ⟨badS 2, goodV_bad 2, ?_⟩
  refine r_texts_Call rfl fun hw => ?_
  clear hw
  repeat' ((conv => whnf); (first | refine Bth.mk ?_ ?_ | refine csp_t (d2) ?_ | refine csp_f (d1) ?_ | refine pickk0 ?_ | refine csp (fun h => ?_) (fun h => ?_) | refine cllo (fnd_T) (fun _ => ?_) | refine cllo (value_Bad _) (fun _ => ?_) | (refine sda ?_ ?_; (focus (first | rfl | exact of_decide_eq_true rfl | (simp; done)))) | refine sda ?_ ?_ | refine conk rfl ?_ | refine ldk rfl ?_ | refine mapk (fun x hx => ?_) | exact ⟨rfl, rfl⟩ | refine nilk (fun h => absurd h (of_decide_eq_false rfl)) ?_ | refine nilk (fun h => absurd h (List.cons_ne_nil _ _)) ?_ | refine nilk (fun h => ?_) ?_ | exact rfl | exact True.intro | refine leftk1 rfl ?_ | refine bytk8 rfl ?_ | refine bytk rfl ?_ | exact leftk0 rfl | refine eqk rfl ?_ | refine fLm rfl ?_ | refine fLk (by assumption) ?_ | refine fVk ?_ | refine fLVk ?_ | refine fWk ?_ | intro hl))
  all_goals conv => whnf
 have d1 : decide (((ls.map cA).length : Nat) < (1 : Int)) = false := decide_eq_false (by omega)
 have d2 : decide (((ls.map cA).length : Nat) > (1 : Int)) = false := decide_eq_false (by omega)
 obtain ⟨v, x, q', hv, hr⟩ := (g_kept 2 _ f_T) ⟨ls, 0⟩ hq
 refine ⟨v, hv, ?_⟩
 refine r_texts_Call rfl fun hw => ?_
 clear hw
 repeat' ((conv => whnf); (first | refine Bth.mk ?_ ?_ | refine csp_f (d1) ?_ | refine csp_f (d2) ?_ | refine pickk0 ?_ | refine csp (fun h => ?_) (fun h => ?_) | refine cllo (fnd_T) (fun _ => ?_) | refine clll (RetL.frame hr _ [1] rfl (by simp) rfl rfl) (fun _ _ => ?_) | (refine sda ?_ ?_; (focus (first | rfl | exact of_decide_eq_true rfl | (simp; done)))) | refine sda ?_ ?_ | refine conk rfl ?_ | refine ldk rfl ?_ | refine mapk (fun x hx => ?_) | exact ⟨rfl, rfl⟩ | refine nilk (fun h => absurd h (of_decide_eq_false rfl)) ?_ | refine nilk (fun h => absurd h (List.cons_ne_nil _ _)) ?_ | refine nilk (fun h => ?_) ?_ | exact rfl | exact True.intro | refine leftk1 rfl ?_ | refine bytk8 rfl ?_ | refine bytk rfl ?_ | exact leftk0 rfl | refine eqk rfl ?_ | refine fLm rfl ?_ | refine fLk (by assumption) ?_ | refine fVk ?_ | refine fLVk ?_ | refine fWk ?_ | intro hl))
 all_goals conv => whnf
theorem cl_N (ls : List Ar) (hq : OkQ ⟨ls, 0⟩) : ∃ v : GV, goodV v = true ∧ Ret Tryz.prog F_texts_Call [.str ⟨#[78]⟩, .row false (ls.map cA)] (.tup [eV v, .bool true]) := by
 have hlm : ((ls.map cA).length : Int) = ls.length := by rw [List.length_map]
 by_cases h1 : (1 : Int) ≤ ls.length
 rotate_left
 ·have d1 : decide (((ls.map cA).length : Nat) < (1 : Int)) = true := decide_eq_true (by omega)
  refine ⟨badS 2, goodV_bad 2, ?_⟩
  refine r_texts_Call rfl fun hw => ?_
  clear hw
  repeat' ((conv => whnf); (first | refine Bth.mk ?_ ?_ | refine csp_t (d1) ?_ | refine pickk0 ?_ | refine csp (fun h => ?_) (fun h => ?_) | refine cllo (fnd_N) (fun _ => ?_) | refine cllo (value_Bad _) (fun _ => ?_) | (refine sda ?_ ?_; (focus (first | rfl | exact of_decide_eq_true rfl | (simp; done)))) | refine sda ?_ ?_ | refine conk rfl ?_ | refine ldk rfl ?_ | refine mapk (fun x hx => ?_) | exact ⟨rfl, rfl⟩ | refine nilk (fun h => absurd h (of_decide_eq_false rfl)) ?_ | refine nilk (fun h => absurd h (List.cons_ne_nil _ _)) ?_ | refine nilk (fun h => ?_) ?_ | exact rfl | exact True.intro | refine leftk1 rfl ?_ | refine bytk8 rfl ?_ | refine bytk rfl ?_ | exact leftk0 rfl | refine eqk rfl ?_ | refine fLm rfl ?_ | refine fLk (by assumption) ?_ | refine fVk ?_ | refine fLVk ?_ | refine fWk ?_ | intro hl))
  all_goals conv => whnf
 by_cases h2 : (ls.length : Int) ≤ 1
 rotate_left
 ·have d1 : decide (((ls.map cA).length : Nat) < (1 : Int)) = false := decide_eq_false (by omega)
  have d2 : decide (((ls.map cA).length : Nat) > (1 : Int)) = true := decide_eq_true (by omega)
  refine ⟨badS 2, goodV_bad 2, ?_⟩
  refine r_texts_Call rfl fun hw => ?_
  clear hw
  repeat' ((conv => whnf); (first | refine Bth.mk ?_ ?_ | refine csp_t (d2) ?_ | refine csp_f (d1) ?_ | refine pickk0 ?_ | refine csp (fun h => ?_) (fun h => ?_) | refine cllo (fnd_N) (fun _ => ?_) | refine cllo (value_Bad _) (fun _ => ?_) | (refine sda ?_ ?_; (focus (first | rfl | exact of_decide_eq_true rfl | (simp; done)))) | refine sda ?_ ?_ | refine conk rfl ?_ | refine ldk rfl ?_ | refine mapk (fun x hx => ?_) | exact ⟨rfl, rfl⟩ | refine nilk (fun h => absurd h (of_decide_eq_false rfl)) ?_ | refine nilk (fun h => absurd h (List.cons_ne_nil _ _)) ?_ | refine nilk (fun h => ?_) ?_ | exact rfl | exact True.intro | refine leftk1 rfl ?_ | refine bytk8 rfl ?_ | refine bytk rfl ?_ | exact leftk0 rfl | refine eqk rfl ?_ | refine fLm rfl ?_ | refine fLk (by assumption) ?_ | refine fVk ?_ | refine fLVk ?_ | refine fWk ?_ | intro hl))
  all_goals conv => whnf
 have d1 : decide (((ls.map cA).length : Nat) < (1 : Int)) = false := decide_eq_false (by omega)
 have d2 : decide (((ls.map cA).length : Nat) > (1 : Int)) = false := decide_eq_false (by omega)
 obtain ⟨v, x, q', hv, hr⟩ := (g_kept 1 _ f_N) ⟨ls, 0⟩ hq
 refine ⟨v, hv, ?_⟩
 refine r_texts_Call rfl fun hw => ?_
 clear hw
 repeat' ((conv => whnf); (first | refine Bth.mk ?_ ?_ | refine csp_f (d1) ?_ | refine csp_f (d2) ?_ | refine pickk0 ?_ | refine csp (fun h => ?_) (fun h => ?_) | refine cllo (fnd_N) (fun _ => ?_) | refine clll (RetL.frame hr _ [1] rfl (by simp) rfl rfl) (fun _ _ => ?_) | (refine sda ?_ ?_; (focus (first | rfl | exact of_decide_eq_true rfl | (simp; done)))) | refine sda ?_ ?_ | refine conk rfl ?_ | refine ldk rfl ?_ | refine mapk (fun x hx => ?_) | exact ⟨rfl, rfl⟩ | refine nilk (fun h => absurd h (of_decide_eq_false rfl)) ?_ | refine nilk (fun h => absurd h (List.cons_ne_nil _ _)) ?_ | refine nilk (fun h => ?_) ?_ | exact rfl | exact True.intro | refine leftk1 rfl ?_ | refine bytk8 rfl ?_ | refine bytk rfl ?_ | exact leftk0 rfl | refine eqk rfl ?_ | refine fLm rfl ?_ | refine fLk (by assumption) ?_ | refine fVk ?_ | refine fLVk ?_ | refine fWk ?_ | intro hl))
 all_goals conv => whnf
theorem cl_CHAR (ls : List Ar) (hq : OkQ ⟨ls, 0⟩) : ∃ v : GV, goodV v = true ∧ Ret Tryz.prog F_texts_Call [.str ⟨#[67, 72, 65, 82]⟩, .row false (ls.map cA)] (.tup [eV v, .bool true]) := by
 have hlm : ((ls.map cA).length : Int) = ls.length := by rw [List.length_map]
 by_cases h1 : (1 : Int) ≤ ls.length
 rotate_left
 ·have d1 : decide (((ls.map cA).length : Nat) < (1 : Int)) = true := decide_eq_true (by omega)
  refine ⟨badS 2, goodV_bad 2, ?_⟩
  refine r_texts_Call rfl fun hw => ?_
  clear hw
  repeat' ((conv => whnf); (first | refine Bth.mk ?_ ?_ | refine csp_t (d1) ?_ | refine pickk0 ?_ | refine csp (fun h => ?_) (fun h => ?_) | refine cllo (fnd_CHAR) (fun _ => ?_) | refine cllo (value_Bad _) (fun _ => ?_) | (refine sda ?_ ?_; (focus (first | rfl | exact of_decide_eq_true rfl | (simp; done)))) | refine sda ?_ ?_ | refine conk rfl ?_ | refine ldk rfl ?_ | refine mapk (fun x hx => ?_) | exact ⟨rfl, rfl⟩ | refine nilk (fun h => absurd h (of_decide_eq_false rfl)) ?_ | refine nilk (fun h => absurd h (List.cons_ne_nil _ _)) ?_ | refine nilk (fun h => ?_) ?_ | exact rfl | exact True.intro | refine leftk1 rfl ?_ | refine bytk8 rfl ?_ | refine bytk rfl ?_ | exact leftk0 rfl | refine eqk rfl ?_ | refine fLm rfl ?_ | refine fLk (by assumption) ?_ | refine fVk ?_ | refine fLVk ?_ | refine fWk ?_ | intro hl))
  all_goals conv => whnf
 by_cases h2 : (ls.length : Int) ≤ 1
 rotate_left
 ·have d1 : decide (((ls.map cA).length : Nat) < (1 : Int)) = false := decide_eq_false (by omega)
  have d2 : decide (((ls.map cA).length : Nat) > (1 : Int)) = true := decide_eq_true (by omega)
  refine ⟨badS 2, goodV_bad 2, ?_⟩
  refine r_texts_Call rfl fun hw => ?_
  clear hw
  repeat' ((conv => whnf); (first | refine Bth.mk ?_ ?_ | refine csp_t (d2) ?_ | refine csp_f (d1) ?_ | refine pickk0 ?_ | refine csp (fun h => ?_) (fun h => ?_) | refine cllo (fnd_CHAR) (fun _ => ?_) | refine cllo (value_Bad _) (fun _ => ?_) | (refine sda ?_ ?_; (focus (first | rfl | exact of_decide_eq_true rfl | (simp; done)))) | refine sda ?_ ?_ | refine conk rfl ?_ | refine ldk rfl ?_ | refine mapk (fun x hx => ?_) | exact ⟨rfl, rfl⟩ | refine nilk (fun h => absurd h (of_decide_eq_false rfl)) ?_ | refine nilk (fun h => absurd h (List.cons_ne_nil _ _)) ?_ | refine nilk (fun h => ?_) ?_ | exact rfl | exact True.intro | refine leftk1 rfl ?_ | refine bytk8 rfl ?_ | refine bytk rfl ?_ | exact leftk0 rfl | refine eqk rfl ?_ | refine fLm rfl ?_ | refine fLk (by assumption) ?_ | refine fVk ?_ | refine fLVk ?_ | refine fWk ?_ | intro hl))
  all_goals conv => whnf
 have d1 : decide (((ls.map cA).length : Nat) < (1 : Int)) = false := decide_eq_false (by omega)
 have d2 : decide (((ls.map cA).length : Nat) > (1 : Int)) = false := decide_eq_false (by omega)
 obtain ⟨v, x, q', hv, hr⟩ := g_char ⟨ls, 0⟩ hq
 refine ⟨v, hv, ?_⟩
 refine r_texts_Call rfl fun hw => ?_
 clear hw
 repeat' ((conv => whnf); (first | refine Bth.mk ?_ ?_ | refine csp_f (d1) ?_ | refine csp_f (d2) ?_ | refine pickk0 ?_ | refine csp (fun h => ?_) (fun h => ?_) | refine cllo (fnd_CHAR) (fun _ => ?_) | refine clll (RetL.frame hr _ [1] rfl (by simp) rfl rfl) (fun _ _ => ?_) | (refine sda ?_ ?_; (focus (first | rfl | exact of_decide_eq_true rfl | (simp; done)))) | refine sda ?_ ?_ | refine conk rfl ?_ | refine ldk rfl ?_ | refine mapk (fun x hx => ?_) | exact ⟨rfl, rfl⟩ | refine nilk (fun h => absurd h (of_decide_eq_false rfl)) ?_ | refine nilk (fun h => absurd h (List.cons_ne_nil _ _)) ?_ | refine nilk (fun h => ?_) ?_ | exact rfl | exact True.intro | refine leftk1 rfl ?_ | refine bytk8 rfl ?_ | refine bytk rfl ?_ | exact leftk0 rfl | refine eqk rfl ?_ | refine fLm rfl ?_ | refine fLk (by assumption) ?_ | refine fVk ?_ | refine fLVk ?_ | refine fWk ?_ | intro hl))
 all_goals conv => whnf
theorem cl_LEFT (ls : List Ar) (hq : OkQ ⟨ls, 0⟩) : ∃ v : GV, goodV v = true ∧ Ret Tryz.prog F_texts_Call [.str ⟨#[76, 69, 70, 84]⟩, .row false (ls.map cA)] (.tup [eV v, .bool true]) := by
 have hlm : ((ls.map cA).length : Int) = ls.length := by rw [List.length_map]
 by_cases h1 : (1 : Int) ≤ ls.length
 rotate_left
 ·have d1 : decide (((ls.map cA).length : Nat) < (1 : Int)) = true := decide_eq_true (by omega)
  refine ⟨badS 2, goodV_bad 2, ?_⟩
  refine r_texts_Call rfl fun hw => ?_
  clear hw
  repeat' ((conv => whnf); (first | refine Bth.mk ?_ ?_ | refine csp_t (d1) ?_ | refine pickk0 ?_ | refine csp (fun h => ?_) (fun h => ?_) | refine cllo (fnd_LEFT) (fun _ => ?_) | refine cllo (value_Bad _) (fun _ => ?_) | (refine sda ?_ ?_; (focus (first | rfl | exact of_decide_eq_true rfl | (simp; done)))) | refine sda ?_ ?_ | refine conk rfl ?_ | refine ldk rfl ?_ | refine mapk (fun x hx => ?_) | exact ⟨rfl, rfl⟩ | refine nilk (fun h => absurd h (of_decide_eq_false rfl)) ?_ | refine nilk (fun h => absurd h (List.cons_ne_nil _ _)) ?_ | refine nilk (fun h => ?_) ?_ | exact rfl | exact True.intro | refine leftk1 rfl ?_ | refine bytk8 rfl ?_ | refine bytk rfl ?_ | exact leftk0 rfl | refine eqk rfl ?_ | refine fLm rfl ?_ | refine fLk (by assumption) ?_ | refine fVk ?_ | refine fLVk ?_ | refine fWk ?_ | intro hl))
  all_goals conv => whnf
 by_cases h2 : (ls.length : Int) ≤ 2
 rotate_left
 ·have d1 : decide (((ls.map cA).length : Nat) < (1 : Int)) = false := decide_eq_false (by omega)
  have d2 : decide (((ls.map cA).length : Nat) > (2 : Int)) = true := decide_eq_true (by omega)
  refine ⟨badS 2, goodV_bad 2, ?_⟩
  refine r_texts_Call rfl fun hw => ?_
  clear hw
  repeat' ((conv => whnf); (first | refine Bth.mk ?_ ?_ | refine csp_t (d2) ?_ | refine csp_f (d1) ?_ | refine pickk0 ?_ | refine csp (fun h => ?_) (fun h => ?_) | refine cllo (fnd_LEFT) (fun _ => ?_) | refine cllo (value_Bad _) (fun _ => ?_) | (refine sda ?_ ?_; (focus (first | rfl | exact of_decide_eq_true rfl | (simp; done)))) | refine sda ?_ ?_ | refine conk rfl ?_ | refine ldk rfl ?_ | refine mapk (fun x hx => ?_) | exact ⟨rfl, rfl⟩ | refine nilk (fun h => absurd h (of_decide_eq_false rfl)) ?_ | refine nilk (fun h => absurd h (List.cons_ne_nil _ _)) ?_ | refine nilk (fun h => ?_) ?_ | exact rfl | exact True.intro | refine leftk1 rfl ?_ | refine bytk8 rfl ?_ | refine bytk rfl ?_ | exact leftk0 rfl | refine eqk rfl ?_ | refine fLm rfl ?_ | refine fLk (by assumption) ?_ | refine fVk ?_ | refine fLVk ?_ | refine fWk ?_ | intro hl))
  all_goals conv => whnf
 have d1 : decide (((ls.map cA).length : Nat) < (1 : Int)) = false := decide_eq_false (by omega)
 have d2 : decide (((ls.map cA).length : Nat) > (2 : Int)) = false := decide_eq_false (by omega)
 obtain ⟨v, x, q', hv, hr⟩ := (g_ends true) ⟨ls, 0⟩ hq
 refine ⟨v, hv, ?_⟩
 refine r_texts_Call rfl fun hw => ?_
 clear hw
 repeat' ((conv => whnf); (first | refine Bth.mk ?_ ?_ | refine csp_f (d1) ?_ | refine csp_f (d2) ?_ | refine pickk0 ?_ | refine csp (fun h => ?_) (fun h => ?_) | refine cllo (fnd_LEFT) (fun _ => ?_) | refine clll (RetL.frame hr _ [1] rfl (by simp) rfl rfl) (fun _ _ => ?_) | (refine sda ?_ ?_; (focus (first | rfl | exact of_decide_eq_true rfl | (simp; done)))) | refine sda ?_ ?_ | refine conk rfl ?_ | refine ldk rfl ?_ | refine mapk (fun x hx => ?_) | exact ⟨rfl, rfl⟩ | refine nilk (fun h => absurd h (of_decide_eq_false rfl)) ?_ | refine nilk (fun h => absurd h (List.cons_ne_nil _ _)) ?_ | refine nilk (fun h => ?_) ?_ | exact rfl | exact True.intro | refine leftk1 rfl ?_ | refine bytk8 rfl ?_ | refine bytk rfl ?_ | exact leftk0 rfl | refine eqk rfl ?_ | refine fLm rfl ?_ | refine fLk (by assumption) ?_ | refine fVk ?_ | refine fLVk ?_ | refine fWk ?_ | intro hl))
 all_goals conv => whnf
theorem cl_RIGHT (ls : List Ar) (hq : OkQ ⟨ls, 0⟩) : ∃ v : GV, goodV v = true ∧ Ret Tryz.prog F_texts_Call [.str ⟨#[82, 73, 71, 72, 84]⟩, .row false (ls.map cA)] (.tup [eV v, .bool true]) := by
 have hlm : ((ls.map cA).length : Int) = ls.length := by rw [List.length_map]
 by_cases h1 : (1 : Int) ≤ ls.length
 rotate_left
 ·have d1 : decide (((ls.map cA).length : Nat) < (1 : Int)) = true := decide_eq_true (by omega)
  refine ⟨badS 2, goodV_bad 2, ?_⟩
  refine r_texts_Call rfl fun hw => ?_
  clear hw
  repeat' ((conv => whnf); (first | refine Bth.mk ?_ ?_ | refine csp_t (d1) ?_ | refine pickk0 ?_ | refine csp (fun h => ?_) (fun h => ?_) | refine cllo (fnd_RIGHT) (fun _ => ?_) | refine cllo (value_Bad _) (fun _ => ?_) | (refine sda ?_ ?_; (focus (first | rfl | exact of_decide_eq_true rfl | (simp; done)))) | refine sda ?_ ?_ | refine conk rfl ?_ | refine ldk rfl ?_ | refine mapk (fun x hx => ?_) | exact ⟨rfl, rfl⟩ | refine nilk (fun h => absurd h (of_decide_eq_false rfl)) ?_ | refine nilk (fun h => absurd h (List.cons_ne_nil _ _)) ?_ | refine nilk (fun h => ?_) ?_ | exact rfl | exact True.intro | refine leftk1 rfl ?_ | refine bytk8 rfl ?_ | refine bytk rfl ?_ | exact leftk0 rfl | refine eqk rfl ?_ | refine fLm rfl ?_ | refine fLk (by assumption) ?_ | refine fVk ?_ | refine fLVk ?_ | refine fWk ?_ | intro hl))
  all_goals conv => whnf
 by_cases h2 : (ls.length : Int) ≤ 2
 rotate_left
 ·have d1 : decide (((ls.map cA).length : Nat) < (1 : Int)) = false := decide_eq_false (by omega)
  have d2 : decide (((ls.map cA).length : Nat) > (2 : Int)) = true := decide_eq_true (by omega)
  refine ⟨badS 2, goodV_bad 2, ?_⟩
  refine r_texts_Call rfl fun hw => ?_
  clear hw
  repeat' ((conv => whnf); (first | refine Bth.mk ?_ ?_ | refine csp_t (d2) ?_ | refine csp_f (d1) ?_ | refine pickk0 ?_ | refine csp (fun h => ?_) (fun h => ?_) | refine cllo (fnd_RIGHT) (fun _ => ?_) | refine cllo (value_Bad _) (fun _ => ?_) | (refine sda ?_ ?_; (focus (first | rfl | exact of_decide_eq_true rfl | (simp; done)))) | refine sda ?_ ?_ | refine conk rfl ?_ | refine ldk rfl ?_ | refine mapk (fun x hx => ?_) | exact ⟨rfl, rfl⟩ | refine nilk (fun h => absurd h (of_decide_eq_false rfl)) ?_ | refine nilk (fun h => absurd h (List.cons_ne_nil _ _)) ?_ | refine nilk (fun h => ?_) ?_ | exact rfl | exact True.intro | refine leftk1 rfl ?_ | refine bytk8 rfl ?_ | refine bytk rfl ?_ | exact leftk0 rfl | refine eqk rfl ?_ | refine fLm rfl ?_ | refine fLk (by assumption) ?_ | refine fVk ?_ | refine fLVk ?_ | refine fWk ?_ | intro hl))
  all_goals conv => whnf
 have d1 : decide (((ls.map cA).length : Nat) < (1 : Int)) = false := decide_eq_false (by omega)
 have d2 : decide (((ls.map cA).length : Nat) > (2 : Int)) = false := decide_eq_false (by omega)
 obtain ⟨v, x, q', hv, hr⟩ := (g_ends false) ⟨ls, 0⟩ hq
 refine ⟨v, hv, ?_⟩
 refine r_texts_Call rfl fun hw => ?_
 clear hw
 repeat' ((conv => whnf); (first | refine Bth.mk ?_ ?_ | refine csp_f (d1) ?_ | refine csp_f (d2) ?_ | refine pickk0 ?_ | refine csp (fun h => ?_) (fun h => ?_) | refine cllo (fnd_RIGHT) (fun _ => ?_) | refine clll (RetL.frame hr _ [1] rfl (by simp) rfl rfl) (fun _ _ => ?_) | (refine sda ?_ ?_; (focus (first | rfl | exact of_decide_eq_true rfl | (simp; done)))) | refine sda ?_ ?_ | refine conk rfl ?_ | refine ldk rfl ?_ | refine mapk (fun x hx => ?_) | exact ⟨rfl, rfl⟩ | refine nilk (fun h => absurd h (of_decide_eq_false rfl)) ?_ | refine nilk (fun h => absurd h (List.cons_ne_nil _ _)) ?_ | refine nilk (fun h => ?_) ?_ | exact rfl | exact True.intro | refine leftk1 rfl ?_ | refine bytk8 rfl ?_ | refine bytk rfl ?_ | exact leftk0 rfl | refine eqk rfl ?_ | refine fLm rfl ?_ | refine fLk (by assumption) ?_ | refine fVk ?_ | refine fLVk ?_ | refine fWk ?_ | intro hl))
 all_goals conv => whnf
theorem cl_MID (ls : List Ar) (hq : OkQ ⟨ls, 0⟩) : ∃ v : GV, goodV v = true ∧ Ret Tryz.prog F_texts_Call [.str ⟨#[77, 73, 68]⟩, .row false (ls.map cA)] (.tup [eV v, .bool true]) := by
 have hlm : ((ls.map cA).length : Int) = ls.length := by rw [List.length_map]
 by_cases h1 : (3 : Int) ≤ ls.length
 rotate_left
 ·have d1 : decide (((ls.map cA).length : Nat) < (3 : Int)) = true := decide_eq_true (by omega)
  refine ⟨badS 2, goodV_bad 2, ?_⟩
  refine r_texts_Call rfl fun hw => ?_
  clear hw
  repeat' ((conv => whnf); (first | refine Bth.mk ?_ ?_ | refine csp_t (d1) ?_ | refine pickk0 ?_ | refine csp (fun h => ?_) (fun h => ?_) | refine cllo (fnd_MID) (fun _ => ?_) | refine cllo (value_Bad _) (fun _ => ?_) | (refine sda ?_ ?_; (focus (first | rfl | exact of_decide_eq_true rfl | (simp; done)))) | refine sda ?_ ?_ | refine conk rfl ?_ | refine ldk rfl ?_ | refine mapk (fun x hx => ?_) | exact ⟨rfl, rfl⟩ | refine nilk (fun h => absurd h (of_decide_eq_false rfl)) ?_ | refine nilk (fun h => absurd h (List.cons_ne_nil _ _)) ?_ | refine nilk (fun h => ?_) ?_ | exact rfl | exact True.intro | refine leftk1 rfl ?_ | refine bytk8 rfl ?_ | refine bytk rfl ?_ | exact leftk0 rfl | refine eqk rfl ?_ | refine fLm rfl ?_ | refine fLk (by assumption) ?_ | refine fVk ?_ | refine fLVk ?_ | refine fWk ?_ | intro hl))
  all_goals conv => whnf
 by_cases h2 : (ls.length : Int) ≤ 3
 rotate_left
 ·have d1 : decide (((ls.map cA).length : Nat) < (3 : Int)) = false := decide_eq_false (by omega)
  have d2 : decide (((ls.map cA).length : Nat) > (3 : Int)) = true := decide_eq_true (by omega)
  refine ⟨badS 2, goodV_bad 2, ?_⟩
  refine r_texts_Call rfl fun hw => ?_
  clear hw
  repeat' ((conv => whnf); (first | refine Bth.mk ?_ ?_ | refine csp_t (d2) ?_ | refine csp_f (d1) ?_ | refine pickk0 ?_ | refine csp (fun h => ?_) (fun h => ?_) | refine cllo (fnd_MID) (fun _ => ?_) | refine cllo (value_Bad _) (fun _ => ?_) | (refine sda ?_ ?_; (focus (first | rfl | exact of_decide_eq_true rfl | (simp; done)))) | refine sda ?_ ?_ | refine conk rfl ?_ | refine ldk rfl ?_ | refine mapk (fun x hx => ?_) | exact ⟨rfl, rfl⟩ | refine nilk (fun h => absurd h (of_decide_eq_false rfl)) ?_ | refine nilk (fun h => absurd h (List.cons_ne_nil _ _)) ?_ | refine nilk (fun h => ?_) ?_ | exact rfl | exact True.intro | refine leftk1 rfl ?_ | refine bytk8 rfl ?_ | refine bytk rfl ?_ | exact leftk0 rfl | refine eqk rfl ?_ | refine fLm rfl ?_ | refine fLk (by assumption) ?_ | refine fVk ?_ | refine fLVk ?_ | refine fWk ?_ | intro hl))
  all_goals conv => whnf
 have d1 : decide (((ls.map cA).length : Nat) < (3 : Int)) = false := decide_eq_false (by omega)
 have d2 : decide (((ls.map cA).length : Nat) > (3 : Int)) = false := decide_eq_false (by omega)
 obtain ⟨v, x, q', hv, hr⟩ := g_mid ⟨ls, 0⟩ hq
 refine ⟨v, hv, ?_⟩
 refine r_texts_Call rfl fun hw => ?_
 clear hw
 repeat' ((conv => whnf); (first | refine Bth.mk ?_ ?_ | refine csp_f (d1) ?_ | refine csp_f (d2) ?_ | refine pickk0 ?_ | refine csp (fun h => ?_) (fun h => ?_) | refine cllo (fnd_MID) (fun _ => ?_) | refine clll (RetL.frame hr _ [1] rfl (by simp) rfl rfl) (fun _ _ => ?_) | (refine sda ?_ ?_; (focus (first | rfl | exact of_decide_eq_true rfl | (simp; done)))) | refine sda ?_ ?_ | refine conk rfl ?_ | refine ldk rfl ?_ | refine mapk (fun x hx => ?_) | exact ⟨rfl, rfl⟩ | refine nilk (fun h => absurd h (of_decide_eq_false rfl)) ?_ | refine nilk (fun h => absurd h (List.cons_ne_nil _ _)) ?_ | refine nilk (fun h => ?_) ?_ | exact rfl | exact True.intro | refine leftk1 rfl ?_ | refine bytk8 rfl ?_ | refine bytk rfl ?_ | exact leftk0 rfl | refine eqk rfl ?_ | refine fLm rfl ?_ | refine fLk (by assumption) ?_ | refine fVk ?_ | refine fLVk ?_ | refine fWk ?_ | intro hl))
 all_goals conv => whnf
theorem cl_REPLACE (ls : List Ar) (hq : OkQ ⟨ls, 0⟩) : ∃ v : GV, goodV v = true ∧ Ret Tryz.prog F_texts_Call [.str ⟨#[82, 69, 80, 76, 65, 67, 69]⟩, .row false (ls.map cA)] (.tup [eV v, .bool true]) := by
 have hlm : ((ls.map cA).length : Int) = ls.length := by rw [List.length_map]
 by_cases h1 : (4 : Int) ≤ ls.length
 rotate_left
 ·have d1 : decide (((ls.map cA).length : Nat) < (4 : Int)) = true := decide_eq_true (by omega)
  refine ⟨badS 2, goodV_bad 2, ?_⟩
  refine r_texts_Call rfl fun hw => ?_
  clear hw
  repeat' ((conv => whnf); (first | refine Bth.mk ?_ ?_ | refine csp_t (d1) ?_ | refine pickk0 ?_ | refine csp (fun h => ?_) (fun h => ?_) | refine cllo (fnd_REPLACE) (fun _ => ?_) | refine cllo (value_Bad _) (fun _ => ?_) | (refine sda ?_ ?_; (focus (first | rfl | exact of_decide_eq_true rfl | (simp; done)))) | refine sda ?_ ?_ | refine conk rfl ?_ | refine ldk rfl ?_ | refine mapk (fun x hx => ?_) | exact ⟨rfl, rfl⟩ | refine nilk (fun h => absurd h (of_decide_eq_false rfl)) ?_ | refine nilk (fun h => absurd h (List.cons_ne_nil _ _)) ?_ | refine nilk (fun h => ?_) ?_ | exact rfl | exact True.intro | refine leftk1 rfl ?_ | refine bytk8 rfl ?_ | refine bytk rfl ?_ | exact leftk0 rfl | refine eqk rfl ?_ | refine fLm rfl ?_ | refine fLk (by assumption) ?_ | refine fVk ?_ | refine fLVk ?_ | refine fWk ?_ | intro hl))
  all_goals conv => whnf
 by_cases h2 : (ls.length : Int) ≤ 4
 rotate_left
 ·have d1 : decide (((ls.map cA).length : Nat) < (4 : Int)) = false := decide_eq_false (by omega)
  have d2 : decide (((ls.map cA).length : Nat) > (4 : Int)) = true := decide_eq_true (by omega)
  refine ⟨badS 2, goodV_bad 2, ?_⟩
  refine r_texts_Call rfl fun hw => ?_
  clear hw
  repeat' ((conv => whnf); (first | refine Bth.mk ?_ ?_ | refine csp_t (d2) ?_ | refine csp_f (d1) ?_ | refine pickk0 ?_ | refine csp (fun h => ?_) (fun h => ?_) | refine cllo (fnd_REPLACE) (fun _ => ?_) | refine cllo (value_Bad _) (fun _ => ?_) | (refine sda ?_ ?_; (focus (first | rfl | exact of_decide_eq_true rfl | (simp; done)))) | refine sda ?_ ?_ | refine conk rfl ?_ | refine ldk rfl ?_ | refine mapk (fun x hx => ?_) | exact ⟨rfl, rfl⟩ | refine nilk (fun h => absurd h (of_decide_eq_false rfl)) ?_ | refine nilk (fun h => absurd h (List.cons_ne_nil _ _)) ?_ | refine nilk (fun h => ?_) ?_ | exact rfl | exact True.intro | refine leftk1 rfl ?_ | refine bytk8 rfl ?_ | refine bytk rfl ?_ | exact leftk0 rfl | refine eqk rfl ?_ | refine fLm rfl ?_ | refine fLk (by assumption) ?_ | refine fVk ?_ | refine fLVk ?_ | refine fWk ?_ | intro hl))
  all_goals conv => whnf
 have d1 : decide (((ls.map cA).length : Nat) < (4 : Int)) = false := decide_eq_false (by omega)
 have d2 : decide (((ls.map cA).length : Nat) > (4 : Int)) = false := decide_eq_false (by omega)
 obtain ⟨v, x, q', hv, hr⟩ := g_replace ⟨ls, 0⟩ hq
 refine ⟨v, hv, ?_⟩
 refine r_texts_Call rfl fun hw => ?_
 clear hw
 repeat' ((conv => whnf); (first | refine Bth.mk ?_ ?_ | refine csp_f (d1) ?_ | refine csp_f (d2) ?_ | refine pickk0 ?_ | refine csp (fun h => ?_) (fun h => ?_) | refine cllo (fnd_REPLACE) (fun _ => ?_) | refine clll (RetL.frame hr _ [1] rfl (by simp) rfl rfl) (fun _ _ => ?_) | (refine sda ?_ ?_; (focus (first | rfl | exact of_decide_eq_true rfl | (simp; done)))) | refine sda ?_ ?_ | refine conk rfl ?_ | refine ldk rfl ?_ | refine mapk (fun x hx => ?_) | exact ⟨rfl, rfl⟩ | refine nilk (fun h => absurd h (of_decide_eq_false rfl)) ?_ | refine nilk (fun h => absurd h (List.cons_ne_nil _ _)) ?_ | refine nilk (fun h => ?_) ?_ | exact rfl | exact True.intro | refine leftk1 rfl ?_ | refine bytk8 rfl ?_ | refine bytk rfl ?_ | exact leftk0 rfl | refine eqk rfl ?_ | refine fLm rfl ?_ | refine fLk (by assumption) ?_ | refine fVk ?_ | refine fLVk ?_ | refine fWk ?_ | intro hl))
 all_goals conv => whnf
theorem cl_REPT (ls : List Ar) (hq : OkQ ⟨ls, 0⟩) : ∃ v : GV, goodV v = true ∧ Ret Tryz.prog F_texts_Call [.str ⟨#[82, 69, 80, 84]⟩, .row false (ls.map cA)] (.tup [eV v, .bool true]) := by
 have hlm : ((ls.map cA).length : Int) = ls.length := by rw [List.length_map]
 by_cases h1 : (2 : Int) ≤ ls.length
 rotate_left
 ·have d1 : decide (((ls.map cA).length : Nat) < (2 : Int)) = true := decide_eq_true (by omega)
  refine ⟨badS 2, goodV_bad 2, ?_⟩
  refine r_texts_Call rfl fun hw => ?_
  clear hw
  repeat' ((conv => whnf); (first | refine Bth.mk ?_ ?_ | refine csp_t (d1) ?_ | refine pickk0 ?_ | refine csp (fun h => ?_) (fun h => ?_) | refine cllo (fnd_REPT) (fun _ => ?_) | refine cllo (value_Bad _) (fun _ => ?_) | (refine sda ?_ ?_; (focus (first | rfl | exact of_decide_eq_true rfl | (simp; done)))) | refine sda ?_ ?_ | refine conk rfl ?_ | refine ldk rfl ?_ | refine mapk (fun x hx => ?_) | exact ⟨rfl, rfl⟩ | refine nilk (fun h => absurd h (of_decide_eq_false rfl)) ?_ | refine nilk (fun h => absurd h (List.cons_ne_nil _ _)) ?_ | refine nilk (fun h => ?_) ?_ | exact rfl | exact True.intro | refine leftk1 rfl ?_ | refine bytk8 rfl ?_ | refine bytk rfl ?_ | exact leftk0 rfl | refine eqk rfl ?_ | refine fLm rfl ?_ | refine fLk (by assumption) ?_ | refine fVk ?_ | refine fLVk ?_ | refine fWk ?_ | intro hl))
  all_goals conv => whnf
 by_cases h2 : (ls.length : Int) ≤ 2
 rotate_left
 ·have d1 : decide (((ls.map cA).length : Nat) < (2 : Int)) = false := decide_eq_false (by omega)
  have d2 : decide (((ls.map cA).length : Nat) > (2 : Int)) = true := decide_eq_true (by omega)
  refine ⟨badS 2, goodV_bad 2, ?_⟩
  refine r_texts_Call rfl fun hw => ?_
  clear hw
  repeat' ((conv => whnf); (first | refine Bth.mk ?_ ?_ | refine csp_t (d2) ?_ | refine csp_f (d1) ?_ | refine pickk0 ?_ | refine csp (fun h => ?_) (fun h => ?_) | refine cllo (fnd_REPT) (fun _ => ?_) | refine cllo (value_Bad _) (fun _ => ?_) | (refine sda ?_ ?_; (focus (first | rfl | exact of_decide_eq_true rfl | (simp; done)))) | refine sda ?_ ?_ | refine conk rfl ?_ | refine ldk rfl ?_ | refine mapk (fun x hx => ?_) | exact ⟨rfl, rfl⟩ | refine nilk (fun h => absurd h (of_decide_eq_false rfl)) ?_ | refine nilk (fun h => absurd h (List.cons_ne_nil _ _)) ?_ | refine nilk (fun h => ?_) ?_ | exact rfl | exact True.intro | refine leftk1 rfl ?_ | refine bytk8 rfl ?_ | refine bytk rfl ?_ | exact leftk0 rfl | refine eqk rfl ?_ | refine fLm rfl ?_ | refine fLk (by assumption) ?_ | refine fVk ?_ | refine fLVk ?_ | refine fWk ?_ | intro hl))
  all_goals conv => whnf
 have d1 : decide (((ls.map cA).length : Nat) < (2 : Int)) = false := decide_eq_false (by omega)
 have d2 : decide (((ls.map cA).length : Nat) > (2 : Int)) = false := decide_eq_false (by omega)
 obtain ⟨v, x, q', hv, hr⟩ := g_rept ⟨ls, 0⟩ hq
 refine ⟨v, hv, ?_⟩
 refine r_texts_Call rfl fun hw => ?_
 clear hw
 repeat' ((conv => whnf); (first | refine Bth.mk ?_ ?_ | refine csp_f (d1) ?_ | refine csp_f (d2) ?_ | refine pickk0 ?_ | refine csp (fun h => ?_) (fun h => ?_) | refine cllo (fnd_REPT) (fun _ => ?_) | refine clll (RetL.frame hr _ [1] rfl (by simp) rfl rfl) (fun _ _ => ?_) | (refine sda ?_ ?_; (focus (first | rfl | exact of_decide_eq_true rfl | (simp; done)))) | refine sda ?_ ?_ | refine conk rfl ?_ | refine ldk rfl ?_ | refine mapk (fun x hx => ?_) | exact ⟨rfl, rfl⟩ | refine nilk (fun h => absurd h (of_decide_eq_false rfl)) ?_ | refine nilk (fun h => absurd h (List.cons_ne_nil _ _)) ?_ | refine nilk (fun h => ?_) ?_ | exact rfl | exact True.intro | refine leftk1 rfl ?_ | refine bytk8 rfl ?_ | refine bytk rfl ?_ | exact leftk0 rfl | refine eqk rfl ?_ | refine fLm rfl ?_ | refine fLk (by assumption) ?_ | refine fVk ?_ | refine fLVk ?_ | refine fWk ?_ | intro hl))
 all_goals conv => whnf
theorem cl_EXACT (ls : List Ar) (hq : OkQ ⟨ls, 0⟩) : ∃ v : GV, goodV v = true ∧ Ret Tryz.prog F_texts_Call [.str ⟨#[69, 88, 65, 67, 84]⟩, .row false (ls.map cA)] (.tup [eV v, .bool true]) := by
 have hlm : ((ls.map cA).length : Int) = ls.length := by rw [List.length_map]
 by_cases h1 : (2 : Int) ≤ ls.length
 rotate_left
 ·have d1 : decide (((ls.map cA).length : Nat) < (2 : Int)) = true := decide_eq_true (by omega)
  refine ⟨badS 2, goodV_bad 2, ?_⟩
  refine r_texts_Call rfl fun hw => ?_
  clear hw
  repeat' ((conv => whnf); (first | refine Bth.mk ?_ ?_ | refine csp_t (d1) ?_ | refine pickk0 ?_ | refine csp (fun h => ?_) (fun h => ?_) | refine cllo (fnd_EXACT) (fun _ => ?_) | refine cllo (value_Bad _) (fun _ => ?_) | (refine sda ?_ ?_; (focus (first | rfl | exact of_decide_eq_true rfl | (simp; done)))) | refine sda ?_ ?_ | refine conk rfl ?_ | refine ldk rfl ?_ | refine mapk (fun x hx => ?_) | exact ⟨rfl, rfl⟩ | refine nilk (fun h => absurd h (of_decide_eq_false rfl)) ?_ | refine nilk (fun h => absurd h (List.cons_ne_nil _ _)) ?_ | refine nilk (fun h => ?_) ?_ | exact rfl | exact True.intro | refine leftk1 rfl ?_ | refine bytk8 rfl ?_ | refine bytk rfl ?_ | exact leftk0 rfl | refine eqk rfl ?_ | refine fLm rfl ?_ | refine fLk (by assumption) ?_ | refine fVk ?_ | refine fLVk ?_ | refine fWk ?_ | intro hl))
  all_goals conv => whnf
 by_cases h2 : (ls.length : Int) ≤ 2
 rotate_left
 ·have d1 : decide (((ls.map cA).length : Nat) < (2 : Int)) = false := decide_eq_false (by omega)
  have d2 : decide (((ls.map cA).length : Nat) > (2 : Int)) = true := decide_eq_true (by omega)
  refine ⟨badS 2, goodV_bad 2, ?_⟩
  refine r_texts_Call rfl fun hw => ?_
  clear hw
  repeat' ((conv => whnf); (first | refine Bth.mk ?_ ?_ | refine csp_t (d2) ?_ | refine csp_f (d1) ?_ | refine pickk0 ?_ | refine csp (fun h => ?_) (fun h => ?_) | refine cllo (fnd_EXACT) (fun _ => ?_) | refine cllo (value_Bad _) (fun _ => ?_) | (refine sda ?_ ?_; (focus (first | rfl | exact of_decide_eq_true rfl | (simp; done)))) | refine sda ?_ ?_ | refine conk rfl ?_ | refine ldk rfl ?_ | refine mapk (fun x hx => ?_) | exact ⟨rfl, rfl⟩ | refine nilk (fun h => absurd h (of_decide_eq_false rfl)) ?_ | refine nilk (fun h => absurd h (List.cons_ne_nil _ _)) ?_ | refine nilk (fun h => ?_) ?_ | exact rfl | exact True.intro | refine leftk1 rfl ?_ | refine bytk8 rfl ?_ | refine bytk rfl ?_ | exact leftk0 rfl | refine eqk rfl ?_ | refine fLm rfl ?_ | refine fLk (by assumption) ?_ | refine fVk ?_ | refine fLVk ?_ | refine fWk ?_ | intro hl))
  all_goals conv => whnf
 have d1 : decide (((ls.map cA).length : Nat) < (2 : Int)) = false := decide_eq_false (by omega)
 have d2 : decide (((ls.map cA).length : Nat) > (2 : Int)) = false := decide_eq_false (by omega)
 obtain ⟨v, x, q', hv, hr⟩ := g_exact ⟨ls, 0⟩ hq
 refine ⟨v, hv, ?_⟩
 refine r_texts_Call rfl fun hw => ?_
 clear hw
 repeat' ((conv => whnf); (first | refine Bth.mk ?_ ?_ | refine csp_f (d1) ?_ | refine csp_f (d2) ?_ | refine pickk0 ?_ | refine csp (fun h => ?_) (fun h => ?_) | refine cllo (fnd_EXACT) (fun _ => ?_) | refine clll (RetL.frame hr _ [1] rfl (by simp) rfl rfl) (fun _ _ => ?_) | (refine sda ?_ ?_; (focus (first | rfl | exact of_decide_eq_true rfl | (simp; done)))) | refine sda ?_ ?_ | refine conk rfl ?_ | refine ldk rfl ?_ | refine mapk (fun x hx => ?_) | exact ⟨rfl, rfl⟩ | refine nilk (fun h => absurd h (of_decide_eq_false rfl)) ?_ | refine nilk (fun h => absurd h (List.cons_ne_nil _ _)) ?_ | refine nilk (fun h => ?_) ?_ | exact rfl | exact True.intro | refine leftk1 rfl ?_ | refine bytk8 rfl ?_ | refine bytk rfl ?_ | exact leftk0 rfl | refine eqk rfl ?_ | refine fLm rfl ?_ | refine fLk (by assumption) ?_ | refine fVk ?_ | refine fLVk ?_ | refine fWk ?_ | intro hl))
 all_goals conv => whnf
theorem cl_FIND (ls : List Ar) (hq : OkQ ⟨ls, 0⟩) : ∃ v : GV, goodV v = true ∧ Ret Tryz.prog F_texts_Call [.str ⟨#[70, 73, 78, 68]⟩, .row false (ls.map cA)] (.tup [eV v, .bool true]) := by
 have hlm : ((ls.map cA).length : Int) = ls.length := by rw [List.length_map]
 by_cases h1 : (2 : Int) ≤ ls.length
 rotate_left
 ·have d1 : decide (((ls.map cA).length : Nat) < (2 : Int)) = true := decide_eq_true (by omega)
  refine ⟨badS 2, goodV_bad 2, ?_⟩
  refine r_texts_Call rfl fun hw => ?_
  clear hw
  repeat' ((conv => whnf); (first | refine Bth.mk ?_ ?_ | refine csp_t (d1) ?_ | refine pickk0 ?_ | refine csp (fun h => ?_) (fun h => ?_) | refine cllo (fnd_FIND) (fun _ => ?_) | refine cllo (value_Bad _) (fun _ => ?_) | (refine sda ?_ ?_; (focus (first | rfl | exact of_decide_eq_true rfl | (simp; done)))) | refine sda ?_ ?_ | refine conk rfl ?_ | refine ldk rfl ?_ | refine mapk (fun x hx => ?_) | exact ⟨rfl, rfl⟩ | refine nilk (fun h => absurd h (of_decide_eq_false rfl)) ?_ | refine nilk (fun h => absurd h (List.cons_ne_nil _ _)) ?_ | refine nilk (fun h => ?_) ?_ | exact rfl | exact True.intro | refine leftk1 rfl ?_ | refine bytk8 rfl ?_ | refine bytk rfl ?_ | exact leftk0 rfl | refine eqk rfl ?_ | refine fLm rfl ?_ | refine fLk (by assumption) ?_ | refine fVk ?_ | refine fLVk ?_ | refine fWk ?_ | intro hl))
  all_goals conv => whnf
 by_cases h2 : (ls.length : Int) ≤ 3
 rotate_left
 ·have d1 : decide (((ls.map cA).length : Nat) < (2 : Int)) = false := decide_eq_false (by omega)
  have d2 : decide (((ls.map cA).length : Nat) > (3 : Int)) = true := decide_eq_true (by omega)
  refine ⟨badS 2, goodV_bad 2, ?_⟩
  refine r_texts_Call rfl fun hw => ?_
  clear hw
  repeat' ((conv => whnf); (first | refine Bth.mk ?_ ?_ | refine csp_t (d2) ?_ | refine csp_f (d1) ?_ | refine pickk0 ?_ | refine csp (fun h => ?_) (fun h => ?_) | refine cllo (fnd_FIND) (fun _ => ?_) | refine cllo (value_Bad _) (fun _ => ?_) | (refine sda ?_ ?_; (focus (first | rfl | exact of_decide_eq_true rfl | (simp; done)))) | refine sda ?_ ?_ | refine conk rfl ?_ | refine ldk rfl ?_ | refine mapk (fun x hx => ?_) | exact ⟨rfl, rfl⟩ | refine nilk (fun h => absurd h (of_decide_eq_false rfl)) ?_ | refine nilk (fun h => absurd h (List.cons_ne_nil _ _)) ?_ | refine nilk (fun h => ?_) ?_ | exact rfl | exact True.intro | refine leftk1 rfl ?_ | refine bytk8 rfl ?_ | refine bytk rfl ?_ | exact leftk0 rfl | refine eqk rfl ?_ | refine fLm rfl ?_ | refine fLk (by assumption) ?_ | refine fVk ?_ | refine fLVk ?_ | refine fWk ?_ | intro hl))
  all_goals conv => whnf
 have d1 : decide (((ls.map cA).length : Nat) < (2 : Int)) = false := decide_eq_false (by omega)
 have d2 : decide (((ls.map cA).length : Nat) > (3 : Int)) = false := decide_eq_false (by omega)
 obtain ⟨v, x, q', hv, hr⟩ := (g_finds _ id fun s h => ⟨find_6_c s, h⟩) ⟨ls, 0⟩ hq
 refine ⟨v, hv, ?_⟩
 refine r_texts_Call rfl fun hw => ?_
 clear hw
 repeat' ((conv => whnf); (first | refine Bth.mk ?_ ?_ | refine csp_f (d1) ?_ | refine csp_f (d2) ?_ | refine pickk0 ?_ | refine csp (fun h => ?_) (fun h => ?_) | refine cllo (fnd_FIND) (fun _ => ?_) | refine clll (RetL.frame hr _ [1] rfl (by simp) rfl rfl) (fun _ _ => ?_) | (refine sda ?_ ?_; (focus (first | rfl | exact of_decide_eq_true rfl | (simp; done)))) | refine sda ?_ ?_ | refine conk rfl ?_ | refine ldk rfl ?_ | refine mapk (fun x hx => ?_) | exact ⟨rfl, rfl⟩ | refine nilk (fun h => absurd h (of_decide_eq_false rfl)) ?_ | refine nilk (fun h => absurd h (List.cons_ne_nil _ _)) ?_ | refine nilk (fun h => ?_) ?_ | exact rfl | exact True.intro | refine leftk1 rfl ?_ | refine bytk8 rfl ?_ | refine bytk rfl ?_ | exact leftk0 rfl | refine eqk rfl ?_ | refine fLm rfl ?_ | refine fLk (by assumption) ?_ | refine fVk ?_ | refine fLVk ?_ | refine fWk ?_ | intro hl))
 all_goals conv => whnf
theorem cl_SEARCH (ls : List Ar) (hq : OkQ ⟨ls, 0⟩) : ∃ v : GV, goodV v = true ∧ Ret Tryz.prog F_texts_Call [.str ⟨#[83, 69, 65, 82, 67, 72]⟩, .row false (ls.map cA)] (.tup [eV v, .bool true]) := by
 have hlm : ((ls.map cA).length : Int) = ls.length := by rw [List.length_map]
 by_cases h1 : (2 : Int) ≤ ls.length
 rotate_left
 ·have d1 : decide (((ls.map cA).length : Nat) < (2 : Int)) = true := decide_eq_true (by omega)
  refine ⟨badS 2, goodV_bad 2, ?_⟩
  refine r_texts_Call rfl fun hw => ?_
  clear hw
  repeat' ((conv => whnf); (first | refine Bth.mk ?_ ?_ | refine csp_t (d1) ?_ | refine pickk0 ?_ | refine csp (fun h => ?_) (fun h => ?_) | refine cllo (fnd_SEARCH) (fun _ => ?_) | refine cllo (value_Bad _) (fun _ => ?_) | (refine sda ?_ ?_; (focus (first | rfl | exact of_decide_eq_true rfl | (simp; done)))) | refine sda ?_ ?_ | refine conk rfl ?_ | refine ldk rfl ?_ | refine mapk (fun x hx => ?_) | exact ⟨rfl, rfl⟩ | refine nilk (fun h => absurd h (of_decide_eq_false rfl)) ?_ | refine nilk (fun h => absurd h (List.cons_ne_nil _ _)) ?_ | refine nilk (fun h => ?_) ?_ | exact rfl | exact True.intro | refine leftk1 rfl ?_ | refine bytk8 rfl ?_ | refine bytk rfl ?_ | exact leftk0 rfl | refine eqk rfl ?_ | refine fLm rfl ?_ | refine fLk (by assumption) ?_ | refine fVk ?_ | refine fLVk ?_ | refine fWk ?_ | intro hl))
  all_goals conv => whnf
 by_cases h2 : (ls.length : Int) ≤ 3
 rotate_left
 ·have d1 : decide (((ls.map cA).length : Nat) < (2 : Int)) = false := decide_eq_false (by omega)
  have d2 : decide (((ls.map cA).length : Nat) > (3 : Int)) = true := decide_eq_true (by omega)
  refine ⟨badS 2, goodV_bad 2, ?_⟩
  refine r_texts_Call rfl fun hw => ?_
  clear hw
  repeat' ((conv => whnf); (first | refine Bth.mk ?_ ?_ | refine csp_t (d2) ?_ | refine csp_f (d1) ?_ | refine pickk0 ?_ | refine csp (fun h => ?_) (fun h => ?_) | refine cllo (fnd_SEARCH) (fun _ => ?_) | refine cllo (value_Bad _) (fun _ => ?_) | (refine sda ?_ ?_; (focus (first | rfl | exact of_decide_eq_true rfl | (simp; done)))) | refine sda ?_ ?_ | refine conk rfl ?_ | refine ldk rfl ?_ | refine mapk (fun x hx => ?_) | exact ⟨rfl, rfl⟩ | refine nilk (fun h => absurd h (of_decide_eq_false rfl)) ?_ | refine nilk (fun h => absurd h (List.cons_ne_nil _ _)) ?_ | refine nilk (fun h => ?_) ?_ | exact rfl | exact True.intro | refine leftk1 rfl ?_ | refine bytk8 rfl ?_ | refine bytk rfl ?_ | exact leftk0 rfl | refine eqk rfl ?_ | refine fLm rfl ?_ | refine fLk (by assumption) ?_ | refine fVk ?_ | refine fLVk ?_ | refine fWk ?_ | intro hl))
  all_goals conv => whnf
 have d1 : decide (((ls.map cA).length : Nat) < (2 : Int)) = false := decide_eq_false (by omega)
 have d2 : decide (((ls.map cA).length : Nat) > (3 : Int)) = false := decide_eq_false (by omega)
 obtain ⟨v, x, q', hv, hr⟩ := (g_finds _ Vl.up fun s h => ⟨Upper_c s (by omega), by rw [up_size]; exact h⟩) ⟨ls, 0⟩ hq
 refine ⟨v, hv, ?_⟩
 refine r_texts_Call rfl fun hw => ?_
 clear hw
 repeat' ((conv => whnf); (first | refine Bth.mk ?_ ?_ | refine csp_f (d1) ?_ | refine csp_f (d2) ?_ | refine pickk0 ?_ | refine csp (fun h => ?_) (fun h => ?_) | refine cllo (fnd_SEARCH) (fun _ => ?_) | refine clll (RetL.frame hr _ [1] rfl (by simp) rfl rfl) (fun _ _ => ?_) | (refine sda ?_ ?_; (focus (first | rfl | exact of_decide_eq_true rfl | (simp; done)))) | refine sda ?_ ?_ | refine conk rfl ?_ | refine ldk rfl ?_ | refine mapk (fun x hx => ?_) | exact ⟨rfl, rfl⟩ | refine nilk (fun h => absurd h (of_decide_eq_false rfl)) ?_ | refine nilk (fun h => absurd h (List.cons_ne_nil _ _)) ?_ | refine nilk (fun h => ?_) ?_ | exact rfl | exact True.intro | refine leftk1 rfl ?_ | refine bytk8 rfl ?_ | refine bytk rfl ?_ | exact leftk0 rfl | refine eqk rfl ?_ | refine fLm rfl ?_ | refine fLk (by assumption) ?_ | refine fVk ?_ | refine fLVk ?_ | refine fWk ?_ | intro hl))
 all_goals conv => whnf
theorem cl_SUBSTITUTE (ls : List Ar) (hq : OkQ ⟨ls, 0⟩) : ∃ v : GV, goodV v = true ∧ Ret Tryz.prog F_texts_Call [.str ⟨#[83, 85, 66, 83, 84, 73, 84, 85, 84, 69]⟩, .row false (ls.map cA)] (.tup [eV v, .bool true]) := by
 have hlm : ((ls.map cA).length : Int) = ls.length := by rw [List.length_map]
 by_cases h1 : (3 : Int) ≤ ls.length
 rotate_left
 ·have d1 : decide (((ls.map cA).length : Nat) < (3 : Int)) = true := decide_eq_true (by omega)
  refine ⟨badS 2, goodV_bad 2, ?_⟩
  refine r_texts_Call rfl fun hw => ?_
  clear hw
  repeat' ((conv => whnf); (first | refine Bth.mk ?_ ?_ | refine csp_t (d1) ?_ | refine pickk0 ?_ | refine csp (fun h => ?_) (fun h => ?_) | refine cllo (fnd_SUBSTITUTE) (fun _ => ?_) | refine cllo (value_Bad _) (fun _ => ?_) | (refine sda ?_ ?_; (focus (first | rfl | exact of_decide_eq_true rfl | (simp; done)))) | refine sda ?_ ?_ | refine conk rfl ?_ | refine ldk rfl ?_ | refine mapk (fun x hx => ?_) | exact ⟨rfl, rfl⟩ | refine nilk (fun h => absurd h (of_decide_eq_false rfl)) ?_ | refine nilk (fun h => absurd h (List.cons_ne_nil _ _)) ?_ | refine nilk (fun h => ?_) ?_ | exact rfl | exact True.intro | refine leftk1 rfl ?_ | refine bytk8 rfl ?_ | refine bytk rfl ?_ | exact leftk0 rfl | refine eqk rfl ?_ | refine fLm rfl ?_ | refine fLk (by assumption) ?_ | refine fVk ?_ | refine fLVk ?_ | refine fWk ?_ | intro hl))
  all_goals conv => whnf
 by_cases h2 : (ls.length : Int) ≤ 4
 rotate_left
 ·have d1 : decide (((ls.map cA).length : Nat) < (3 : Int)) = false := decide_eq_false (by omega)
  have d2 : decide (((ls.map cA).length : Nat) > (4 : Int)) = true := decide_eq_true (by omega)
  refine ⟨badS 2, goodV_bad 2, ?_⟩
  refine r_texts_Call rfl fun hw => ?_
  clear hw
  repeat' ((conv => whnf); (first | refine Bth.mk ?_ ?_ | refine csp_t (d2) ?_ | refine csp_f (d1) ?_ | refine pickk0 ?_ | refine csp (fun h => ?_) (fun h => ?_) | refine cllo (fnd_SUBSTITUTE) (fun _ => ?_) | refine cllo (value_Bad _) (fun _ => ?_) | (refine sda ?_ ?_; (focus (first | rfl | exact of_decide_eq_true rfl | (simp; done)))) | refine sda ?_ ?_ | refine conk rfl ?_ | refine ldk rfl ?_ | refine mapk (fun x hx => ?_) | exact ⟨rfl, rfl⟩ | refine nilk (fun h => absurd h (of_decide_eq_false rfl)) ?_ | refine nilk (fun h => absurd h (List.cons_ne_nil _ _)) ?_ | refine nilk (fun h => ?_) ?_ | exact rfl | exact True.intro | refine leftk1 rfl ?_ | refine bytk8 rfl ?_ | refine bytk rfl ?_ | exact leftk0 rfl | refine eqk rfl ?_ | refine fLm rfl ?_ | refine fLk (by assumption) ?_ | refine fVk ?_ | refine fLVk ?_ | refine fWk ?_ | intro hl))
  all_goals conv => whnf
 have d1 : decide (((ls.map cA).length : Nat) < (3 : Int)) = false := decide_eq_false (by omega)
 have d2 : decide (((ls.map cA).length : Nat) > (4 : Int)) = false := decide_eq_false (by omega)
 obtain ⟨v, x, q', hv, hr⟩ := g_subst ⟨ls, 0⟩ hq
 refine ⟨v, hv, ?_⟩
 refine r_texts_Call rfl fun hw => ?_
 clear hw
 repeat' ((conv => whnf); (first | refine Bth.mk ?_ ?_ | refine csp_f (d1) ?_ | refine csp_f (d2) ?_ | refine pickk0 ?_ | refine csp (fun h => ?_) (fun h => ?_) | refine cllo (fnd_SUBSTITUTE) (fun _ => ?_) | refine clll (RetL.frame hr _ [1] rfl (by simp) rfl rfl) (fun _ _ => ?_) | (refine sda ?_ ?_; (focus (first | rfl | exact of_decide_eq_true rfl | (simp; done)))) | refine sda ?_ ?_ | refine conk rfl ?_ | refine ldk rfl ?_ | refine mapk (fun x hx => ?_) | exact ⟨rfl, rfl⟩ | refine nilk (fun h => absurd h (of_decide_eq_false rfl)) ?_ | refine nilk (fun h => absurd h (List.cons_ne_nil _ _)) ?_ | refine nilk (fun h => ?_) ?_ | exact rfl | exact True.intro | refine leftk1 rfl ?_ | refine bytk8 rfl ?_ | refine bytk rfl ?_ | exact leftk0 rfl | refine eqk rfl ?_ | refine fLm rfl ?_ | refine fLk (by assumption) ?_ | refine fVk ?_ | refine fLVk ?_ | refine fWk ?_ | intro hl))
 all_goals conv => whnf
theorem cl_CONCAT (ls : List Ar) (hq : OkQ ⟨ls, 0⟩) : ∃ v : GV, goodV v = true ∧ Ret Tryz.prog F_texts_Call [.str ⟨#[67, 79, 78, 67, 65, 84]⟩, .row false (ls.map cA)] (.tup [eV v, .bool true]) := by
 have hlm : ((ls.map cA).length : Int) = ls.length := by rw [List.length_map]
 by_cases h1 : (0 : Int) ≤ ls.length
 rotate_left
 ·exact absurd (Int.natCast_nonneg _) h1
 by_cases h2 : (ls.length : Int) ≤ 1073741824
 rotate_left
 ·have d1 : decide (((ls.map cA).length : Nat) < (0 : Int)) = false := decide_eq_false (by omega)
  have d2 : decide (((ls.map cA).length : Nat) > (1073741824 : Int)) = true := decide_eq_true (by omega)
  refine ⟨badS 2, goodV_bad 2, ?_⟩
  refine r_texts_Call rfl fun hw => ?_
  clear hw
  repeat' ((conv => whnf); (first | refine Bth.mk ?_ ?_ | refine csp_t (d2) ?_ | refine csp_f (d1) ?_ | refine pickk0 ?_ | refine csp (fun h => ?_) (fun h => ?_) | refine cllo (fnd_CONCAT) (fun _ => ?_) | refine cllo (value_Bad _) (fun _ => ?_) | (refine sda ?_ ?_; (focus (first | rfl | exact of_decide_eq_true rfl | (simp; done)))) | refine sda ?_ ?_ | refine conk rfl ?_ | refine ldk rfl ?_ | refine mapk (fun x hx => ?_) | exact ⟨rfl, rfl⟩ | refine nilk (fun h => absurd h (of_decide_eq_false rfl)) ?_ | refine nilk (fun h => absurd h (List.cons_ne_nil _ _)) ?_ | refine nilk (fun h => ?_) ?_ | exact rfl | exact True.intro | refine leftk1 rfl ?_ | refine bytk8 rfl ?_ | refine bytk rfl ?_ | exact leftk0 rfl | refine eqk rfl ?_ | refine fLm rfl ?_ | refine fLk (by assumption) ?_ | refine fVk ?_ | refine fLVk ?_ | refine fWk ?_ | intro hl))
  all_goals conv => whnf
 have d1 : decide (((ls.map cA).length : Nat) < (0 : Int)) = false := decide_eq_false (by omega)
 have d2 : decide (((ls.map cA).length : Nat) > (1073741824 : Int)) = false := decide_eq_false (by omega)
 obtain ⟨v, x, q', hv, hr⟩ := g_concat ⟨ls, 0⟩ hq
 refine ⟨v, hv, ?_⟩
 refine r_texts_Call rfl fun hw => ?_
 clear hw
 repeat' ((conv => whnf); (first | refine Bth.mk ?_ ?_ | refine csp_f (d1) ?_ | refine csp_f (d2) ?_ | refine pickk0 ?_ | refine csp (fun h => ?_) (fun h => ?_) | refine cllo (fnd_CONCAT) (fun _ => ?_) | refine clll (RetL.frame hr _ [1] rfl (by simp) rfl rfl) (fun _ _ => ?_) | (refine sda ?_ ?_; (focus (first | rfl | exact of_decide_eq_true rfl | (simp; done)))) | refine sda ?_ ?_ | refine conk rfl ?_ | refine ldk rfl ?_ | refine mapk (fun x hx => ?_) | exact ⟨rfl, rfl⟩ | refine nilk (fun h => absurd h (of_decide_eq_false rfl)) ?_ | refine nilk (fun h => absurd h (List.cons_ne_nil _ _)) ?_ | refine nilk (fun h => ?_) ?_ | exact rfl | exact True.intro | refine leftk1 rfl ?_ | refine bytk8 rfl ?_ | refine bytk rfl ?_ | exact leftk0 rfl | refine eqk rfl ?_ | refine fLm rfl ?_ | refine fLk (by assumption) ?_ | refine fVk ?_ | refine fLVk ?_ | refine fWk ?_ | intro hl))
 all_goals conv => whnf
theorem cl_TEXTJOIN (ls : List Ar) (hq : OkQ ⟨ls, 0⟩) : ∃ v : GV, goodV v = true ∧ Ret Tryz.prog F_texts_Call [.str ⟨#[84, 69, 88, 84, 74, 79, 73, 78]⟩, .row false (ls.map cA)] (.tup [eV v, .bool true]) := by
 have hlm : ((ls.map cA).length : Int) = ls.length := by rw [List.length_map]
 by_cases h1 : (2 : Int) ≤ ls.length
 rotate_left
 ·have d1 : decide (((ls.map cA).length : Nat) < (2 : Int)) = true := decide_eq_true (by omega)
  refine ⟨badS 2, goodV_bad 2, ?_⟩
  refine r_texts_Call rfl fun hw => ?_
  clear hw
  repeat' ((conv => whnf); (first | refine Bth.mk ?_ ?_ | refine csp_t (d1) ?_ | refine pickk0 ?_ | refine csp (fun h => ?_) (fun h => ?_) | refine cllo (fnd_TEXTJOIN) (fun _ => ?_) | refine cllo (value_Bad _) (fun _ => ?_) | (refine sda ?_ ?_; (focus (first | rfl | exact of_decide_eq_true rfl | (simp; done)))) | refine sda ?_ ?_ | refine conk rfl ?_ | refine ldk rfl ?_ | refine mapk (fun x hx => ?_) | exact ⟨rfl, rfl⟩ | refine nilk (fun h => absurd h (of_decide_eq_false rfl)) ?_ | refine nilk (fun h => absurd h (List.cons_ne_nil _ _)) ?_ | refine nilk (fun h => ?_) ?_ | exact rfl | exact True.intro | refine leftk1 rfl ?_ | refine bytk8 rfl ?_ | refine bytk rfl ?_ | exact leftk0 rfl | refine eqk rfl ?_ | refine fLm rfl ?_ | refine fLk (by assumption) ?_ | refine fVk ?_ | refine fLVk ?_ | refine fWk ?_ | intro hl))
  all_goals conv => whnf
 by_cases h2 : (ls.length : Int) ≤ 1073741824
 rotate_left
 ·have d1 : decide (((ls.map cA).length : Nat) < (2 : Int)) = false := decide_eq_false (by omega)
  have d2 : decide (((ls.map cA).length : Nat) > (1073741824 : Int)) = true := decide_eq_true (by omega)
  refine ⟨badS 2, goodV_bad 2, ?_⟩
  refine r_texts_Call rfl fun hw => ?_
  clear hw
  repeat' ((conv => whnf); (first | refine Bth.mk ?_ ?_ | refine csp_t (d2) ?_ | refine csp_f (d1) ?_ | refine pickk0 ?_ | refine csp (fun h => ?_) (fun h => ?_) | refine cllo (fnd_TEXTJOIN) (fun _ => ?_) | refine cllo (value_Bad _) (fun _ => ?_) | (refine sda ?_ ?_; (focus (first | rfl | exact of_decide_eq_true rfl | (simp; done)))) | refine sda ?_ ?_ | refine conk rfl ?_ | refine ldk rfl ?_ | refine mapk (fun x hx => ?_) | exact ⟨rfl, rfl⟩ | refine nilk (fun h => absurd h (of_decide_eq_false rfl)) ?_ | refine nilk (fun h => absurd h (List.cons_ne_nil _ _)) ?_ | refine nilk (fun h => ?_) ?_ | exact rfl | exact True.intro | refine leftk1 rfl ?_ | refine bytk8 rfl ?_ | refine bytk rfl ?_ | exact leftk0 rfl | refine eqk rfl ?_ | refine fLm rfl ?_ | refine fLk (by assumption) ?_ | refine fVk ?_ | refine fLVk ?_ | refine fWk ?_ | intro hl))
  all_goals conv => whnf
 have d1 : decide (((ls.map cA).length : Nat) < (2 : Int)) = false := decide_eq_false (by omega)
 have d2 : decide (((ls.map cA).length : Nat) > (1073741824 : Int)) = false := decide_eq_false (by omega)
 obtain ⟨v, x, q', hv, hr⟩ := g_textjoin ⟨ls, 0⟩ hq
 refine ⟨v, hv, ?_⟩
 refine r_texts_Call rfl fun hw => ?_
 clear hw
 repeat' ((conv => whnf); (first | refine Bth.mk ?_ ?_ | refine csp_f (d1) ?_ | refine csp_f (d2) ?_ | refine pickk0 ?_ | refine csp (fun h => ?_) (fun h => ?_) | refine cllo (fnd_TEXTJOIN) (fun _ => ?_) | refine clll (RetL.frame hr _ [1] rfl (by simp) rfl rfl) (fun _ _ => ?_) | (refine sda ?_ ?_; (focus (first | rfl | exact of_decide_eq_true rfl | (simp; done)))) | refine sda ?_ ?_ | refine conk rfl ?_ | refine ldk rfl ?_ | refine mapk (fun x hx => ?_) | exact ⟨rfl, rfl⟩ | refine nilk (fun h => absurd h (of_decide_eq_false rfl)) ?_ | refine nilk (fun h => absurd h (List.cons_ne_nil _ _)) ?_ | refine nilk (fun h => ?_) ?_ | exact rfl | exact True.intro | refine leftk1 rfl ?_ | refine bytk8 rfl ?_ | refine bytk rfl ?_ | exact leftk0 rfl | refine eqk rfl ?_ | refine fLm rfl ?_ | refine fLk (by assumption) ?_ | refine fVk ?_ | refine fLVk ?_ | refine fWk ?_ | intro hl))
 all_goals conv => whnf
theorem cl_FIXED (ls : List Ar) (hq : OkQ ⟨ls, 0⟩) : ∃ v : GV, goodV v = true ∧ Ret Tryz.prog F_texts_Call [.str ⟨#[70, 73, 88, 69, 68]⟩, .row false (ls.map cA)] (.tup [eV v, .bool true]) := by
 have hlm : ((ls.map cA).length : Int) = ls.length := by rw [List.length_map]
 by_cases h1 : (1 : Int) ≤ ls.length
 rotate_left
 ·have d1 : decide (((ls.map cA).length : Nat) < (1 : Int)) = true := decide_eq_true (by omega)
  refine ⟨badS 2, goodV_bad 2, ?_⟩
  refine r_texts_Call rfl fun hw => ?_
  clear hw
  repeat' ((conv => whnf); (first | refine Bth.mk ?_ ?_ | refine csp_t (d1) ?_ | refine pickk0 ?_ | refine csp (fun h => ?_) (fun h => ?_) | refine cllo (fnd_FIXED) (fun _ => ?_) | refine cllo (value_Bad _) (fun _ => ?_) | (refine sda ?_ ?_; (focus (first | rfl | exact of_decide_eq_true rfl | (simp; done)))) | refine sda ?_ ?_ | refine conk rfl ?_ | refine ldk rfl ?_ | refine mapk (fun x hx => ?_) | exact ⟨rfl, rfl⟩ | refine nilk (fun h => absurd h (of_decide_eq_false rfl)) ?_ | refine nilk (fun h => absurd h (List.cons_ne_nil _ _)) ?_ | refine nilk (fun h => ?_) ?_ | exact rfl | exact True.intro | refine leftk1 rfl ?_ | refine bytk8 rfl ?_ | refine bytk rfl ?_ | exact leftk0 rfl | refine eqk rfl ?_ | refine fLm rfl ?_ | refine fLk (by assumption) ?_ | refine fVk ?_ | refine fLVk ?_ | refine fWk ?_ | intro hl))
  all_goals conv => whnf
 by_cases h2 : (ls.length : Int) ≤ 2
 rotate_left
 ·have d1 : decide (((ls.map cA).length : Nat) < (1 : Int)) = false := decide_eq_false (by omega)
  have d2 : decide (((ls.map cA).length : Nat) > (2 : Int)) = true := decide_eq_true (by omega)
  refine ⟨badS 2, goodV_bad 2, ?_⟩
  refine r_texts_Call rfl fun hw => ?_
  clear hw
  repeat' ((conv => whnf); (first | refine Bth.mk ?_ ?_ | refine csp_t (d2) ?_ | refine csp_f (d1) ?_ | refine pickk0 ?_ | refine csp (fun h => ?_) (fun h => ?_) | refine cllo (fnd_FIXED) (fun _ => ?_) | refine cllo (value_Bad _) (fun _ => ?_) | (refine sda ?_ ?_; (focus (first | rfl | exact of_decide_eq_true rfl | (simp; done)))) | refine sda ?_ ?_ | refine conk rfl ?_ | refine ldk rfl ?_ | refine mapk (fun x hx => ?_) | exact ⟨rfl, rfl⟩ | refine nilk (fun h => absurd h (of_decide_eq_false rfl)) ?_ | refine nilk (fun h => absurd h (List.cons_ne_nil _ _)) ?_ | refine nilk (fun h => ?_) ?_ | exact rfl | exact True.intro | refine leftk1 rfl ?_ | refine bytk8 rfl ?_ | refine bytk rfl ?_ | exact leftk0 rfl | refine eqk rfl ?_ | refine fLm rfl ?_ | refine fLk (by assumption) ?_ | refine fVk ?_ | refine fLVk ?_ | refine fWk ?_ | intro hl))
  all_goals conv => whnf
 have d1 : decide (((ls.map cA).length : Nat) < (1 : Int)) = false := decide_eq_false (by omega)
 have d2 : decide (((ls.map cA).length : Nat) > (2 : Int)) = false := decide_eq_false (by omega)
 obtain ⟨v, x, q', hv, hr⟩ := g_fixed ⟨ls, 0⟩ hq
 refine ⟨v, hv, ?_⟩
 refine r_texts_Call rfl fun hw => ?_
 clear hw
 repeat' ((conv => whnf); (first | refine Bth.mk ?_ ?_ | refine csp_f (d1) ?_ | refine csp_f (d2) ?_ | refine pickk0 ?_ | refine csp (fun h => ?_) (fun h => ?_) | refine cllo (fnd_FIXED) (fun _ => ?_) | refine clll (RetL.frame hr _ [1] rfl (by simp) rfl rfl) (fun _ _ => ?_) | (refine sda ?_ ?_; (focus (first | rfl | exact of_decide_eq_true rfl | (simp; done)))) | refine sda ?_ ?_ | refine conk rfl ?_ | refine ldk rfl ?_ | refine mapk (fun x hx => ?_) | exact ⟨rfl, rfl⟩ | refine nilk (fun h => absurd h (of_decide_eq_false rfl)) ?_ | refine nilk (fun h => absurd h (List.cons_ne_nil _ _)) ?_ | refine nilk (fun h => ?_) ?_ | exact rfl | exact True.intro | refine leftk1 rfl ?_ | refine bytk8 rfl ?_ | refine bytk rfl ?_ | exact leftk0 rfl | refine eqk rfl ?_ | refine fLm rfl ?_ | refine fLk (by assumption) ?_ | refine fVk ?_ | refine fLVk ?_ | refine fWk ?_ | intro hl))
 all_goals conv => whnf
theorem fnd_none (nm : ByteArray) (n0 : nm ≠ ⟨#[76, 69, 78]⟩) (n1 : nm ≠ ⟨#[85, 80, 80, 69, 82]⟩) (n2 : nm ≠ ⟨#[76, 79, 87, 69, 82]⟩) (n3 : nm ≠ ⟨#[80, 82, 79, 80, 69, 82]⟩) (n4 : nm ≠ ⟨#[84, 82, 73, 77]⟩) (n5 : nm ≠ ⟨#[82, 69, 86, 69, 82, 83, 69]⟩) (n6 : nm ≠ ⟨#[67, 79, 68, 69]⟩) (n7 : nm ≠ ⟨#[86, 65, 76, 85, 69]⟩) (n8 : nm ≠ ⟨#[84]⟩) (n9 : nm ≠ ⟨#[78]⟩) (n10 : nm ≠ ⟨#[67, 72, 65, 82]⟩) (n11 : nm ≠ ⟨#[76, 69, 70, 84]⟩) (n12 : nm ≠ ⟨#[82, 73, 71, 72, 84]⟩) (n13 : nm ≠ ⟨#[77, 73, 68]⟩) (n14 : nm ≠ ⟨#[82, 69, 80, 76, 65, 67, 69]⟩) (n15 : nm ≠ ⟨#[82, 69, 80, 84]⟩) (n16 : nm ≠ ⟨#[69, 88, 65, 67, 84]⟩) (n17 : nm ≠ ⟨#[70, 73, 78, 68]⟩) (n18 : nm ≠ ⟨#[83, 69, 65, 82, 67, 72]⟩) (n19 : nm ≠ ⟨#[83, 85, 66, 83, 84, 73, 84, 85, 84, 69]⟩) (n20 : nm ≠ ⟨#[67, 79, 78, 67, 65, 84]⟩) (n21 : nm ≠ ⟨#[84, 69, 88, 84, 74, 79, 73, 78]⟩) (n22 : nm ≠ ⟨#[70, 73, 88, 69, 68]⟩) : Ret Tryz.prog F_texts_find [.str nm] (.tup [.nilFn, .int .i64 0, .int .i64 0]) := by
 refine r_texts_find rfl fun hw => ?_
 clear hw
 repeat' ((conv => whnf); (first | refine Bth.mk ?_ ?_ | refine pickk0 ?_ | refine csp (fun h => ?_) (fun h => ?_) | (apply clqi; apply rq_texts_ends rfl) | (apply clqi; apply rq_texts_texted rfl) | (apply clqi; apply rq_texts_made rfl) | (apply clqi; apply rq_texts_finds rfl) | (apply clqi; apply rq_texts_kept rfl) | (refine sda ?_ ?_; (focus (first | rfl | exact of_decide_eq_true rfl | (simp; done)))) | refine sda ?_ ?_ | refine conk rfl ?_ | refine ldk rfl ?_ | refine mapk (fun x hx => ?_) | exact ⟨rfl, rfl⟩ | refine nilk (fun h => absurd h (of_decide_eq_false rfl)) ?_ | refine nilk (fun h => absurd h (List.cons_ne_nil _ _)) ?_ | refine nilk (fun h => ?_) ?_ | exact rfl | exact True.intro | refine leftk1 rfl ?_ | refine bytk8 rfl ?_ | refine bytk rfl ?_ | exact leftk0 rfl | refine eqk rfl ?_ | refine fLm rfl ?_ | refine fLk (by assumption) ?_ | refine fVk ?_ | refine fLVk ?_ | refine fWk ?_ | intro hl))
 all_goals first
  | exact absurd (of_decide_eq_true h) n0
  | exact absurd (of_decide_eq_true h) n1
  | exact absurd (of_decide_eq_true h) n2
  | exact absurd (of_decide_eq_true h) n3
  | exact absurd (of_decide_eq_true h) n4
  | exact absurd (of_decide_eq_true h) n5
  | exact absurd (of_decide_eq_true h) n6
  | exact absurd (of_decide_eq_true h) n7
  | exact absurd (of_decide_eq_true h) n8
  | exact absurd (of_decide_eq_true h) n9
  | exact absurd (of_decide_eq_true h) n10
  | exact absurd (of_decide_eq_true h) n11
  | exact absurd (of_decide_eq_true h) n12
  | exact absurd (of_decide_eq_true h) n13
  | exact absurd (of_decide_eq_true h) n14
  | exact absurd (of_decide_eq_true h) n15
  | exact absurd (of_decide_eq_true h) n16
  | exact absurd (of_decide_eq_true h) n17
  | exact absurd (of_decide_eq_true h) n18
  | exact absurd (of_decide_eq_true h) n19
  | exact absurd (of_decide_eq_true h) n20
  | exact absurd (of_decide_eq_true h) n21
  | exact absurd (of_decide_eq_true h) n22
  | skip
 all_goals conv => whnf
end Go.Proofs.YtcbknemdidehlaaGreatDoor
set_option maxRecDepth 100000
set_option linter.all false
namespace Go.Proofs.YtcbknemdidehlaaGreatDoor
open Ab R P Vl
def bkV (x : GV) : Nat := (1 + (1 + ((x.s.size + 1))) + 1)
def bkA (x : Ar) : Nat := (1 + (1 + (((x.l.map bkV).sum + 1) + (1))) + 1)
theorem bkV_eq (v : GV) : bkV v = v.s.size + 4 := by
 show 1 + (1 + (v.s.size + 1)) + 1 = _
 omega
theorem bkA_eq (a : Ar) : bkA a = (a.l.map bkV).sum + 5 := by
 show 1 + (1 + (((a.l.map bkV).sum + 1) + 1)) + 1 = _
 omega
theorem bk_sum (vs : List GV) : (vs.map bkV).sum = (vs.map (·.s.size)).sum + 4 * vs.length := by
 induction vs with
 | nil => simp
 | cons v vs ih =>
  have := bkV_eq v
  simp only [List.map_cons, List.sum_cons, List.length_cons, ih]
  omega
theorem lv_up (vs : List GV) : ∀ n : Int, 0 ≤ n → n + (vs.map (·.s.size)).sum ≤ 4611686018427387904 → n ≤ vs.foldl lightV n ∧ vs.foldl lightV n ≤ n + (vs.map (·.s.size)).sum := by
 induction vs with
 | nil => intro n h0 h; simp
 | cons v vs ih =>
  intro n h0 h
  simp only [List.map_cons, List.sum_cons] at h ⊢
  have hd : 0 ≤ ((v.s.size : Int).tdiv 50) ∧ ((v.s.size : Int).tdiv 50) ≤ v.s.size := by
   rw [Int.tdiv_eq_ediv_of_nonneg (by omega)]; omega
  have he : lightV n v = n + ((v.s.size : Int).tdiv 50) := by
   rw [lightV, w64 (n := (v.s.size : Int).tdiv 50) (by omega), w64 (by omega)]
  obtain ⟨g1, g2⟩ := ih (lightV n v) (by omega) (by omega)
  rw [List.foldl_cons]
  omega
theorem la_up (l : List Ar) : ∀ n : Int, 0 ≤ n → n + (l.map bkA).sum ≤ 4611686018427387904 → n + sumA l ≤ l.foldl lightA n := by
 induction l with
 | nil => intro n h0 h; simp [sumA]
 | cons a l ih =>
  intro n h0 h
  have hs : sumA (a :: l) = a.l.length + sumA l := by simp [sumA]
  simp only [List.map_cons, List.sum_cons] at h ⊢
  have hb := bk_sum a.l
  have hb2 := bkA_eq a
  have he : IntKind.i64.wrap (n + a.l.length) = n + a.l.length := w64 (by omega)
  obtain ⟨g1, g2⟩ := lv_up a.l (n + a.l.length) (by omega) (by omega)
  have hd : lightA n a = a.l.foldl lightV (n + a.l.length) := by rw [lightA, he]
  have := ih (lightA n a) (by omega) (by omega)
  rw [List.foldl_cons, hs]
  omega
theorem light_okq {l : List Ar} (hb : (l.map bkA).sum ≤ 1048576) (h : lightS l = true) : OkQ ⟨l, 0⟩ := by
 have h2 := of_decide_eq_true h
 have hl : l.length ≤ (l.map bkA).sum := by
  clear hb h h2
  induction l with
  | nil => simp
  | cons a l ih =>
   have := bkA_eq a
   simp only [List.map_cons, List.sum_cons, List.length_cons]
   omega
 have := la_up l l.length (by omega) (by omega)
 exact ⟨(by decide : (0 : Int) ≤ 0 ∧ (0 : Int) ≤ 8), by show sumA l ≤ 400; omega, by show l.length ≤ 400; omega⟩
def tnames : List ByteArray := [⟨#[76, 69, 78]⟩, ⟨#[85, 80, 80, 69, 82]⟩, ⟨#[76, 79, 87, 69, 82]⟩, ⟨#[80, 82, 79, 80, 69, 82]⟩, ⟨#[84, 82, 73, 77]⟩, ⟨#[82, 69, 86, 69, 82, 83, 69]⟩, ⟨#[67, 79, 68, 69]⟩, ⟨#[86, 65, 76, 85, 69]⟩, ⟨#[84]⟩, ⟨#[78]⟩, ⟨#[67, 72, 65, 82]⟩, ⟨#[76, 69, 70, 84]⟩, ⟨#[82, 73, 71, 72, 84]⟩, ⟨#[77, 73, 68]⟩, ⟨#[82, 69, 80, 76, 65, 67, 69]⟩, ⟨#[82, 69, 80, 84]⟩, ⟨#[69, 88, 65, 67, 84]⟩, ⟨#[70, 73, 78, 68]⟩, ⟨#[83, 69, 65, 82, 67, 72]⟩, ⟨#[83, 85, 66, 83, 84, 73, 84, 85, 84, 69]⟩, ⟨#[67, 79, 78, 67, 65, 84]⟩, ⟨#[84, 69, 88, 84, 74, 79, 73, 78]⟩, ⟨#[70, 73, 88, 69, 68]⟩]
abbrev KnT (nm : ByteArray) (l : List Ar) : Prop := ∃ v, goodV v = true ∧ Ret Tryz.prog F_texts_Call [.str nm, .row false (l.map cA)] (.tup [eV v, .bool true])
theorem tcall_known (nm : ByteArray) (hn : nm ∈ tnames) (l : List Ar) (hq : OkQ ⟨l, 0⟩) : KnT nm l := by
 simp only [tnames, List.mem_cons, List.not_mem_nil, or_false] at hn
 rcases hn with rfl | rfl | rfl | rfl | rfl | rfl | rfl | rfl | rfl | rfl | rfl | rfl | rfl | rfl | rfl | rfl | rfl | rfl | rfl | rfl | rfl | rfl | rfl
 ·exact cl_LEN l hq
 ·exact cl_UPPER l hq
 ·exact cl_LOWER l hq
 ·exact cl_PROPER l hq
 ·exact cl_TRIM l hq
 ·exact cl_REVERSE l hq
 ·exact cl_CODE l hq
 ·exact cl_VALUE l hq
 ·exact cl_T l hq
 ·exact cl_N l hq
 ·exact cl_CHAR l hq
 ·exact cl_LEFT l hq
 ·exact cl_RIGHT l hq
 ·exact cl_MID l hq
 ·exact cl_REPLACE l hq
 ·exact cl_REPT l hq
 ·exact cl_EXACT l hq
 ·exact cl_FIND l hq
 ·exact cl_SEARCH l hq
 ·exact cl_SUBSTITUTE l hq
 ·exact cl_CONCAT l hq
 ·exact cl_TEXTJOIN l hq
 ·exact cl_FIXED l hq
theorem tcall_none (nm : ByteArray) (hn : nm ∉ tnames) (l : List (List V)) : Ret Tryz.prog F_texts_Call [.str nm, .row false l] (.tup [eV ⟨0, 0, e0⟩, .bool false]) := by
 simp only [tnames, List.mem_cons, List.not_mem_nil, or_false, not_or] at hn
 obtain ⟨n0, n1, n2, n3, n4, n5, n6, n7, n8, n9, n10, n11, n12, n13, n14, n15, n16, n17, n18, n19, n20, n21, n22⟩ := hn
 have hf := fnd_none nm n0 n1 n2 n3 n4 n5 n6 n7 n8 n9 n10 n11 n12 n13 n14 n15 n16 n17 n18 n19 n20 n21 n22
 clear n0 n1 n2 n3 n4 n5 n6 n7 n8 n9 n10 n11 n12 n13 n14 n15 n16 n17 n18 n19 n20 n21 n22
 refine r_texts_Call rfl fun hw => ?_
 clear hw
 repeat' ((conv => whnf); (first | refine Bth.mk ?_ ?_ | refine pickk0 ?_ | refine csp (fun h => ?_) (fun h => ?_) | refine cllo (hf) (fun _ => ?_) | (refine sda ?_ ?_; (focus (first | rfl | exact of_decide_eq_true rfl | (simp; done)))) | refine sda ?_ ?_ | refine conk rfl ?_ | refine ldk rfl ?_ | refine mapk (fun x hx => ?_) | exact ⟨rfl, rfl⟩ | refine nilk (fun h => absurd h (of_decide_eq_false rfl)) ?_ | refine nilk (fun h => absurd h (List.cons_ne_nil _ _)) ?_ | refine nilk (fun h => ?_) ?_ | exact rfl | exact True.intro | refine leftk1 rfl ?_ | refine bytk8 rfl ?_ | refine bytk rfl ?_ | exact leftk0 rfl | refine eqk rfl ?_ | refine fLm rfl ?_ | refine fLk (by assumption) ?_ | refine fVk ?_ | refine fLVk ?_ | refine fWk ?_ | intro hl))
 all_goals conv => whnf
theorem textsFaults_ret (nm : ByteArray) (l : List Ar) (h1 : nm.size ≤ 140737488351232) (h2 : l.length * 48 ≤ 140737488351232 ∧ l.length ≤ 9223372036854775807 ∧ ∀ x ∈ l, (IntKind.i64.wrap x.rows = x.rows) ∧ ((IntKind.i64.wrap x.cols = x.cols) ∧ ((x.l.length * 32 ≤ 140737488351232 ∧ x.l.length ≤ 9223372036854775807 ∧ ∀ y ∈ x.l, ((IntKind.i64.wrap y.k = y.k) ∧ ((IntKind.i64.wrap y.n = y.n) ∧ (y.s.size ≤ 140737488351232)))) ∧ True))) (hbk : (nm.size + 1) + ((l.map bkA).sum + 1) ≤ 1048576) : Ret Tryz.prog F_octavolaw18_TextsFaults [.str nm, .row false (l.map cA)] (.bool true) := by
 have hlt := law_light18 l
 by_cases hl : lightS l = true
 ·have hq := light_okq (by omega) hl
  rw [hl] at hlt
  by_cases hn : nm ∈ tnames
  ·obtain ⟨v, hv, hc⟩ := tcall_known nm hn l hq
   have hg := ref06_Good v
   rw [hv] at hg
   refine r_octavolaw18_TextsFaults rfl fun hw => ?_
   clear hw
   repeat' ((conv => whnf); (first | refine csp (fun h => ?_) (fun h => ?_) | refine cllo (hlt) (fun _ => ?_) | refine cllo (hc) (fun _ => ?_) | refine cllo (hg) (fun _ => ?_) | refine cllo (l18_lives) (fun _ => ?_) | (refine sda ?_ ?_; (focus (first | rfl | (simp; done)))) | refine sda ?_ ?_ | refine conk rfl ?_ | refine ldk rfl ?_ | refine mapk (fun x hx => ?_) | exact ⟨rfl, rfl⟩ | refine nilk (fun h => ?_) ?_ | intro hl))
   all_goals conv => whnf
  ·have hc := tcall_none nm hn (l.map cA)
   refine r_octavolaw18_TextsFaults rfl fun hw => ?_
   clear hw
   repeat' ((conv => whnf); (first | refine csp (fun h => ?_) (fun h => ?_) | refine cllo (hlt) (fun _ => ?_) | refine cllo (hc) (fun _ => ?_) | refine cllo (l18_lives) (fun _ => ?_) | (refine sda ?_ ?_; (focus (first | rfl | (simp; done)))) | refine sda ?_ ?_ | refine conk rfl ?_ | refine ldk rfl ?_ | refine mapk (fun x hx => ?_) | exact ⟨rfl, rfl⟩ | refine nilk (fun h => ?_) ?_ | intro hl))
   all_goals conv => whnf
 ·rw [Bool.eq_false_iff.2 hl] at hlt
  refine r_octavolaw18_TextsFaults rfl fun hw => ?_
  clear hw
  repeat' ((conv => whnf); (first | refine csp (fun h => ?_) (fun h => ?_) | refine cllo (hlt) (fun _ => ?_) | refine cllo (l18_lives) (fun _ => ?_) | (refine sda ?_ ?_; (focus (first | rfl | (simp; done)))) | refine sda ?_ ?_ | refine conk rfl ?_ | refine ldk rfl ?_ | refine mapk (fun x hx => ?_) | exact ⟨rfl, rfl⟩ | refine nilk (fun h => ?_) ?_ | intro hl))
  all_goals conv => whnf
end Go.Proofs.YtcbknemdidehlaaGreatDoor
