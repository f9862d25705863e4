/- What the functions answer, and the law. -/
import Derived.Test.YtlognebkifjfbaaR
/- Values and areas as the program holds them; what the functions of layers 5, 6 and 17 answer of them. -/
set_option maxRecDepth 100000
set_option linter.all false
namespace Go.Proofs.Ytlognebkifjfbaa
open Ab R
theorem cll {P : Program} {g : FuncId} {args : List V} {r : V} {K : V → Prop} (h : Ret P g args r) (k : wfV 8 r → K r) : ∃ r, Ret P g args r ∧ (wfV 8 r → K r) := ⟨r, h, k⟩
theorem cllo {P : Program} {g : FuncId} {args : List V} {r : V} {K : V → Prop} {B : Prop} (h : Ret P g args r) (k : wfV 8 r → K r) : (∃ r, Ret P g args r ∧ (wfV 8 r → K r)) ∨ B := .inl ⟨r, h, k⟩
theorem clll {P : Program} {g : FuncId} {args : List V} {s s' : List O} {r : V} {K : V → List O → Prop} {A C : Prop} (h : RetL P g args s r s') (k : wfV 8 r → wfL s' → K r s') : A ∨ (∃ r s', RetL P g args s r s' ∧ (wfV 8 r → wfL s' → K r s')) ∨ C := .inr (.inl ⟨r, s', h, k⟩)
theorem clq {P : Program} {g : FuncId} {args : List V} {s : List O} {Q : V → List O → Prop} {K : V → List O → Prop} {A C : Prop} (h : RetQ P g args s Q) (k : ∀ r s', Q r s' → wfV 8 r → wfL s' → K r s') : A ∨ C ∨ (∃ Q, RetQ P g args s Q ∧ ∀ r s', Q r s' → wfV 8 r → wfL s' → K r s') := .inr (.inr ⟨Q, h, k⟩)
theorem fLm {α : Type} {s : List O} {l : List α} {f : α → List Nat} {K : List O → Prop} (h : l.flatMap f = []) (k : K s) : fL fO (Ab.mark s (l.flatMap f)) K := by rw [fL_eq fO_eq, h]; exact k
theorem fVk {n : Nat} {v : V} {K : V → Prop} (h : K v) : fV n v K := by rw [fV_eq]; exact h
theorem fLVk {n : Nat} {l : List V} {K : List V → Prop} (h : K l) : fL (fV n) l K := by rw [fL_eq (fV_eq n)]; exact h
theorem fWk {n : Nat} {v : V} {K : V → Prop} (h : K v) : fW n v K := by rw [fW_eq]; exact h
theorem pickk : ∀ {cs : List Nat} {n : Nat} {K : Nat → Prop}, K n → pickN cs n K
  | [], _, _, h => h
  | c :: cs, n, K, h => by
    simp only [pickN]
    cases q : Nat.beq c n
    · exact pickk h
    · rw [Nat.eq_of_beq_eq_true q]; exact h
theorem pickk0 {cs : List Nat} {c n : Nat} {K : Nat → Prop} (h : K n) : pickN (c :: cs) n K := pickk h
/-- A state that has a name. -/
structure Sv (s : List O) : Prop where
theorem fLk {s : List O} {K : List O → Prop} (_ : Sv s) (h : K s) : fL fO s K := by rw [fL_eq fO_eq]; exact h
theorem nilk {p A B : Prop} (a : p → A) (b : B) : (p → A) ∧ B := ⟨a, b⟩
theorem sda {p q : Prop} (h : p) (k : q) : Sd p ∧ q := ⟨⟨h⟩, k⟩
theorem conk {els : List (List V)} {i : Nat} {c : List V} {K : List V → Prop} (h : els[i]? = some c) (k : K c) : ∀ cs, els[i]? = some cs → K cs := fun cs hcs => by
  rw [h] at hcs
  rw [← Option.some.inj hcs]
  exact k
theorem ldk {o : Option V} {w : V} {K : V → Prop} (h : o = some w) (k : K w) : ∀ v, o = some v → K v := fun v hv => by
  rw [h] at hv
  rw [← Option.some.inj hv]
  exact k
theorem mapk {α : Type} {l : List α} {f : α → List V} {i : Nat} {K : List V → Prop} (h : ∀ x, l[i]? = some x → K (f x)) : ∀ cs, (l.map f)[i]? = some cs → K cs := fun cs hcs => by
  rw [List.getElem?_map] at hcs
  cases hx : l[i]? with
  | none => rw [hx] at hcs; cases hcs
  | some x => rw [hx] at hcs; obtain rfl := Option.some.inj hcs; exact h x hx
theorem eqk {α : Type} {o : Option α} {w : α} {K : α → Prop} (h : o = some w) (k : K w) : ∀ v, o = some v → K v := fun v hv => by
  rw [h] at hv
  rw [← Option.some.inj hv]
  exact k
theorem leftk1 {es : List (Nat × V × V)} {seen : List Nat} {a : Nat × V × V} {K : Nat × V × V → Prop} (h : leftM es seen = [a]) (k : K a) : ∀ y, y ∈ leftM es seen → K y := fun y hy => by
  rw [h, List.mem_singleton] at hy
  rw [hy]
  exact k
theorem leftk0 {es : List (Nat × V × V)} {seen : List Nat} {K : Nat × V × V → Prop} (h : leftM es seen = []) : ∀ y, y ∈ leftM es seen → K y := fun y hy => by
  rw [h] at hy
  cases hy
theorem bytk {els : List (List V)} {l : List Int} {K : List Int → Prop} (h : bytesV els = some l) (k : K l) : (∀ l, bytesV els = some l → K l) ∧ Sd ((bytesV els).isSome = true) := by
  refine ⟨fun l' hl => ?_, ⟨by rw [h]; rfl⟩⟩
  rw [h] at hl
  rw [← Option.some.inj hl]
  exact k
theorem bytk8 {els : List (List V)} {c : List UInt8} {K : List Int → Prop} (h : els = c.map fun c => [V.int .u8 c.toNat]) (k : K (c.map fun c => (c.toNat : Int))) : (∀ l, bytesV els = some l → K l) ∧ Sd ((bytesV els).isSome = true) :=
  bytk (h ▸ bytesV_map (fun c : UInt8 => (c.toNat : Int)) c) k
theorem w64 {n : Int} (h : -9223372036854775808 ≤ n ∧ n ≤ 9223372036854775807) : IntKind.i64.wrap n = n := (wrap_iff .i64 n).2 (by simp only [kLo, kHi]; omega)
end Go.Proofs.Ytlognebkifjfbaa

/- Files: names, and worlds of them. -/
set_option maxRecDepth 100000
set_option linter.all false
namespace Go.Proofs.Ytlognebkifjfbaa
open Ab R
def okB (c : UInt8) : Bool := decide (33 ≤ c.toNat) && decide (c.toNat ≤ 126)
/-- Which names are good. -/
def gnm (s : ByteArray) : Bool := s.data.toList.all okB && (decide (1 ≤ s.size) && decide (s.size ≤ 24))
theorem gnm_no {s : ByteArray} {i : Nat} {c : UInt8} (h : s.data.toList[i]? = some c) (hc : okB c = false) : gnm s = false := by
  unfold gnm
  have : s.data.toList.all okB = false := by
    rw [List.all_eq_false]
    exact ⟨c, List.mem_of_getElem? h, by simp [hc]⟩
  rw [this]
  rfl
theorem size_pos (s : ByteArray) : (s = ⟨#[]⟩) = (s.size = 0) := by
  rw [eq_iff_iff]
  constructor
  · rintro rfl; rfl
  · intro h
    cases s with
    | mk d => congr 1; exact Array.eq_empty_of_size_eq_zero h
theorem files_Good (s : ByteArray) (hs : s.size ≤ 140737488355327) : Ret Try.prog F_files_Good [.str s] (.bool (gnm s)) := by
  refine r_files_Good rfl fun hw => ?_
  clear hw
  repeat' ((conv => whnf); (first | refine csp (fun h => ?_) (fun h => ?_) | (refine sda ?_ ?_; (focus (first | rfl | (simp; done)))) | refine sda ?_ ?_ | refine conk rfl ?_ | refine ldk rfl ?_ | refine mapk (fun x hx => ?_) | exact ⟨rfl, rfl⟩ | refine nilk (fun h => ?_) ?_ | intro hl))
  · exact hs
  have hlen : s.data.toList.length = s.size := Array.length_toList
  rw [← hlen]
  refine .inl ⟨Nat, [0, 6, 7, 8], [0], fun i => [(0, .str s), (6, .sl 0 0 s.data.toList.length), (7, .int .i64 s.data.toList.length), (8, .int .i64 i)], fun _ => [.arr true 1 (s.data.toList.map fun c => [.int .u8 c.toNat])], fun i => i ≤ s.data.toList.length ∧ (s.data.toList.take i).all okB = true, fun i => s.data.toList.length - i, rfl, ?_, fun i hi => ?_⟩
  · exact ⟨0, rfl, rfl, Nat.zero_le _, rfl⟩
  · obtain ⟨hi, h2⟩ := hi
    repeat' ((conv => whnf); (first | refine csp (fun h => ?_) (fun h => ?_) | (refine sda ?_ ?_; (focus (first | rfl | (simp; done)))) | refine sda ?_ ?_ | refine conk rfl ?_ | refine ldk rfl ?_ | refine mapk (fun x hx => ?_) | exact ⟨rfl, rfl⟩ | refine nilk (fun h => ?_) ?_ | intro hl))
    all_goals conv => whnf
    all_goals try simp only [decide_eq_true_eq, decide_eq_false_iff_not, Bool.not_eq_true', Bool.not_eq_false', List.length_map, Int.not_lt, Int.not_le, Decidable.not_not, gt_iff_lt, ge_iff_le] at *
    · omega
    · simp; omega
    · rw [gnm_no (i := i) (c := x) (by simpa using hx) (by simp [okB]; omega)]
    · rw [gnm_no (i := i) (c := x) (by simpa using hx) (by simp [okB]; omega)]
    · refine ⟨i + 1, ?_, by trivial, ⟨by have := (List.getElem?_eq_some_iff.1 hx).1; omega, ?_⟩, by have := (List.getElem?_eq_some_iff.1 hx).1; omega⟩
      · rw [w64 (n := (i : Int) + 1) (by omega)]
        rfl
      · rw [List.take_add_one, show s.data.toList[i]? = some x by simpa using hx]
        simp [h2, okB]
        omega
    · have h1 : s.data.toList.take i = s.data.toList := List.take_of_length_le (by omega)
      rw [h1] at h2
      rw [size_pos] at h
      congr 1
      simp only [gnm, h2, Bool.true_and]
      have : decide (1 ≤ s.size) = true := decide_eq_true (by omega)
      rw [this, Bool.true_and]
      rw [Bool.eq_iff_iff]
      simp
      omega
    · rw [size_pos] at h
      congr 1
      simp only [gnm]
      rw [h]
      simp
end Go.Proofs.Ytlognebkifjfbaa

/- Files: the examples. -/
set_option maxRecDepth 100000
set_option linter.all false
namespace Go.Proofs.Ytlognebkifjfbaa
open Ab R
set_option maxHeartbeats 4000000 in
theorem files_lives : Ret Try.prog F_octavolaw01_lives [] (.bool true) := by
  refine r_octavolaw01_lives rfl fun hw => ?_
  clear hw
  repeat' ((conv => whnf); (first | refine pickk0 ?_ | refine csp (fun h => ?_) (fun h => ?_) | refine cllo (files_Good _ (by decide)) (fun _ => ?_) | refine cll (files_Good _ (by decide)) (fun _ => ?_) | (apply clll; apply rl_files_New rfl) | (apply clll; apply rl_files_World_Create rfl) | (apply clll; apply rl_files_World_Append rfl) | (apply clll; apply rl_files_World_Sync rfl) | (apply clll; apply rl_files_World_Cut rfl) | (apply clll; apply rl_files_World_Power rfl) | (apply clll; apply rl_files_World_Read rfl) | (apply clll; apply rl_files_World_Ops rfl) | (apply clll; apply rl_files_World_may rfl) | (apply clll; apply rl_files_World_made rfl) | (apply clll; apply rl_files_World_there rfl) | (apply clll; apply rl_files_World_operation rfl) | (apply clll; apply rl_files_World_Create_1 rfl) | (apply clll; apply rl_files_World_Append_1 rfl) | (apply clll; apply rl_files_World_Sync_1 rfl) | (apply clll; apply rl_files_World_fail rfl) | (apply clll; apply rl_slices_Clone_byte_byte rfl) | refine Or.inr (Or.inl ⟨9, ?_⟩) | (refine sda ?_ ?_; (focus (first | rfl | exact of_decide_eq_true rfl | (simp; done)))) | refine sda ?_ ?_ | refine conk rfl ?_ | refine ldk rfl ?_ | refine mapk (fun x hx => ?_) | exact ⟨rfl, rfl⟩ | refine nilk (fun h => absurd h (of_decide_eq_false rfl)) ?_ | refine nilk (fun h => absurd h (List.cons_ne_nil _ _)) ?_ | refine nilk (fun h => ?_) ?_ | exact rfl | refine leftk1 rfl ?_ | refine bytk8 rfl ?_ | refine bytk rfl ?_ | exact leftk0 rfl | refine eqk rfl ?_ | refine fLm rfl ?_ | refine fLk (by assumption) ?_ | refine fVk ?_ | refine fLVk ?_ | refine fWk ?_ | intro hl))
end Go.Proofs.Ytlognebkifjfbaa

/- FilesNone. -/
set_option maxRecDepth 100000
set_option linter.all false
namespace Go.Proofs.Ytlognebkifjfbaa
open Ab R
abbrev bV (l : List Int) : List (List V) := l.map fun n => [.int .u8 n]
theorem ref01_Same_t (e1 e2 : List (List V)) (l : List Int) (h1 : bytesV e1 = some l) (h2 : bytesV e2 = some l) : Ret Try.prog F_octavoref01_Same [.row false e1, .row false e2] (.bool true) := by
  refine r_octavoref01_Same rfl fun hw => ?_
  clear hw
  repeat' ((conv => whnf); (first | refine pickk0 ?_ | refine csp (fun h => ?_) (fun h => ?_) | (refine sda ?_ ?_; (focus (first | rfl | exact of_decide_eq_true rfl | (simp; done)))) | refine sda ?_ ?_ | refine conk rfl ?_ | refine ldk rfl ?_ | refine mapk (fun x hx => ?_) | exact ⟨rfl, rfl⟩ | refine nilk (fun h => absurd h (of_decide_eq_false rfl)) ?_ | refine nilk (fun h => absurd h (List.cons_ne_nil _ _)) ?_ | refine nilk (fun h => ?_) ?_ | exact rfl | refine leftk1 rfl ?_ | refine bytk8 rfl ?_ | refine bytk rfl ?_ | exact leftk0 rfl | refine eqk rfl ?_ | refine fLm rfl ?_ | refine fLk (by assumption) ?_ | refine fVk ?_ | refine fLVk ?_ | refine fWk ?_ | intro hl))
  refine bytk h1 ?_
  repeat' ((conv => whnf); (first | refine pickk0 ?_ | refine csp (fun h => ?_) (fun h => ?_) | (refine sda ?_ ?_; (focus (first | rfl | exact of_decide_eq_true rfl | (simp; done)))) | refine sda ?_ ?_ | refine conk rfl ?_ | refine ldk rfl ?_ | refine mapk (fun x hx => ?_) | exact ⟨rfl, rfl⟩ | refine nilk (fun h => absurd h (of_decide_eq_false rfl)) ?_ | refine nilk (fun h => absurd h (List.cons_ne_nil _ _)) ?_ | refine nilk (fun h => ?_) ?_ | exact rfl | refine leftk1 rfl ?_ | refine bytk8 rfl ?_ | refine bytk rfl ?_ | exact leftk0 rfl | refine eqk rfl ?_ | refine fLm rfl ?_ | refine fLk (by assumption) ?_ | refine fVk ?_ | refine fLVk ?_ | refine fWk ?_ | intro hl))
  refine bytk h2 ?_
  repeat' ((conv => whnf); (first | refine pickk0 ?_ | refine csp (fun h => ?_) (fun h => ?_) | (refine sda ?_ ?_; (focus (first | rfl | exact of_decide_eq_true rfl | (simp; done)))) | refine sda ?_ ?_ | refine conk rfl ?_ | refine ldk rfl ?_ | refine mapk (fun x hx => ?_) | exact ⟨rfl, rfl⟩ | refine nilk (fun h => absurd h (of_decide_eq_false rfl)) ?_ | refine nilk (fun h => absurd h (List.cons_ne_nil _ _)) ?_ | refine nilk (fun h => ?_) ?_ | exact rfl | refine leftk1 rfl ?_ | refine bytk8 rfl ?_ | refine bytk rfl ?_ | exact leftk0 rfl | refine eqk rfl ?_ | refine fLm rfl ?_ | refine fLk (by assumption) ?_ | refine fVk ?_ | refine fLVk ?_ | refine fWk ?_ | intro hl))
  all_goals conv => whnf
  all_goals simp
theorem bytesV_id (l : List Int) : bytesV (bV l) = some l := by
  have := bytesV_map (fun n : Int => n) l
  rwa [List.map_id'] at this
/-- Facts about bytes as the walks spell them. -/
theorem bV_take (l : List Int) : List.take (([] : List (List V)).length + (bV l).length) (List.drop 0 ([] ++ bV l)) = bV l := by
  rw [List.nil_append, List.drop_zero, List.length_nil, Nat.zero_add, List.take_length]
theorem bV_ne {l : List Int} (h : l ≠ []) : (bV l).isEmpty = false := by
  cases l with
  | nil => exact absurd rfl h
  | cons a l => rfl
theorem bV_one (l : List Int) : ∀ e ∈ bV l, e.length = 1 := fun e he => by obtain ⟨x, _, rfl⟩ := List.mem_map.1 he; rfl
theorem bV_few {l : List Int} (h : l.length ≤ 1048576) : (([] : List (List V)).length + (bV l).length) * 2 ≤ 140737488355327 := by
  rw [List.length_map, List.length_nil]
  omega
end Go.Proofs.Ytlognebkifjfbaa

/- Worlds of files in memory. -/
set_option maxRecDepth 100000
set_option linter.all false
namespace Go.Proofs.Ytlognebkifjfbaa
open Ab R
/-- A function that only reads. -/
abbrev Rd (P : Program) (g : FuncId) (args : List V) (s : List O) (r : V) : Prop := RetQ P g args s fun r' s' => r' = r ∧ s' = s
theorem clrd {P : Program} {g : FuncId} {args : List V} {s : List O} {r : V} {K : V → List O → Prop} {A C : Prop} (h : Rd P g args s r) (k : wfV 8 r → wfL s → K r s) : A ∨ C ∨ (∃ Q, RetQ P g args s Q ∧ ∀ r s', Q r s' → wfV 8 r → wfL s' → K r s') :=
  .inr (.inr ⟨_, h, fun r' s' q => by obtain ⟨rfl, rfl⟩ := q; exact k⟩)
/-- What is there stays. -/
def Ext (s s1 : List O) : Prop := ∀ i o, at? s i = some o → at? s1 i = some o
theorem Ext.refl (s : List O) : Ext s s := fun _ _ h => h
theorem Ext.trans {a b c : List O} (h : Ext a b) (k : Ext b c) : Ext a c := fun i o x => k i o (h i o x)
theorem at_new (s : List O) (o : O) : at? s s.length = none ∧ at? (s ++ [o]) s.length = some o ∧ Ext s (s ++ [o]) := by
  refine ⟨by rw [at?_eq]; simp, by rw [at?_eq]; simp, fun i p h => ?_⟩
  rw [at?_eq] at h ⊢
  rw [List.getElem?_append_left (List.getElem?_eq_some_iff.1 h).1]
  exact h
theorem fLnew {s : List O} {o : O} {K : List O → Prop} (h : ∀ s1, Ext s s1 → at? s s.length = none → at? s1 s.length = some o → Sv s1 → K s1) : fL fO (s ++ [o]) K := by
  rw [fL_eq fO_eq]
  exact h _ (at_new s o).2.2 (at_new s o).1 (at_new s o).2.1 ⟨⟩
theorem at_set {s : List O} {i : Nat} {o0 : O} (o : O) (h : at? s i = some o0) : at? (setAt s i o) i = some o ∧ ∀ j, j ≠ i → at? (setAt s i o) j = at? s j := by
  rw [at?_eq] at h
  have hlt := (List.getElem?_eq_some_iff.1 h).1
  refine ⟨by rw [at?_eq, setAt_eq]; simp [hlt], fun j hj => ?_⟩
  rw [at?_eq, at?_eq, setAt_eq, List.getElem?_set_ne (fun q => hj q.symm)]
theorem fLset {s : List O} {i : Nat} {o o0 : O} {K : List O → Prop} (h0 : at? s i = some o0) (h : ∀ s1, at? s1 i = some o → (∀ j, j ≠ i → at? s1 j = at? s j) → Sv s1 → K s1) : fL fO (setAt s i o) K := by
  rw [fL_eq fO_eq]
  exact h _ (at_set o h0).1 (at_set o h0).2 ⟨⟩
/-- A file's bytes in memory: nothing, or a row of the world's own. -/
def cell (a : Nat) : List Int → V
  | [] => .row true []
  | n :: l => .sl a 0 (l.length + 1)
def Holds (s : List O) (a : Nat) (l : List Int) : Prop := l ≠ [] → at? s a = some (.arr true 1 (bV l))
structure En where
  born : Nat
  nm : ByteArray
  p : Nat
  a : Nat
  l : List Int
  sy : Int
abbrev En.v (e : En) : Nat × V × V := (e.born, .str e.nm, .ptr e.p 0)
structure Wd where
  off : Bool
  cut : Int
  keep : Int
  ops : Int
  wr : Int
  ck : Nat
  es : List En
abbrev Wd.box (W : Wd) (mi : Nat) : O := .box true [.map mi, .bool W.off, .int .i64 W.cut, .int .i64 W.keep, .int .i64 W.ops, .int .i64 W.wr]
section
variable {s : List O} {wi mi : Nat} {W : Wd}
theorem w_made (hw : at? s wi = some (W.box mi)) : Rd Try.prog F_files_World_made [.ptr wi 0] s (.bool true) := by
  refine rq_files_World_made rfl fun _ _ => ?_
  have sv : Sv s := ⟨⟩
  repeat' ((conv => whnf); (first | (rw [hw]) | refine pickk0 ?_ | refine csp (fun h => ?_) (fun h => ?_) | (refine sda ?_ ?_; (focus (first | rfl | exact of_decide_eq_true rfl | (simp; done)))) | refine sda ?_ ?_ | refine conk rfl ?_ | refine ldk rfl ?_ | refine mapk (fun x hx => ?_) | exact ⟨rfl, rfl⟩ | refine nilk (fun h => absurd h (of_decide_eq_false rfl)) ?_ | refine nilk (fun h => absurd h (List.cons_ne_nil _ _)) ?_ | refine nilk (fun h => ?_) ?_ | exact rfl | refine leftk1 rfl ?_ | refine bytk8 rfl ?_ | refine bytk rfl ?_ | exact leftk0 rfl | refine eqk rfl ?_ | refine fLm rfl ?_ | refine fLk (by assumption) ?_ | refine fVk ?_ | refine fLVk ?_ | refine fWk ?_ | intro hl))
theorem w_may1 (hw : at? s wi = some (W.box mi)) (n : ByteArray) (hn : n.size ≤ 140737488355327) : Rd Try.prog F_files_World_may [.ptr wi 0, .row true [[.str n]]] s (.int .i64 (if W.off then 13 else if gnm n then 0 else 8)) := by
  refine rq_files_World_may rfl fun _ _ => ?_
  have sv : Sv s := ⟨⟩
  repeat' ((conv => whnf); (first | (rw [hw]) | refine pickk0 ?_ | refine csp (fun h => ?_) (fun h => ?_) | refine clrd (w_made hw) (fun _ _ => ?_) | refine cllo (files_Good n hn) (fun _ => ?_) | refine cll (files_Good n hn) (fun _ => ?_) | refine Or.inr (Or.inl ⟨3, ?_⟩) | (refine sda ?_ ?_; (focus (first | rfl | exact of_decide_eq_true rfl | (simp; done)))) | refine sda ?_ ?_ | refine conk rfl ?_ | refine ldk rfl ?_ | refine mapk (fun x hx => ?_) | exact ⟨rfl, rfl⟩ | refine nilk (fun h => absurd h (of_decide_eq_false rfl)) ?_ | refine nilk (fun h => absurd h (List.cons_ne_nil _ _)) ?_ | refine nilk (fun h => ?_) ?_ | exact rfl | refine leftk1 rfl ?_ | refine bytk8 rfl ?_ | refine bytk rfl ?_ | exact leftk0 rfl | refine eqk rfl ?_ | refine fLm rfl ?_ | refine fLk (by assumption) ?_ | refine fVk ?_ | refine fLVk ?_ | refine fWk ?_ | intro hl))
  all_goals conv => whnf
  all_goals exact ⟨by simp_all, rfl⟩
/-- A name among entries. -/
def fnd (es : List En) (n : ByteArray) : Option En := es.find? fun e => decide (n = e.nm)
theorem findW {P : Program} {t : TypeId} (ht : P.underlying t = some .string) (n : ByteArray) {K : Option (Nat × Nat × V × V) → Prop} : ∀ (es : List En) (i : Nat), (∀ j e, es[j]? = some e → n = e.nm → fnd es n = some e → K (some (i + j, e.v))) → (fnd es n = none → K none) → findK P t (.str n) (es.map En.v) i K
  | [], i, _, h0 => h0 rfl
  | e :: es, i, h1, h0 => by
    simp only [List.map_cons, findK, eqLeaf, ht]
    cases q : decide (n = e.nm) with
    | true =>
      exact h1 0 e rfl (of_decide_eq_true q) (by simp only [fnd, List.find?_cons, q])
    | false =>
      have hf : fnd (e :: es) n = fnd es n := by simp only [fnd, List.find?_cons, q]
      refine findW ht n es (i + 1) (fun j x hj hn hx => ?_) (fun hn => h0 (hf.trans hn))
      have := h1 (j + 1) x (by simpa using hj) hn (hf.trans hx)
      rwa [show i + 1 + j = i + (j + 1) by omega]
theorem w_there (hw : at? s wi = some (W.box mi)) (hm : at? s mi = some (.map W.ck (W.es.map En.v))) (n : ByteArray) : Rd Try.prog F_files_World_there [.ptr wi 0, .str n] s (match fnd W.es n with | some e => .tup [.ptr e.p 0, .int .i64 0] | none => .tup [.nilPtr, .int .i64 6]) := by
  refine rq_files_World_there rfl fun _ _ => ?_
  have sv : Sv s := ⟨⟩
  repeat' ((conv => whnf); (first | (rw [hw]) | (rw [hm]) | refine pickk0 ?_ | refine csp (fun h => ?_) (fun h => ?_) | (refine sda ?_ ?_; (focus (first | rfl | exact of_decide_eq_true rfl | (simp; done)))) | refine sda ?_ ?_ | refine conk rfl ?_ | refine ldk rfl ?_ | refine mapk (fun x hx => ?_) | exact ⟨rfl, rfl⟩ | refine nilk (fun h => absurd h (of_decide_eq_false rfl)) ?_ | refine nilk (fun h => absurd h (List.cons_ne_nil _ _)) ?_ | refine nilk (fun h => ?_) ?_ | exact rfl | refine leftk1 rfl ?_ | refine bytk8 rfl ?_ | refine bytk rfl ?_ | exact leftk0 rfl | refine eqk rfl ?_ | refine fLm rfl ?_ | refine fLk (by assumption) ?_ | refine fVk ?_ | refine fLVk ?_ | refine fWk ?_ | intro hl))
  conv => whnf
  refine findW rfl n W.es 0 (fun j e hj hn hf => ?_) (fun hf => ?_)
  · rw [hf]
    repeat' ((conv => whnf); (first | refine pickk0 ?_ | refine csp (fun h => ?_) (fun h => ?_) | (refine sda ?_ ?_; (focus (first | rfl | exact of_decide_eq_true rfl | (simp; done)))) | refine sda ?_ ?_ | refine conk rfl ?_ | refine ldk rfl ?_ | refine mapk (fun x hx => ?_) | exact ⟨rfl, rfl⟩ | refine nilk (fun h => absurd h (of_decide_eq_false rfl)) ?_ | refine nilk (fun h => absurd h (List.cons_ne_nil _ _)) ?_ | refine nilk (fun h => ?_) ?_ | exact rfl | refine leftk1 rfl ?_ | refine bytk8 rfl ?_ | refine bytk rfl ?_ | exact leftk0 rfl | refine eqk rfl ?_ | refine fLm rfl ?_ | refine fLk (by assumption) ?_ | refine fVk ?_ | refine fLVk ?_ | refine fWk ?_ | intro hl))
  · rw [hf]
    repeat' ((conv => whnf); (first | refine pickk0 ?_ | refine csp (fun h => ?_) (fun h => ?_) | (refine sda ?_ ?_; (focus (first | rfl | exact of_decide_eq_true rfl | (simp; done)))) | refine sda ?_ ?_ | refine conk rfl ?_ | refine ldk rfl ?_ | refine mapk (fun x hx => ?_) | exact ⟨rfl, rfl⟩ | refine nilk (fun h => absurd h (of_decide_eq_false rfl)) ?_ | refine nilk (fun h => absurd h (List.cons_ne_nil _ _)) ?_ | refine nilk (fun h => ?_) ?_ | exact rfl | refine leftk1 rfl ?_ | refine bytk8 rfl ?_ | refine bytk rfl ?_ | exact leftk0 rfl | refine eqk rfl ?_ | refine fLm rfl ?_ | refine fLk (by assumption) ?_ | refine fVk ?_ | refine fLVk ?_ | refine fWk ?_ | intro hl))
end
end Go.Proofs.Ytlognebkifjfbaa

/- Worlds of files in memory: bytes, copies. -/
set_option maxRecDepth 100000
set_option linter.all false
namespace Go.Proofs.Ytlognebkifjfbaa
open Ab R
/-- A new row of these bytes (or none), all else as it was. -/
def Made (s : List O) (l : List Int) (r : V) (s' : List O) : Prop := Ext s s' ∧ ∃ a, r = cell a l ∧ (l ≠ [] → at? s a = none) ∧ Holds s' a l
section
variable {s : List O}
theorem made_nil (s : List O) : Made s [] (.row true []) s := ⟨Ext.refl s, 0, rfl, fun h => absurd rfl h, fun h => absurd rfl h⟩
theorem made_new {l : List Int} (h : l ≠ []) (k : Nat) (hk : k = l.length) {els : List (List V)} (he : els = bV l) : Made s l (.sl s.length 0 k) (s ++ [.arr true 1 els]) := by
  subst hk
  subst he
  refine ⟨(at_new s _).2.2, s.length, ?_, fun _ => (at_new s (.arr true 1 (bV l))).1, fun _ => (at_new s _).2.1⟩
  cases l with
  | nil => exact absurd rfl h
  | cons a l => rfl
theorem clone_row (x : Bool) (l : List Int) (hl : l.length ≤ 2097152) : RetQ Try.prog F_slices_Clone_byte_byte [.row x (bV l)] s (Made s l) := by
  refine rq_slices_Clone_byte_byte rfl fun _ _ => ?_
  have sv : Sv s := ⟨⟩
  by_cases h : l = []
  · subst h
    repeat' ((conv => whnf); (first | refine pickk0 ?_ | refine csp (fun h => ?_) (fun h => ?_) | (refine sda ?_ ?_; (focus (first | rfl | exact of_decide_eq_true rfl | (simp; done)))) | refine sda ?_ ?_ | refine conk rfl ?_ | refine ldk rfl ?_ | refine mapk (fun x hx => ?_) | exact ⟨rfl, rfl⟩ | refine nilk (fun h => absurd h (of_decide_eq_false rfl)) ?_ | refine nilk (fun h => absurd h (List.cons_ne_nil _ _)) ?_ | refine nilk (fun h => ?_) ?_ | exact rfl | refine leftk1 rfl ?_ | refine bytk8 rfl ?_ | refine bytk rfl ?_ | exact leftk0 rfl | refine eqk rfl ?_ | refine fLm rfl ?_ | refine fLk (by assumption) ?_ | refine fVk ?_ | refine fLVk ?_ | refine fWk ?_ | intro hl))
    all_goals conv => whnf
    all_goals exact made_nil s
  · have h1 := bV_ne h
    have h2 := bV_one l
    have h3 : (([] : List (List V)).length + (bV l).length) * 2 ≤ 140737488355327 := by rw [List.length_map, List.length_nil]; omega
    have h4 : ¬ bV l = [] := fun q => h (by simpa using q)
    have sv2 : Sv (s ++ [O.arr true 1 ([] ++ bV l)]) := ⟨⟩
    repeat' ((conv => whnf); (first | refine csp_f (h1) ?_ | refine sda (h2) ?_ | refine sda (h3) ?_ | refine nilk (fun h => absurd h (h4)) ?_ | refine pickk0 ?_ | refine csp (fun h => ?_) (fun h => ?_) | (refine sda ?_ ?_; (focus (first | rfl | exact of_decide_eq_true rfl | (simp; done)))) | refine sda ?_ ?_ | refine conk rfl ?_ | refine ldk rfl ?_ | refine mapk (fun x hx => ?_) | exact ⟨rfl, rfl⟩ | refine nilk (fun h => absurd h (of_decide_eq_false rfl)) ?_ | refine nilk (fun h => absurd h (List.cons_ne_nil _ _)) ?_ | refine nilk (fun h => ?_) ?_ | exact rfl | refine leftk1 rfl ?_ | refine bytk8 rfl ?_ | refine bytk rfl ?_ | exact leftk0 rfl | refine eqk rfl ?_ | refine fLm rfl ?_ | refine fLk (by assumption) ?_ | refine fVk ?_ | refine fLVk ?_ | refine fWk ?_ | intro hl))
    all_goals conv => whnf
    all_goals exact made_new h _ (by rw [List.length_map, List.length_nil, Nat.zero_add]) (by rw [List.nil_append])
theorem clone_row0 (x : Bool) (els : List (List V)) (h : els = []) : RetQ Try.prog F_slices_Clone_byte_byte [.row x els] s (Made s []) := by
  subst h
  exact clone_row x [] (by simp)
theorem clone_sl (a k : Nat) (w : Bool) (l : List Int) (hk : k ≤ l.length) (hl : l.length ≤ 2097152) (ha : at? s a = some (.arr w 1 (bV l))) : RetQ Try.prog F_slices_Clone_byte_byte [.sl a 0 k] s (Made s (l.take k)) := by
  refine rq_slices_Clone_byte_byte rfl fun _ _ => ?_
  have sv : Sv s := ⟨⟩
  have e1 : List.take k (List.drop 0 (bV l)) = bV (l.take k) := by simp [List.map_take]
  by_cases h : l.take k = []
  · have h1 : (List.take k (List.drop 0 (bV l))).isEmpty = true := by rw [e1, h]; rfl
    rw [h]
    repeat' ((conv => whnf); (first | (rw [ha]) | refine csp_t (h1) ?_ | refine pickk0 ?_ | refine csp (fun h => ?_) (fun h => ?_) | (refine sda ?_ ?_; (focus (first | rfl | exact of_decide_eq_true rfl | (simp; done)))) | refine sda ?_ ?_ | refine conk rfl ?_ | refine ldk rfl ?_ | refine mapk (fun x hx => ?_) | exact ⟨rfl, rfl⟩ | refine nilk (fun h => absurd h (of_decide_eq_false rfl)) ?_ | refine nilk (fun h => absurd h (List.cons_ne_nil _ _)) ?_ | refine nilk (fun h => ?_) ?_ | exact rfl | refine leftk1 rfl ?_ | refine bytk8 rfl ?_ | refine bytk rfl ?_ | exact leftk0 rfl | refine eqk rfl ?_ | refine fLm rfl ?_ | refine fLk (by assumption) ?_ | refine fVk ?_ | refine fLVk ?_ | refine fWk ?_ | intro hl))
    all_goals conv => whnf
    all_goals exact made_nil s
  · have h1 : (List.take k (List.drop 0 (bV l))).isEmpty = false := by rw [e1]; exact bV_ne h
    have h2 : ∀ e ∈ List.take k (List.drop 0 (bV l)), e.length = 1 := by rw [e1]; exact bV_one _
    have h3 : (([] : List (List V)).length + (List.take k (List.drop 0 (bV l))).length) * 2 ≤ 140737488355327 := by rw [e1, List.length_map, List.length_nil, List.length_take]; omega
    have h4 : ¬ k = 0 := fun q => h (by rw [q]; rfl)
    have sv2 : Sv (s ++ [O.arr true 1 ([] ++ List.take k (List.drop 0 (bV l)))]) := ⟨⟩
    repeat' ((conv => whnf); (first | (rw [ha]) | refine csp_f (h1) ?_ | refine sda (h2) ?_ | refine sda (h3) ?_ | refine nilk (fun h => absurd h (h4)) ?_ | refine pickk0 ?_ | refine csp (fun h => ?_) (fun h => ?_) | (refine sda ?_ ?_; (focus (first | rfl | exact of_decide_eq_true rfl | (simp; done)))) | refine sda ?_ ?_ | refine conk rfl ?_ | refine ldk rfl ?_ | refine mapk (fun x hx => ?_) | exact ⟨rfl, rfl⟩ | refine nilk (fun h => absurd h (of_decide_eq_false rfl)) ?_ | refine nilk (fun h => absurd h (List.cons_ne_nil _ _)) ?_ | refine nilk (fun h => ?_) ?_ | exact rfl | refine leftk1 rfl ?_ | refine bytk8 rfl ?_ | refine bytk rfl ?_ | exact leftk0 rfl | refine eqk rfl ?_ | refine fLm rfl ?_ | refine fLk (by assumption) ?_ | refine fVk ?_ | refine fLVk ?_ | refine fWk ?_ | intro hl))
    all_goals conv => whnf
    all_goals exact made_new h _ (by rw [e1, List.length_map, List.length_nil, Nat.zero_add]) (by rw [e1, List.nil_append])
end
end Go.Proofs.Ytlognebkifjfbaa

/- Worlds of files in memory: what holds of one, kept through changes. -/
set_option maxRecDepth 100000
set_option linter.all false
namespace Go.Proofs.Ytlognebkifjfbaa
open Ab R
structure IsW (wi mi : Nat) (W : Wd) (s : List O) : Prop where
  w : at? s wi = some (W.box mi)
  m : at? s mi = some (.map W.ck (W.es.map En.v))
  f : ∀ e ∈ W.es, at? s e.p = some (.box true [cell e.a e.l, .int .i64 e.sy])
  a : ∀ e ∈ W.es, Holds s e.a e.l
  pp : W.es.Pairwise fun x y => x.p ≠ y.p
  aa : W.es.Pairwise fun x y => x.l ≠ [] → y.l ≠ [] → x.a ≠ y.a
  nn : W.es.Pairwise fun x y => x.nm ≠ y.nm
  bb : W.es.Pairwise fun x y => x.born ≠ y.born
  bk : ∀ e ∈ W.es, e.born < W.ck
  ll : ∀ e ∈ W.es, e.l.length ≤ 1048576 ∧ 0 ≤ e.sy ∧ e.sy ≤ e.l.length
  kk : 0 ≤ W.keep
  en : W.es.length ≤ 16
def foot (wi mi : Nat) (W : Wd) (i : Nat) : Prop := i = wi ∨ i = mi ∨ ∃ e ∈ W.es, i = e.p ∨ (e.l ≠ [] ∧ i = e.a)
/-- The world is another one now; all else is as it was. -/
def Did (wi mi : Nat) (W : Wd) (s : List O) (W' : Wd) (s' : List O) : Prop := IsW wi mi W' s' ∧ ∀ i o, at? s i = some o → ¬ foot wi mi W i → at? s' i = some o ∧ ¬ foot wi mi W' i
section
variable {wi mi : Nat} {W W' W2 : Wd} {s s1 s2 : List O}
theorem Did.refl (h : IsW wi mi W s) : Did wi mi W s W s := ⟨h, fun i o h1 h2 => ⟨h1, h2⟩⟩
theorem Did.trans (h : Did wi mi W s W' s1) (k : Did wi mi W' s1 W2 s2) : Did wi mi W s W2 s2 := ⟨k.1, fun i o h1 h2 => k.2 i o (h.2 i o h1 h2).1 (h.2 i o h1 h2).2⟩
theorem IsW.ext (h : IsW wi mi W s) (x : Ext s s1) : IsW wi mi W s1 :=
  { h with w := x _ _ h.w, m := x _ _ h.m, f := fun e he => x _ _ (h.f e he), a := fun e he hl => x _ _ (h.a e he hl) }
theorem Did.ext (h : IsW wi mi W s) (x : Ext s s1) : Did wi mi W s W s1 := ⟨h.ext x, fun i o h1 h2 => ⟨x _ _ h1, h2⟩⟩
theorem IsW.wm (h : IsW wi mi W s) : wi ≠ mi := fun q => by have := h.w; rw [q, h.m] at this; cases this
theorem IsW.wp (h : IsW wi mi W s) {e : En} (he : e ∈ W.es) : e.p ≠ wi := fun q => by have := h.w; rw [← q, h.f e he] at this; simp at this
theorem IsW.mp (h : IsW wi mi W s) {e : En} (he : e ∈ W.es) : e.p ≠ mi := fun q => by have := h.m; rw [← q, h.f e he] at this; cases this
theorem IsW.wa (h : IsW wi mi W s) {e : En} (he : e ∈ W.es) (hl : e.l ≠ []) : e.a ≠ wi := fun q => by have := h.w; rw [← q, h.a e he hl] at this; cases this
theorem IsW.ma (h : IsW wi mi W s) {e : En} (he : e ∈ W.es) (hl : e.l ≠ []) : e.a ≠ mi := fun q => by have := h.m; rw [← q, h.a e he hl] at this; cases this
theorem IsW.pa (h : IsW wi mi W s) {e x : En} (he : e ∈ W.es) (hx : x ∈ W.es) (hl : e.l ≠ []) : e.a ≠ x.p := fun q => by have := h.f x hx; rw [← q, h.a e he hl] at this; cases this
/-- The world's own numbers are other ones. -/
theorem Did.box (h : IsW wi mi W s) (o : Bool) (c k n r : Int) (hk : 0 ≤ k) (h1 : at? s1 wi = some (.box true [.map mi, .bool o, .int .i64 c, .int .i64 k, .int .i64 n, .int .i64 r])) (h2 : ∀ j, j ≠ wi → at? s1 j = at? s j) :
    Did wi mi W s { W with off := o, cut := c, keep := k, ops := n, wr := r } s1 :=
  ⟨{ h with
      w := h1
      m := by rw [h2 _ fun q => h.wm q.symm]; exact h.m
      f := fun e he => by rw [h2 _ (h.wp he)]; exact h.f e he
      a := fun e he hl => by rw [h2 _ (h.wa he hl)]; exact h.a e he hl
      kk := hk }, fun i o' h3 h4 => ⟨by rw [h2 i fun q => h4 (.inl q)]; exact h3, h4⟩⟩
theorem pair_set {α : Type} {R : α → α → Prop} (hR : ∀ x y, R x y → R y x) {l : List α} {j : Nat} {x : α} (hp : l.Pairwise R) (hx : ∀ (i : Nat) y, i ≠ j → l[i]? = some y → R x y) : (l.set j x).Pairwise R := by
  rw [List.pairwise_iff_getElem] at hp ⊢
  intro a b ha hb hab
  simp only [List.length_set] at ha hb
  simp only [List.getElem_set]
  by_cases q1 : j = a
  · subst q1
    rw [if_pos rfl, if_neg (by omega)]
    exact hx b _ (by omega) (List.getElem?_eq_getElem hb)
  · rw [if_neg q1]
    by_cases q2 : j = b
    · subst q2
      rw [if_pos rfl]
      exact hR _ _ (hx a _ (by omega) (List.getElem?_eq_getElem ha))
    · rw [if_neg q2]
      exact hp a b ha hb hab
theorem pair_get {α : Type} {R : α → α → Prop} (hR : ∀ x y, R x y → R y x) {l : List α} (hp : l.Pairwise R) {i j : Nat} {x y : α} (hi : l[i]? = some x) (hj : l[j]? = some y) (hij : i ≠ j) : R x y := by
  rw [List.pairwise_iff_getElem] at hp
  obtain ⟨h1, rfl⟩ := List.getElem?_eq_some_iff.1 hi
  obtain ⟨h2, rfl⟩ := List.getElem?_eq_some_iff.1 hj
  rcases Nat.lt_or_gt_of_ne hij with q | q
  · exact hp i j h1 h2 q
  · exact hR _ _ (hp j i h2 h1 q)
theorem mem_set {α : Type} {l : List α} {j : Nat} {x y : α} (h : y ∈ l.set j x) : y = x ∨ ∃ i, i ≠ j ∧ l[i]? = some y := by
  obtain ⟨i, hi⟩ := List.mem_iff_getElem?.1 h
  rw [List.getElem?_set] at hi
  split at hi
  · rename_i q
    subst q
    split at hi
    · exact .inl (Option.some.inj hi).symm
    · cases hi
  · rename_i q
    exact .inr ⟨i, fun z => q z.symm, hi⟩
theorem ne_symm {α β : Type} (f : α → β) : ∀ x y : α, f x ≠ f y → f y ≠ f x := fun _ _ h q => h q.symm
theorem IsW.aa' (h : IsW wi mi W s) {i j : Nat} {x y : En} (hi : W.es[i]? = some x) (hj : W.es[j]? = some y) (hij : i ≠ j) (hx : x.l ≠ []) (hy : y.l ≠ []) : x.a ≠ y.a :=
  pair_get (R := fun x y : En => x.l ≠ [] → y.l ≠ [] → x.a ≠ y.a) (fun _ _ h a b q => h b a q.symm) h.aa hi hj hij hx hy
/-- What is none of the world's changes. -/
theorem IsW.other (h : IsW wi mi W s) {i : Nat} (hn : ¬ foot wi mi W i) (h2 : ∀ j, j ≠ i → at? s1 j = at? s j) : IsW wi mi W s1 :=
  { h with
    w := by rw [h2 _ fun q => hn (.inl q.symm)]; exact h.w
    m := by rw [h2 _ fun q => hn (.inr (.inl q.symm))]; exact h.m
    f := fun e he => by rw [h2 _ fun q => hn (.inr (.inr ⟨e, he, .inl q.symm⟩))]; exact h.f e he
    a := fun e he hl => by rw [h2 _ fun q => hn (.inr (.inr ⟨e, he, .inr ⟨hl, q.symm⟩⟩))]; exact h.a e he hl }
theorem Did.other {W0 : Wd} {s0 : List O} (h : Did wi mi W0 s0 W s) {i : Nat} (hn : ¬ foot wi mi W i) (h0 : at? s0 i = none) (h2 : ∀ j, j ≠ i → at? s1 j = at? s j) : Did wi mi W0 s0 W s1 :=
  ⟨h.1.other hn h2, fun j o hj hf => by
    have hne : j ≠ i := fun q => by rw [q, h0] at hj; cases hj
    rw [h2 j hne]
    exact h.2 j o hj hf⟩
/-- A file's bytes and their synced part are other ones. -/
theorem Did.file (h : IsW wi mi W s) {j : Nat} {e : En} (hj : W.es[j]? = some e) (a : Nat) (l : List Int) (sy : Int) (hl : l.length ≤ 1048576 ∧ 0 ≤ sy ∧ sy ≤ l.length)
    (h1 : at? s1 e.p = some (.box true [cell a l, .int .i64 sy])) (h2 : ∀ i o, i ≠ e.p → (e.l ≠ [] → i ≠ e.a) → at? s i = some o → at? s1 i = some o) (h3 : Holds s1 a l) (h4 : l ≠ [] → at? s a = none ∨ (e.l ≠ [] ∧ a = e.a)) :
    Did wi mi W s { W with es := W.es.set j { e with a := a, l := l, sy := sy } } s1 := by
  have he := List.mem_of_getElem? hj
  have other : ∀ i o, at? s i = some o → l ≠ [] → ¬ (e.l ≠ [] ∧ i = e.a) → i ≠ a := by
    intro i o ho hne hea q
    subst q
    rcases h4 hne with q | q
    · rw [q] at ho; cases ho
    · exact hea q
  have hmap : (W.es.set j { e with a := a, l := l, sy := sy }).map En.v = W.es.map En.v := by
    rw [List.map_set]
    apply List.ext_getElem?
    intro i
    rw [List.getElem?_set]
    split
    · rename_i q
      subst q
      have hlt := (List.getElem?_eq_some_iff.1 hj).1
      rw [if_pos (by simpa using hlt), List.getElem?_map, hj]
      rfl
    · rfl
  have keep : ∀ {i : Nat} {x : En}, i ≠ j → W.es[i]? = some x → x ∈ W.es ∧ x.p ≠ e.p ∧ (e.l ≠ [] → x.p ≠ e.a) := fun {i x} hij hx =>
    ⟨List.mem_of_getElem? hx, pair_get (ne_symm En.p) h.pp hx hj hij, fun hn q => h.pa he (List.mem_of_getElem? hx) hn q.symm⟩
  refine ⟨{ h with
    w := h2 _ _ (fun q => h.wp he q.symm) (fun hn q => h.wa he hn q.symm) h.w
    m := by
      show at? s1 mi = some (.map W.ck _)
      rw [hmap]
      exact h2 _ _ (fun q => h.mp he q.symm) (fun hn q => h.ma he hn q.symm) h.m
    f := fun x hx => by
      rcases mem_set hx with rfl | ⟨i, hij, hx⟩
      · exact h1
      · have k := keep hij hx
        exact h2 _ _ k.2.1 k.2.2 (h.f x k.1)
    a := fun x hx hl => by
      rcases mem_set hx with rfl | ⟨i, hij, hx⟩
      · exact h3 hl
      · have k := keep hij hx
        exact h2 _ _ (h.pa k.1 he hl) (fun hn => h.aa' hx hj hij hl hn) (h.a x k.1 hl)
    pp := pair_set (ne_symm En.p) h.pp fun i y hij hy => (ne_symm En.p _ _ (keep hij hy).2.1)
    aa := pair_set (fun _ _ h a b q => h b a q.symm) h.aa fun i y hij hy hl hn => by
      have k := keep hij hy
      exact fun q => other _ _ (h.a y k.1 hn) hl (fun z => h.aa' hy hj hij hn z.1 z.2) q.symm
    nn := pair_set (ne_symm En.nm) h.nn fun i y hij hy q => pair_get (ne_symm En.nm) h.nn hy hj hij q.symm
    bb := pair_set (ne_symm En.born) h.bb fun i y hij hy q => pair_get (ne_symm En.born) h.bb hy hj hij q.symm
    bk := fun x hx => by
      rcases mem_set hx with rfl | ⟨i, hij, hx⟩
      · exact h.bk e he
      · exact h.bk x (List.mem_of_getElem? hx)
    ll := fun x hx => by
      rcases mem_set hx with rfl | ⟨i, hij, hx⟩
      · exact hl
      · exact h.ll x (List.mem_of_getElem? hx)
    en := by
      show (W.es.set j _).length ≤ 16
      rw [List.length_set]
      exact h.en }, fun i o ho hn => ?_⟩
  have n1 : i ≠ e.p := fun q => hn (.inr (.inr ⟨e, he, .inl q⟩))
  have n2 : ¬ (e.l ≠ [] ∧ i = e.a) := fun q => hn (.inr (.inr ⟨e, he, .inr q⟩))
  refine ⟨h2 i o n1 (fun z q => n2 ⟨z, q⟩) ho, ?_⟩
  rintro (q | q | ⟨x, hx, q⟩)
  · exact hn (.inl q)
  · exact hn (.inr (.inl q))
  · rcases mem_set hx with rfl | ⟨k, hkj, hx⟩
    · rcases q with q | ⟨q1, q2⟩
      · exact n1 q
      · exact other i o ho q1 n2 q2
    · exact hn (.inr (.inr ⟨x, List.mem_of_getElem? hx, q⟩))
/-- The map is another one: files that were there, and new ones. -/
theorem Did.map (h : IsW wi mi W s) {ck : Nat} {es : List En} (h0 : at? s1 mi = some (.map ck (es.map En.v))) (h1 : ∀ i o, i ≠ mi → at? s i = some o → at? s1 i = some o)
    (old : ∀ e ∈ es, (∃ x ∈ W.es, x.p = e.p ∧ x.a = e.a ∧ x.l = e.l ∧ x.sy = e.sy) ∨
      (at? s e.p = none ∧ at? s1 e.p = some (.box true [cell e.a e.l, .int .i64 e.sy]) ∧ (e.l ≠ [] → at? s e.a = none) ∧ Holds s1 e.a e.l ∧ e.l.length ≤ 1048576 ∧ 0 ≤ e.sy ∧ e.sy ≤ e.l.length))
    (pp : es.Pairwise fun x y => x.p ≠ y.p) (aa : es.Pairwise fun x y => x.l ≠ [] → y.l ≠ [] → x.a ≠ y.a) (nn : es.Pairwise fun x y => x.nm ≠ y.nm) (bb : es.Pairwise fun x y => x.born ≠ y.born) (bk : ∀ e ∈ es, e.born < ck) (en : es.length ≤ 16) :
    Did wi mi W s { W with ck := ck, es := es } s1 := by
  refine ⟨{ w := h1 _ _ h.wm h.w, m := h0, f := fun e he => ?_, a := fun e he => ?_, pp := pp, aa := aa, nn := nn, bb := bb, bk := bk, ll := fun e he => ?_, kk := h.kk, en := en }, fun i o ho hn => ⟨h1 i o (fun q => hn (.inr (.inl q))) ho, ?_⟩⟩
  · rcases old e he with ⟨x, hx, q1, q2, q3, q4⟩ | q
    · rw [← q1, ← q2, ← q3, ← q4]
      exact h1 _ _ (h.mp hx) (h.f x hx)
    · exact q.2.1
  · rcases old e he with ⟨x, hx, q1, q2, q3, q4⟩ | q
    · rw [← q2, ← q3]
      exact fun hl => h1 _ _ (h.ma hx hl) (h.a x hx hl)
    · exact q.2.2.2.1
  · rcases old e he with ⟨x, hx, q1, q2, q3, q4⟩ | q
    · rw [← q3, ← q4]
      exact h.ll x hx
    · exact q.2.2.2.2
  · rintro (q | q | ⟨e, he, q⟩)
    · exact hn (.inl q)
    · exact hn (.inr (.inl q))
    · rcases old e he with ⟨x, hx, q1, q2, q3, q4⟩ | z
      · rw [← q1, ← q2, ← q3] at q
        exact hn (.inr (.inr ⟨x, hx, q⟩))
      · rcases q with rfl | ⟨q1, rfl⟩
        · rw [z.1] at ho; cases ho
        · rw [z.2.2.1 q1] at ho; cases ho
theorem pair_push {α : Type} {R : α → α → Prop} {l : List α} {x : α} (hp : l.Pairwise R) (hx : ∀ y ∈ l, R y x) : (l ++ [x]).Pairwise R := by
  rw [List.pairwise_append]
  exact ⟨hp, List.pairwise_singleton _ _, fun a ha b hb => by rw [List.mem_singleton.1 hb]; exact hx a ha⟩
/-- A new file under a new name. -/
theorem Did.push (h : IsW wi mi W s) (nm : ByteArray) (p a : Nat) (l : List Int) (sy : Int) (hn : ∀ e ∈ W.es, e.nm ≠ nm) (hlen : W.es.length < 16) (h0 : at? s1 mi = some (.map (W.ck + 1) ((W.es ++ [En.mk W.ck nm p a l sy]).map En.v))) (h1 : ∀ i o, i ≠ mi → at? s i = some o → at? s1 i = some o)
    (hp : at? s p = none) (hp1 : at? s1 p = some (.box true [cell a l, .int .i64 sy])) (ha : l ≠ [] → at? s a = none) (ha1 : Holds s1 a l) (hb : l.length ≤ 1048576 ∧ 0 ≤ sy ∧ sy ≤ l.length) :
    Did wi mi W s { W with ck := W.ck + 1, es := W.es ++ [En.mk W.ck nm p a l sy] } s1 := by
  refine Did.map h h0 h1 (fun e he => ?_) (pair_push h.pp fun y hy q => ?_) (pair_push h.aa fun y hy hl hl2 q => ?_) (pair_push h.nn fun y hy => hn y hy) (pair_push h.bb fun y hy q => ?_) (fun e he => ?_) (by simp; omega)
  · rcases List.mem_append.1 he with he | he
    · exact .inl ⟨e, he, rfl, rfl, rfl, rfl⟩
    · rw [List.mem_singleton.1 he]
      exact .inr ⟨hp, hp1, ha, ha1, hb⟩
  · have := h.f y hy
    rw [q, hp] at this
    cases this
  · have := h.a y hy hl
    rw [q, ha hl2] at this
    cases this
  · have := h.bk y hy
    simp only at q
    omega
  · rcases List.mem_append.1 he with he | he
    · have := h.bk e he
      omega
    · rw [List.mem_singleton.1 he]
      exact Nat.lt_succ_self _
/-- A new file in the place of one. -/
theorem Did.put (h : IsW wi mi W s) {j : Nat} {e : En} (hj : W.es[j]? = some e) (p a : Nat) (l : List Int) (sy : Int) (h0 : at? s1 mi = some (.map W.ck ((W.es.set j { e with p := p, a := a, l := l, sy := sy }).map En.v))) (h1 : ∀ i o, i ≠ mi → at? s i = some o → at? s1 i = some o)
    (hp : at? s p = none) (hp1 : at? s1 p = some (.box true [cell a l, .int .i64 sy])) (ha : l ≠ [] → at? s a = none) (ha1 : Holds s1 a l) (hb : l.length ≤ 1048576 ∧ 0 ≤ sy ∧ sy ≤ l.length) :
    Did wi mi W s { W with es := W.es.set j { e with p := p, a := a, l := l, sy := sy } } s1 := by
  refine Did.map h (ck := W.ck) h0 h1 (fun x hx => ?_) (pair_set (ne_symm En.p) h.pp fun i y hij hy q => ?_) (pair_set (fun _ _ h a b q => h b a q.symm) h.aa fun i y hij hy hl hl2 q => ?_) (pair_set (ne_symm En.nm) h.nn fun i y hij hy q => pair_get (ne_symm En.nm) h.nn hy hj hij q.symm) (pair_set (ne_symm En.born) h.bb fun i y hij hy q => pair_get (ne_symm En.born) h.bb hy hj hij q.symm) (fun x hx => ?_) (by rw [List.length_set]; exact h.en)
  · rcases mem_set hx with rfl | ⟨i, hij, hx⟩
    · exact .inr ⟨hp, hp1, ha, ha1, hb⟩
    · exact .inl ⟨x, List.mem_of_getElem? hx, rfl, rfl, rfl, rfl⟩
  · have := h.f y (List.mem_of_getElem? hy)
    rw [← q, hp] at this
    cases this
  · have := h.a y (List.mem_of_getElem? hy) hl2
    rw [← q, ha hl] at this
    cases this
  · rcases mem_set hx with rfl | ⟨i, hij, hx⟩
    · exact h.bk e (List.mem_of_getElem? hj)
    · exact h.bk x (List.mem_of_getElem? hx)
end
end Go.Proofs.Ytlognebkifjfbaa

/- Worlds of files in memory: the power fails. -/
set_option maxRecDepth 100000
set_option linter.all false
namespace Go.Proofs.Ytlognebkifjfbaa
open Ab R
structure Fi where
  nm : ByteArray
  l : List Int
  sy : Int
structure Hd where
  off : Bool
  cut : Int
  keep : Int
  ops : Int
  wr : Int
def En.fi (e : En) : Fi := ⟨e.nm, e.l, e.sy⟩
def Wd.fs (W : Wd) : List Fi := W.es.map En.fi
def Wd.h (W : Wd) : Hd := ⟨W.off, W.cut, W.keep, W.ops, W.wr⟩
/-- How much of a file stays when the power fails. -/
def Fi.upto (keep : Int) (f : Fi) : Nat := (min (f.l.length : Int) (f.sy + min keep f.l.length)).toNat
def Fi.trunc (keep : Int) (f : Fi) : Fi := ⟨f.nm, f.l.take (f.upto keep), f.upto keep⟩
theorem cell_ne {a : Nat} {l : List Int} (h : l ≠ []) : cell a l = .sl a 0 l.length := by
  cases l with
  | nil => exact absurd rfl h
  | cons n l => rfl
theorem Made.split {s s' : List O} {l : List Int} {r : V} (h : Made s l r s') : Ext s s' ∧ ((l = [] ∧ r = .row true []) ∨ ∃ a, l ≠ [] ∧ r = .sl a 0 l.length ∧ at? s a = none ∧ at? s' a = some (.arr true 1 (bV l))) := by
  obtain ⟨x, a, rfl, h1, h2⟩ := h
  refine ⟨x, ?_⟩
  by_cases q : l = []
  · subst q
    exact .inl ⟨rfl, rfl⟩
  · exact .inr ⟨a, q, cell_ne q, h1 q, h2 q⟩
theorem findB_of {b : Nat} {y : Nat × V × V} : ∀ {es : List (Nat × V × V)}, y ∈ es → y.1 = b → (∀ z ∈ es, z.1 = b → z = y) → findB b es = some y
  | [], h, _, _ => by cases h
  | x :: es, h, hb, hu => by
    simp only [findB]
    cases q : Nat.beq x.1 b with
    | true => rw [hu x List.mem_cons_self (Nat.eq_of_beq_eq_true q)]
    | false =>
      rcases List.mem_cons.1 h with rfl | h
      · rw [hb] at q; simp at q
      · exact findB_of h hb fun z hz => hu z (List.mem_cons_of_mem _ hz)
theorem trunc_n (n : Nat) (sy keep : Int) (hl : n ≤ 1048576) (h0 : 0 ≤ sy) (h1 : sy ≤ n) (hk : 0 ≤ keep) :
    (if IntKind.i64.wrap (sy + if (n : Int) < keep then (n : Int) else keep) < (n : Int) then IntKind.i64.wrap (sy + if (n : Int) < keep then (n : Int) else keep) else (n : Int)) = (((min (n : Int) (sy + min keep n)).toNat : Nat) : Int) := by
  have hb : 0 ≤ (if (n : Int) < keep then (n : Int) else keep) ∧ (if (n : Int) < keep then (n : Int) else keep) ≤ n ∧ (if (n : Int) < keep then (n : Int) else keep) = min keep n := by
    split <;> omega
  rw [w64 (by omega), hb.2.2]
  split <;> omega
theorem upto_le (nm : ByteArray) (l : List Int) (sy keep : Int) (hl : l.length ≤ 1048576) (h0 : 0 ≤ sy) (h1 : sy ≤ l.length) (hk : 0 ≤ keep) : Fi.upto keep ⟨nm, l, sy⟩ ≤ l.length := by
  unfold Fi.upto
  simp only
  omega
theorem leftM_lt {es : List (Nat × V × V)} {seen : List Nat} {y : Nat × V × V} (h : y ∈ leftM es seen) : (leftM es (y.1 :: seen)).length < (leftM es seen).length := by
  have e : leftM es (y.1 :: seen) = (leftM es seen).filter fun x => !(x.1 == y.1) := by
    unfold leftM
    rw [List.filter_filter]
    congr 1
    funext x
    simp only [List.contains_cons, Bool.not_or]
  rw [e]
  exact List.length_filter_lt_length_iff_exists.2 ⟨y, h, by simp⟩
section
variable {wi mi : Nat} {W : Wd} {s : List O}
/-- How far the files are behind the failure. -/
structure Part (W : Wd) (W1 : Wd) (seen : List Nat) : Prop where
  h : W1.h = { W.h with off := true }
  ck : W1.ck = W.ck
  len : W1.es.length = W.es.length
  es : ∀ (i : Nat) e e1, W.es[i]? = some e → W1.es[i]? = some e1 → e1.born = e.born ∧ e1.nm = e.nm ∧ e1.p = e.p ∧ (e.born ∈ seen → e1.fi = e.fi.trunc W.keep) ∧ (e.born ∉ seen → e1.l = e.l ∧ e1.sy = e.sy)
set_option maxHeartbeats 4000000 in
theorem w_fail (h : IsW wi mi W s) : RetQ Try.prog F_files_World_fail [.ptr wi 0] s fun r s' => r = .int .i64 13 ∧ ∃ W', Did wi mi W s W' s' ∧ W'.h = { W.h with off := true } ∧ W'.fs = W.fs.map (Fi.trunc W.keep) := by
  refine rq_files_World_fail rfl fun _ _ => ?_
  have sv : Sv s := ⟨⟩
  have hw := h.w
  repeat' ((conv => whnf); (first | (rw [hw]) | refine pickk0 ?_ | refine csp (fun h => ?_) (fun h => ?_) | (refine sda ?_ ?_; (focus (first | rfl | exact of_decide_eq_true rfl | (simp; done)))) | refine sda ?_ ?_ | refine conk rfl ?_ | refine ldk rfl ?_ | refine mapk (fun x hx => ?_) | exact ⟨rfl, rfl⟩ | refine nilk (fun h => absurd h (of_decide_eq_false rfl)) ?_ | refine nilk (fun h => absurd h (List.cons_ne_nil _ _)) ?_ | refine nilk (fun h => ?_) ?_ | exact rfl | refine leftk1 rfl ?_ | refine bytk8 rfl ?_ | refine bytk rfl ?_ | exact leftk0 rfl | refine eqk rfl ?_ | refine fLm rfl ?_ | refine fLk (by assumption) ?_ | refine fVk ?_ | refine fLVk ?_ | refine fWk ?_ | intro hl))
  refine fLset h.w (fun s1 a1 b1 sv1 => ?_)
  have D1 := Did.box h true W.cut W.keep W.ops W.wr h.kk a1 b1
  have hw1 := D1.1.w
  have hm1 := D1.1.m
  repeat' ((conv => whnf); (first | (rw [hw1]) | (rw [hm1]) | refine pickk0 ?_ | refine csp (fun h => ?_) (fun h => ?_) | (refine sda ?_ ?_; (focus (first | rfl | exact of_decide_eq_true rfl | (simp; done)))) | refine sda ?_ ?_ | refine conk rfl ?_ | refine ldk rfl ?_ | refine mapk (fun x hx => ?_) | exact ⟨rfl, rfl⟩ | refine nilk (fun h => absurd h (of_decide_eq_false rfl)) ?_ | refine nilk (fun h => absurd h (List.cons_ne_nil _ _)) ?_ | refine nilk (fun h => ?_) ?_ | exact rfl | refine leftk1 rfl ?_ | refine bytk8 rfl ?_ | refine bytk rfl ?_ | exact leftk0 rfl | refine eqk rfl ?_ | refine fLm rfl ?_ | refine fLk (by assumption) ?_ | refine fVk ?_ | refine fLVk ?_ | refine fWk ?_ | intro hl))
  refine fLnew (fun s2 x2 f2 n2 sv2 => ?_)
  have D2 := D1.trans (Did.ext D1.1 x2)
  generalize s1.length = it at f2 n2
  have nf : ¬ foot wi mi { W with off := true } it := by
    rintro (q | q | ⟨e, he, q | ⟨q1, q2⟩⟩)
    · rw [q, D1.1.w] at f2; cases f2
    · rw [q, D1.1.m] at f2; cases f2
    · rw [q, D1.1.f e he] at f2; cases f2
    · rw [q2, D1.1.a e he q1] at f2; cases f2
  have hs0 : at? s it = none := by
    rw [← b1 it fun q => nf (.inl q)]
    exact f2
  repeat' ((conv => whnf); (first | refine pickk0 ?_ | refine csp (fun h => ?_) (fun h => ?_) | (refine sda ?_ ?_; (focus (first | rfl | exact of_decide_eq_true rfl | (simp; done)))) | refine sda ?_ ?_ | refine conk rfl ?_ | refine ldk rfl ?_ | refine mapk (fun x hx => ?_) | exact ⟨rfl, rfl⟩ | refine nilk (fun h => absurd h (of_decide_eq_false rfl)) ?_ | refine nilk (fun h => absurd h (List.cons_ne_nil _ _)) ?_ | refine nilk (fun h => ?_) ?_ | exact rfl | refine leftk1 rfl ?_ | refine bytk8 rfl ?_ | refine bytk rfl ?_ | exact leftk0 rfl | refine eqk rfl ?_ | refine fLm rfl ?_ | refine fLk (by assumption) ?_ | refine fVk ?_ | refine fLVk ?_ | refine fWk ?_ | intro hl))
  refine .inr (.inr ⟨Wd × List Nat, [0, 13], fun _ => [(0, .ptr wi 0), (13, .ptr it 0)], fun x s' => Did wi mi W s x.1 s' ∧ ¬ foot wi mi x.1 it ∧ (∃ last, at? s' it = some (.it mi W.ck last x.2)) ∧ Part W x.1 x.2, fun x => (leftM (x.1.es.map En.v) x.2).length, ?_, fun x s' hJ hwf => ?_⟩)
  · refine ⟨({ W with off := true }, []), rfl, D2, nf, ⟨_, n2⟩, ⟨rfl, rfl, rfl, fun i e e1 h1 h2 => ?_⟩⟩
    have : e = e1 := by
      have h2' : W.es[i]? = some e1 := h2
      rw [h1] at h2'
      exact Option.some.inj h2'
    subst this
    exact ⟨rfl, rfl, rfl, fun q => absurd q List.not_mem_nil, fun _ => ⟨rfl, rfl⟩⟩
  · obtain ⟨W1, seen⟩ := x
    have sv3 : Sv s' := ⟨⟩
    obtain ⟨D, hnf, ⟨last, hit⟩, hp⟩ := hJ
    simp only at D hnf hit hp
    have hw2 := D.1.w
    have hm2 := D.1.m
    have hbk : ∀ y ∈ W1.es.map En.v, y.1 < W.ck := fun y hy => by
      obtain ⟨e, he, rfl⟩ := List.mem_map.1 hy
      rw [← hp.ck]
      exact D.1.bk e he
    have hck : W.ck ≤ W1.ck := Nat.le_of_eq hp.ck.symm
    repeat' ((conv => whnf); (first | (rw [hit]) | (rw [hm2]) | refine sda (hbk) ?_ | refine sda (hck) ?_ | refine pickk0 ?_ | refine csp (fun h => ?_) (fun h => ?_) | (refine sda ?_ ?_; (focus (first | rfl | exact of_decide_eq_true rfl | (simp; done)))) | refine sda ?_ ?_ | refine conk rfl ?_ | refine ldk rfl ?_ | refine mapk (fun x hx => ?_) | exact ⟨rfl, rfl⟩ | refine nilk (fun h => absurd h (of_decide_eq_false rfl)) ?_ | refine nilk (fun h => absurd h (List.cons_ne_nil _ _)) ?_ | refine nilk (fun h => ?_) ?_ | exact rfl | refine leftk1 rfl ?_ | refine bytk8 rfl ?_ | refine bytk rfl ?_ | exact leftk0 rfl | refine eqk rfl ?_ | refine fLm rfl ?_ | refine fLk (by assumption) ?_ | refine fVk ?_ | refine fLVk ?_ | refine fWk ?_ | intro hl))
    · conv => whnf
      refine ⟨rfl, W1, D, hp.h, ?_⟩
      apply List.ext_getElem?
      intro i
      simp only [Wd.fs, List.getElem?_map]
      cases he : W.es[i]? with
      | none =>
        have : W1.es[i]? = none := by rw [List.getElem?_eq_none_iff] at he ⊢; rw [hp.len]; exact he
        rw [this]
        rfl
      | some e =>
        obtain ⟨e1, he1⟩ : ∃ e1, W1.es[i]? = some e1 := by
          have := (List.getElem?_eq_some_iff.1 he).1
          exact ⟨_, List.getElem?_eq_getElem (by rw [hp.len]; exact this)⟩
        obtain ⟨q1, q2, q3, q4, q5⟩ := hp.es i e e1 he he1
        rw [he1]
        have hmem : e1.v ∈ W1.es.map En.v := List.mem_map_of_mem (List.mem_of_getElem? he1)
        have : e.born ∈ seen := by
          have h0 := List.filter_eq_nil_iff.1 h _ hmem
          rw [← q1]
          simpa using h0
        show some e1.fi = some (e.fi.trunc W.keep)
        rw [q4 this]
    · rename (Nat × V × V) => y
      have hy0 := List.mem_filter.1 hl
      obtain ⟨e1, he1, rfl⟩ := List.mem_map.1 hy0.1
      have hns : e1.born ∉ seen := by simpa using hy0.2
      obtain ⟨i, hi1⟩ := List.mem_iff_getElem?.1 he1
      obtain ⟨e, hi⟩ : ∃ e, W.es[i]? = some e := by
        have := (List.getElem?_eq_some_iff.1 hi1).1
        exact ⟨_, List.getElem?_eq_getElem (by rw [← hp.len]; exact this)⟩
      obtain ⟨q1, q2, q3, q4, q5⟩ := hp.es i e e1 hi hi1
      have q6 := q5 (by rw [← q1]; exact hns)
      conv => whnf
      refine fLset hit (fun s3 a3 b3 sv4 => ?_)
      have D3 := D.other hnf hs0 b3
      have hm3 := D3.1.m
      have hw3 := D3.1.w
      have hbq : Nat.beq W1.ck W1.ck = true := by simp
      have hfb : findB e1.v.1 (W1.es.map En.v) = some e1.v := findB_of (List.mem_map_of_mem he1) rfl fun z hz hb => by
        obtain ⟨e2, he2, rfl⟩ := List.mem_map.1 hz
        obtain ⟨k, hk⟩ := List.mem_iff_getElem?.1 he2
        by_cases hki : k = i
        · subst hki
          rw [hi1] at hk
          rw [Option.some.inj hk]
        · exact absurd hb (pair_get (ne_symm En.born) D.1.bb hk hi1 hki)
      have hf3 := D3.1.f e1 he1
      have hkp : W1.keep = W.keep := congrArg Hd.keep hp.h
      obtain ⟨b1', b2', b3'⟩ := D.1.ll e1 he1
      have hkk : 0 ≤ W.keep := h.kk
      have hN := trunc_n e1.l.length e1.sy W1.keep b1' b2' b3' (by rw [hkp]; exact hkk)
      have hN : _ = ((Fi.upto W1.keep ⟨e1.nm, e1.l, e1.sy⟩ : Nat) : Int) := hN
      have hNle := upto_le e1.nm e1.l e1.sy W1.keep b1' b2' b3' (by rw [hkp]; exact hkk)
      have fin : ∀ (s4 s6 : List O) (a' : Nat) (l' : List Int), l' = e1.l.take (Fi.upto W1.keep ⟨e1.nm, e1.l, e1.sy⟩) → Ext s3 s4 → (l' ≠ [] → at? s3 a' = none) → (∀ j, j ≠ e1.p → at? s6 j = at? s4 j) → Holds s4 a' l' → at? s6 e1.p = some (.box true [cell a' l', .int .i64 (Fi.upto W1.keep ⟨e1.nm, e1.l, e1.sy⟩ : Nat)]) →
          ∃ z : Wd × List Nat, (Did wi mi W s z.1 s6 ∧ ¬ foot wi mi z.1 it ∧ (∃ last, at? s6 it = some (.it mi W.ck last z.2)) ∧ Part W z.1 z.2) ∧ (leftM (z.1.es.map En.v) z.2).length < (leftM (W1.es.map En.v) seen).length := by
        intro s4 s6 a' l' hl' x4 hn4 h46 hh hp6
        have hne : it ≠ e1.p := fun q => hnf (.inr (.inr ⟨e1, he1, .inl q⟩))
        have hlen : l'.length ≤ e1.l.length := by rw [hl', List.length_take]; omega
        have hlen2 : (Fi.upto W1.keep ⟨e1.nm, e1.l, e1.sy⟩) = l'.length := by rw [hl', List.length_take]; omega
        have hap : l' ≠ [] → a' ≠ e1.p := fun hne' q => by have := hn4 hne'; rw [q, D3.1.f e1 he1] at this; cases this
        have F := Did.file D3.1 hi1 a' l' (Fi.upto W1.keep ⟨e1.nm, e1.l, e1.sy⟩ : Nat) ⟨by omega, by omega, by omega⟩ hp6 (fun j o hj _ ho => by rw [h46 j hj]; exact x4 j o ho) (fun hne' => by rw [h46 _ (hap hne')]; exact hh hne') (fun hne' => .inl (hn4 hne'))
        have hv : (W1.es.set i { e1 with a := a', l := l', sy := (Fi.upto W1.keep ⟨e1.nm, e1.l, e1.sy⟩ : Nat) }).map En.v = W1.es.map En.v := by
          have q := F.1.m
          have hmi : at? s6 mi = some (.map W1.ck (W1.es.map En.v)) := by
            rw [h46 mi fun q => D3.1.mp he1 q.symm]
            exact x4 _ _ hm3
          rw [hmi] at q
          simp only [Option.some.injEq, O.map.injEq] at q
          exact q.2.symm
        refine ⟨(_, e1.born :: seen), ⟨D3.trans F, (F.2 it _ a3 hnf).2, ⟨W1.ck, (F.2 it _ a3 hnf).1⟩, ⟨hp.h, hp.ck, by simp [hp.len], fun k ek ek1 hk1 hk2 => ?_⟩⟩, ?_⟩
        · simp only [List.getElem?_set] at hk2
          split at hk2
          · rename_i hki
            subst hki
            rw [if_pos (List.getElem?_eq_some_iff.1 hi1).1] at hk2
            have hk2 := Option.some.inj hk2
            subst hk2
            rw [hi] at hk1
            obtain rfl := Option.some.inj hk1
            refine ⟨q1, q2, q3, fun _ => ?_, fun hno => absurd (by rw [q1]; exact List.mem_cons_self) hno⟩
            unfold En.fi Fi.trunc
            simp only
            rw [hl', hkp, q2, q6.1, q6.2]
          · rename_i hki
            obtain ⟨r1, r2, r3, r4, r5⟩ := hp.es k ek ek1 hk1 hk2
            have hb : ek.born ≠ e1.born := by
              rw [← r1]
              exact pair_get (ne_symm En.born) D.1.bb hk2 hi1 (fun q => hki q.symm)
            exact ⟨r1, r2, r3, fun hin => r4 ((List.mem_cons.1 hin).resolve_left hb), fun hno => r5 fun q => hno (List.mem_cons_of_mem _ q)⟩
        · simp only
          rw [hv]
          exact leftM_lt hl
      by_cases hl0 : e1.l = []
      · rw [hl0] at hf3 hNle fin b3'
        simp only [cell] at hf3
        have hz : Fi.upto W1.keep ⟨e1.nm, [], e1.sy⟩ = 0 := by simpa using hNle
        have hN0 := trunc_n ([] : List (List V)).length e1.sy W1.keep (by simp) b2' b3' (by rw [hkp]; exact hkk)
        have hN1 : (((min ((([] : List (List V)).length : Nat) : Int) (e1.sy + min W1.keep (([] : List (List V)).length : Nat))).toNat : Nat) : Int) = 0 := by simp; omega
        rw [hN1] at hN0
        rw [hz] at fin
        repeat' ((conv => whnf); (first | (rw [a3]) | (rw [hm3]) | (rw [hbq]) | (rw [hfb]) | (rw [hf3]) | (rw [hw3]) | refine pickk0 ?_ | refine csp (fun h => ?_) (fun h => ?_) | (refine sda ?_ ?_; (focus (first | rfl | exact of_decide_eq_true rfl | (simp; done)))) | refine sda ?_ ?_ | refine conk rfl ?_ | refine ldk rfl ?_ | refine mapk (fun x hx => ?_) | exact ⟨rfl, rfl⟩ | refine nilk (fun h => absurd h (of_decide_eq_false rfl)) ?_ | refine nilk (fun h => absurd h (List.cons_ne_nil _ _)) ?_ | refine nilk (fun h => ?_) ?_ | exact rfl | refine leftk1 rfl ?_ | refine bytk8 rfl ?_ | refine bytk rfl ?_ | exact leftk0 rfl | refine eqk rfl ?_ | refine fLm rfl ?_ | refine fLk (by assumption) ?_ | refine fVk ?_ | refine fLVk ?_ | refine fWk ?_ | intro hl))
        · rw [hN0]
          simp
        · rw [hN0]
          conv => whnf
          refine clq (clone_row0 _ _ (by simp)) (fun r s4 q _ _ => ?_)
          obtain ⟨x4, ⟨_, rfl⟩ | ⟨a', h1', _⟩⟩ := q.split
          · have sv5 : Sv s4 := ⟨⟩
            have hf4 := x4 _ _ hf3
            repeat' ((conv => whnf); (first | (rw [hf4]) | refine pickk0 ?_ | refine csp (fun h => ?_) (fun h => ?_) | (refine sda ?_ ?_; (focus (first | rfl | exact of_decide_eq_true rfl | (simp; done)))) | refine sda ?_ ?_ | refine conk rfl ?_ | refine ldk rfl ?_ | refine mapk (fun x hx => ?_) | exact ⟨rfl, rfl⟩ | refine nilk (fun h => absurd h (of_decide_eq_false rfl)) ?_ | refine nilk (fun h => absurd h (List.cons_ne_nil _ _)) ?_ | refine nilk (fun h => ?_) ?_ | exact rfl | refine leftk1 rfl ?_ | refine bytk8 rfl ?_ | refine bytk rfl ?_ | exact leftk0 rfl | refine eqk rfl ?_ | refine fLm rfl ?_ | refine fLk (by assumption) ?_ | refine fVk ?_ | refine fLVk ?_ | refine fWk ?_ | intro hl))
            refine fLset hf4 (fun s5 a5 b5 sv6 => ?_)
            repeat' ((conv => whnf); (first | (rw [a5]) | refine pickk0 ?_ | refine csp (fun h => ?_) (fun h => ?_) | (refine sda ?_ ?_; (focus (first | rfl | exact of_decide_eq_true rfl | (simp; done)))) | refine sda ?_ ?_ | refine conk rfl ?_ | refine ldk rfl ?_ | refine mapk (fun x hx => ?_) | exact ⟨rfl, rfl⟩ | refine nilk (fun h => absurd h (of_decide_eq_false rfl)) ?_ | refine nilk (fun h => absurd h (List.cons_ne_nil _ _)) ?_ | refine nilk (fun h => ?_) ?_ | exact rfl | refine leftk1 rfl ?_ | refine bytk8 rfl ?_ | refine bytk rfl ?_ | exact leftk0 rfl | refine eqk rfl ?_ | refine fLm rfl ?_ | refine fLk (by assumption) ?_ | refine fVk ?_ | refine fLVk ?_ | refine fWk ?_ | intro hl))
            refine fLset a5 (fun s6 a6 b6 sv7 => ?_)
            conv => whnf
            obtain ⟨z, hz1, hz2⟩ := fin s4 s6 0 [] (by simp) x4 (fun q => absurd rfl q) (fun j hj => by rw [b6 j hj, b5 j hj]) (fun q => absurd rfl q) a6
            exact ⟨z, rfl, hz1, hz2⟩
          · exact absurd rfl h1'
      · rw [cell_ne hl0] at hf3
        have ha3 := D3.1.a e1 he1 hl0
        repeat' ((conv => whnf); (first | (rw [a3]) | (rw [hm3]) | (rw [hbq]) | (rw [hfb]) | (rw [hf3]) | (rw [hw3]) | (rw [ha3]) | refine pickk0 ?_ | refine csp (fun h => ?_) (fun h => ?_) | (refine sda ?_ ?_; (focus (first | rfl | exact of_decide_eq_true rfl | (simp; done)))) | refine sda ?_ ?_ | refine conk rfl ?_ | refine ldk rfl ?_ | refine mapk (fun x hx => ?_) | exact ⟨rfl, rfl⟩ | refine nilk (fun h => absurd h (of_decide_eq_false rfl)) ?_ | refine nilk (fun h => absurd h (List.cons_ne_nil _ _)) ?_ | refine nilk (fun h => ?_) ?_ | exact rfl | refine leftk1 rfl ?_ | refine bytk8 rfl ?_ | refine bytk rfl ?_ | exact leftk0 rfl | refine eqk rfl ?_ | refine fLm rfl ?_ | refine fLk (by assumption) ?_ | refine fVk ?_ | refine fLVk ?_ | refine fWk ?_ | intro hl))
        · rw [hN]
          omega
        · rw [hN]
          generalize Fi.upto W1.keep ⟨e1.nm, e1.l, e1.sy⟩ = n at hNle fin
          repeat' ((conv => whnf); (first | (rw [ha3]) | refine pickk0 ?_ | refine csp (fun h => ?_) (fun h => ?_) | (refine sda ?_ ?_; (focus (first | rfl | exact of_decide_eq_true rfl | (simp; done)))) | refine sda ?_ ?_ | refine conk rfl ?_ | refine ldk rfl ?_ | refine mapk (fun x hx => ?_) | exact ⟨rfl, rfl⟩ | refine nilk (fun h => absurd h (of_decide_eq_false rfl)) ?_ | refine nilk (fun h => absurd h (List.cons_ne_nil _ _)) ?_ | refine nilk (fun h => ?_) ?_ | exact rfl | refine leftk1 rfl ?_ | refine bytk8 rfl ?_ | refine bytk rfl ?_ | exact leftk0 rfl | refine eqk rfl ?_ | refine fLm rfl ?_ | refine fLk (by assumption) ?_ | refine fVk ?_ | refine fLVk ?_ | refine fWk ?_ | intro hl))
          conv => whnf
          refine clq (clone_sl e1.a _ true e1.l (by omega) (by omega) ha3) (fun r s4 q _ _ => ?_)
          rw [show ((n : Int) - 0).toNat = n by omega] at q
          have sv5 : Sv s4 := ⟨⟩
          obtain ⟨x4, ⟨h1', rfl⟩ | ⟨a', h1', rfl, h2', h3'⟩⟩ := q.split
          · have hf4 := x4 _ _ hf3
            repeat' ((conv => whnf); (first | (rw [hf4]) | refine pickk0 ?_ | refine csp (fun h => ?_) (fun h => ?_) | (refine sda ?_ ?_; (focus (first | rfl | exact of_decide_eq_true rfl | (simp; done)))) | refine sda ?_ ?_ | refine conk rfl ?_ | refine ldk rfl ?_ | refine mapk (fun x hx => ?_) | exact ⟨rfl, rfl⟩ | refine nilk (fun h => absurd h (of_decide_eq_false rfl)) ?_ | refine nilk (fun h => absurd h (List.cons_ne_nil _ _)) ?_ | refine nilk (fun h => ?_) ?_ | exact rfl | refine leftk1 rfl ?_ | refine bytk8 rfl ?_ | refine bytk rfl ?_ | exact leftk0 rfl | refine eqk rfl ?_ | refine fLm rfl ?_ | refine fLk (by assumption) ?_ | refine fVk ?_ | refine fLVk ?_ | refine fWk ?_ | intro hl))
            refine fLset hf4 (fun s5 a5 b5 sv6 => ?_)
            repeat' ((conv => whnf); (first | (rw [a5]) | refine pickk0 ?_ | refine csp (fun h => ?_) (fun h => ?_) | (refine sda ?_ ?_; (focus (first | rfl | exact of_decide_eq_true rfl | (simp; done)))) | refine sda ?_ ?_ | refine conk rfl ?_ | refine ldk rfl ?_ | refine mapk (fun x hx => ?_) | exact ⟨rfl, rfl⟩ | refine nilk (fun h => absurd h (of_decide_eq_false rfl)) ?_ | refine nilk (fun h => absurd h (List.cons_ne_nil _ _)) ?_ | refine nilk (fun h => ?_) ?_ | exact rfl | refine leftk1 rfl ?_ | refine bytk8 rfl ?_ | refine bytk rfl ?_ | exact leftk0 rfl | refine eqk rfl ?_ | refine fLm rfl ?_ | refine fLk (by assumption) ?_ | refine fVk ?_ | refine fLVk ?_ | refine fWk ?_ | intro hl))
            refine fLset a5 (fun s6 a6 b6 sv7 => ?_)
            conv => whnf
            obtain ⟨z, hz1, hz2⟩ := fin s4 s6 0 [] h1'.symm x4 (fun q => absurd rfl q) (fun j hj => by rw [b6 j hj, b5 j hj]) (fun q => absurd rfl q) a6
            exact ⟨z, rfl, hz1, hz2⟩
          · have hf4 := x4 _ _ hf3
            repeat' ((conv => whnf); (first | (rw [hf4]) | refine pickk0 ?_ | refine csp (fun h => ?_) (fun h => ?_) | (refine sda ?_ ?_; (focus (first | rfl | exact of_decide_eq_true rfl | (simp; done)))) | refine sda ?_ ?_ | refine conk rfl ?_ | refine ldk rfl ?_ | refine mapk (fun x hx => ?_) | exact ⟨rfl, rfl⟩ | refine nilk (fun h => absurd h (of_decide_eq_false rfl)) ?_ | refine nilk (fun h => absurd h (List.cons_ne_nil _ _)) ?_ | refine nilk (fun h => ?_) ?_ | exact rfl | refine leftk1 rfl ?_ | refine bytk8 rfl ?_ | refine bytk rfl ?_ | exact leftk0 rfl | refine eqk rfl ?_ | refine fLm rfl ?_ | refine fLk (by assumption) ?_ | refine fVk ?_ | refine fLVk ?_ | refine fWk ?_ | intro hl))
            refine fLset hf4 (fun s5 a5 b5 sv6 => ?_)
            repeat' ((conv => whnf); (first | (rw [a5]) | refine pickk0 ?_ | refine csp (fun h => ?_) (fun h => ?_) | (refine sda ?_ ?_; (focus (first | rfl | exact of_decide_eq_true rfl | (simp; done)))) | refine sda ?_ ?_ | refine conk rfl ?_ | refine ldk rfl ?_ | refine mapk (fun x hx => ?_) | exact ⟨rfl, rfl⟩ | refine nilk (fun h => absurd h (of_decide_eq_false rfl)) ?_ | refine nilk (fun h => absurd h (List.cons_ne_nil _ _)) ?_ | refine nilk (fun h => ?_) ?_ | exact rfl | refine leftk1 rfl ?_ | refine bytk8 rfl ?_ | refine bytk rfl ?_ | exact leftk0 rfl | refine eqk rfl ?_ | refine fLm rfl ?_ | refine fLk (by assumption) ?_ | refine fVk ?_ | refine fLVk ?_ | refine fWk ?_ | intro hl))
            refine fLset a5 (fun s6 a6 b6 sv7 => ?_)
            conv => whnf
            obtain ⟨z, hz1, hz2⟩ := fin s4 s6 a' (e1.l.take n) rfl x4 (fun _ => h2') (fun j hj => by rw [b6 j hj, b5 j hj]) (fun _ => h3') (by rw [cell_ne h1']; exact a6)
            exact ⟨z, rfl, hz1, hz2⟩
end
end Go.Proofs.Ytlognebkifjfbaa

/- Worlds of files in memory: operations. -/
set_option maxRecDepth 100000
set_option linter.all false
namespace Go.Proofs.Ytlognebkifjfbaa
open Ab R
/-- One operation more. -/
def Wd.op (W : Wd) : Wd := { W with ops := IntKind.i64.wrap (W.ops + 1), cut := if 0 < W.cut then IntKind.i64.wrap (W.cut - 1) else W.cut }
def Wd.hit (W : Wd) : Bool := decide (0 < W.cut) && decide (IntKind.i64.wrap (W.cut - 1) = 0)
section
variable {wi mi : Nat} {W : Wd} {s : List O}
/-- What is behind an operation: it was done, or the power failed. -/
def Aft (wi mi : Nat) (W0 : Wd) (s0 : List O) (W : Wd) (QQ : List O → Prop) (r : V) (s' : List O) : Prop :=
  if W.hit then r = .int .i64 13 ∧ ∃ W', Did wi mi W0 s0 W' s' ∧ W'.h = { W.op.h with off := true } ∧ W'.fs = W.fs.map (Fi.trunc W.keep) else r = .int .i64 0 ∧ QQ s'
set_option maxHeartbeats 4000000 in
theorem w_oper (hI : IsW wi mi W s) (g : FuncId) (caps : List V) (QQ : List O → Prop) (hd : W.hit = false → ∀ s1, Did wi mi W s W.op s1 → RetQ Try.prog g caps s1 fun _ s' => QQ s') :
    RetQ Try.prog F_files_World_operation [.ptr wi 0, .fn g [] caps] s (Aft wi mi W s W QQ) := by
  refine rq_files_World_operation rfl fun _ _ => ?_
  have sv : Sv s := ⟨⟩
  have hw := hI.w
  repeat' ((conv => whnf); (first | (rw [hw]) | refine pickk0 ?_ | refine csp (fun h => ?_) (fun h => ?_) | (refine sda ?_ ?_; (focus (first | rfl | exact of_decide_eq_true rfl | (simp; done)))) | refine sda ?_ ?_ | refine conk rfl ?_ | refine ldk rfl ?_ | refine mapk (fun x hx => ?_) | exact ⟨rfl, rfl⟩ | refine nilk (fun h => absurd h (of_decide_eq_false rfl)) ?_ | refine nilk (fun h => absurd h (List.cons_ne_nil _ _)) ?_ | refine nilk (fun h => ?_) ?_ | exact rfl | refine leftk1 rfl ?_ | refine bytk8 rfl ?_ | refine bytk rfl ?_ | exact leftk0 rfl | refine eqk rfl ?_ | refine fLm rfl ?_ | refine fLk (by assumption) ?_ | refine fVk ?_ | refine fLVk ?_ | refine fWk ?_ | intro hl))
  refine fLset hI.w (fun s1 a1 b1 sv1 => ?_)
  have D1 := Did.box hI W.off W.cut W.keep (IntKind.i64.wrap (W.ops + 1)) W.wr hI.kk a1 b1
  have hw1 := D1.1.w
  repeat' ((conv => whnf); (first | (rw [hw1]) | refine pickk0 ?_ | refine csp (fun h => ?_) (fun h => ?_) | (refine sda ?_ ?_; (focus (first | rfl | exact of_decide_eq_true rfl | (simp; done)))) | refine sda ?_ ?_ | refine conk rfl ?_ | refine ldk rfl ?_ | refine mapk (fun x hx => ?_) | exact ⟨rfl, rfl⟩ | refine nilk (fun h => absurd h (of_decide_eq_false rfl)) ?_ | refine nilk (fun h => absurd h (List.cons_ne_nil _ _)) ?_ | refine nilk (fun h => ?_) ?_ | exact rfl | refine leftk1 rfl ?_ | refine bytk8 rfl ?_ | refine bytk rfl ?_ | exact leftk0 rfl | refine eqk rfl ?_ | refine fLm rfl ?_ | refine fLk (by assumption) ?_ | refine fVk ?_ | refine fLVk ?_ | refine fWk ?_ | intro hl))
  · conv => whnf
    refine fLset hw1 (fun s2 a2 b2 sv2 => ?_)
    have D2 := D1.trans (Did.box D1.1 W.off (IntKind.i64.wrap (W.cut - 1)) W.keep (IntKind.i64.wrap (W.ops + 1)) W.wr hI.kk a2 b2)
    have hw2 := D2.1.w
    have hc : 0 < W.cut := of_decide_eq_true h
    have hop : W.op = { W with off := W.off, cut := IntKind.i64.wrap (W.cut - 1), keep := W.keep, ops := IntKind.i64.wrap (W.ops + 1), wr := W.wr } := by
      unfold Wd.op
      rw [if_pos hc]
    repeat' ((conv => whnf); (first | (rw [hw2]) | refine pickk0 ?_ | refine csp (fun h => ?_) (fun h => ?_) | (refine sda ?_ ?_; (focus (first | rfl | exact of_decide_eq_true rfl | (simp; done)))) | refine sda ?_ ?_ | refine conk rfl ?_ | refine ldk rfl ?_ | refine mapk (fun x hx => ?_) | exact ⟨rfl, rfl⟩ | refine nilk (fun h => absurd h (of_decide_eq_false rfl)) ?_ | refine nilk (fun h => absurd h (List.cons_ne_nil _ _)) ?_ | refine nilk (fun h => ?_) ?_ | exact rfl | refine leftk1 rfl ?_ | refine bytk8 rfl ?_ | refine bytk rfl ?_ | exact leftk0 rfl | refine eqk rfl ?_ | refine fLm rfl ?_ | refine fLk (by assumption) ?_ | refine fVk ?_ | refine fLVk ?_ | refine fWk ?_ | intro hl))
    · conv => whnf
      refine clq (w_fail D2.1) (fun r s3 q _ _ => ?_)
      obtain ⟨rfl, W', D3, e1, e2⟩ := q
      have sv3 : Sv s3 := ⟨⟩
      repeat' ((conv => whnf); (first | refine pickk0 ?_ | refine csp (fun h => ?_) (fun h => ?_) | (refine sda ?_ ?_; (focus (first | rfl | exact of_decide_eq_true rfl | (simp; done)))) | refine sda ?_ ?_ | refine conk rfl ?_ | refine ldk rfl ?_ | refine mapk (fun x hx => ?_) | exact ⟨rfl, rfl⟩ | refine nilk (fun h => absurd h (of_decide_eq_false rfl)) ?_ | refine nilk (fun h => absurd h (List.cons_ne_nil _ _)) ?_ | refine nilk (fun h => ?_) ?_ | exact rfl | refine leftk1 rfl ?_ | refine bytk8 rfl ?_ | refine bytk rfl ?_ | exact leftk0 rfl | refine eqk rfl ?_ | refine fLm rfl ?_ | refine fLk (by assumption) ?_ | refine fVk ?_ | refine fLVk ?_ | refine fWk ?_ | intro hl))
      conv => whnf
      have hh : W.hit = true := by unfold Wd.hit; rw [decide_eq_true hc]; assumption
      show Aft wi mi W s W QQ (.int .i64 13) s3
      unfold Aft
      rw [if_pos hh]
      exact ⟨rfl, W', D2.trans D3, by rw [e1, hop], e2⟩
    · conv => whnf
      have hh : W.hit = false := by unfold Wd.hit; rw [decide_eq_true hc]; assumption
      refine clq (hd hh s2 (by rw [hop]; exact D2)) (fun r s3 q _ _ => ?_)
      have sv3 : Sv s3 := ⟨⟩
      repeat' ((conv => whnf); (first | refine pickk0 ?_ | refine csp (fun h => ?_) (fun h => ?_) | (refine sda ?_ ?_; (focus (first | rfl | exact of_decide_eq_true rfl | (simp; done)))) | refine sda ?_ ?_ | refine conk rfl ?_ | refine ldk rfl ?_ | refine mapk (fun x hx => ?_) | exact ⟨rfl, rfl⟩ | refine nilk (fun h => absurd h (of_decide_eq_false rfl)) ?_ | refine nilk (fun h => absurd h (List.cons_ne_nil _ _)) ?_ | refine nilk (fun h => ?_) ?_ | exact rfl | refine leftk1 rfl ?_ | refine bytk8 rfl ?_ | refine bytk rfl ?_ | exact leftk0 rfl | refine eqk rfl ?_ | refine fLm rfl ?_ | refine fLk (by assumption) ?_ | refine fVk ?_ | refine fLVk ?_ | refine fWk ?_ | intro hl))
      conv => whnf
      show Aft wi mi W s W QQ (.int .i64 0) s3
      unfold Aft
      rw [hh]
      exact ⟨rfl, q⟩
  · conv => whnf
    have hc : ¬ 0 < W.cut := of_decide_eq_false h
    have hh : W.hit = false := by unfold Wd.hit; rw [decide_eq_false hc]; rfl
    have hop : W.op = { W with off := W.off, cut := W.cut, keep := W.keep, ops := IntKind.i64.wrap (W.ops + 1), wr := W.wr } := by
      unfold Wd.op
      rw [if_neg hc]
    refine clq (hd hh s1 (by rw [hop]; exact D1)) (fun r s3 q _ _ => ?_)
    have sv3 : Sv s3 := ⟨⟩
    repeat' ((conv => whnf); (first | refine pickk0 ?_ | refine csp (fun h => ?_) (fun h => ?_) | (refine sda ?_ ?_; (focus (first | rfl | exact of_decide_eq_true rfl | (simp; done)))) | refine sda ?_ ?_ | refine conk rfl ?_ | refine ldk rfl ?_ | refine mapk (fun x hx => ?_) | exact ⟨rfl, rfl⟩ | refine nilk (fun h => absurd h (of_decide_eq_false rfl)) ?_ | refine nilk (fun h => absurd h (List.cons_ne_nil _ _)) ?_ | refine nilk (fun h => ?_) ?_ | exact rfl | refine leftk1 rfl ?_ | refine bytk8 rfl ?_ | refine bytk rfl ?_ | exact leftk0 rfl | refine eqk rfl ?_ | refine fLm rfl ?_ | refine fLk (by assumption) ?_ | refine fVk ?_ | refine fLVk ?_ | refine fWk ?_ | intro hl))
    conv => whnf
    show Aft wi mi W s W QQ (.int .i64 0) s3
    unfold Aft
    rw [hh]
    exact ⟨rfl, q⟩
end
end Go.Proofs.Ytlognebkifjfbaa

/- Worlds of files in memory: Create, Remove, Sync. -/
set_option maxRecDepth 100000
set_option linter.all false
namespace Go.Proofs.Ytlognebkifjfbaa
open Ab R
theorem fnd_some {es : List En} {n : ByteArray} {e : En} (h : fnd es n = some e) : e ∈ es ∧ e.nm = n :=
  ⟨List.mem_of_find?_eq_some h, (of_decide_eq_true (p := n = e.nm) (by have := List.find?_some h; exact this)).symm⟩
theorem fnd_none {es : List En} {n : ByteArray} (h : fnd es n = none) : ∀ e ∈ es, e.nm ≠ n := fun e he q => by
  have := List.find?_eq_none.1 h e he
  simp [q] at this
theorem fs_set {es : List En} {j : Nat} {e x : En} (hn : es.Pairwise fun x y => x.nm ≠ y.nm) (hj : es[j]? = some e) (hx : x.nm = e.nm) (f : Fi) : f ∈ (es.set j x).map En.fi ↔ f = x.fi ∨ (f ∈ es.map En.fi ∧ f.nm ≠ e.nm) := by
  constructor
  · intro h
    obtain ⟨y, hy, rfl⟩ := List.mem_map.1 h
    rcases mem_set hy with rfl | ⟨i, hij, hy⟩
    · exact .inl rfl
    · exact .inr ⟨List.mem_map_of_mem (List.mem_of_getElem? hy), pair_get (ne_symm En.nm) hn hy hj hij⟩
  · rintro (rfl | ⟨h, hne⟩)
    · refine List.mem_map_of_mem (List.mem_iff_getElem?.2 ⟨j, ?_⟩)
      rw [List.getElem?_set, if_pos rfl, if_pos (List.getElem?_eq_some_iff.1 hj).1]
    · obtain ⟨y, hy, rfl⟩ := List.mem_map.1 h
      obtain ⟨i, hi⟩ := List.mem_iff_getElem?.1 hy
      refine List.mem_map_of_mem (List.mem_iff_getElem?.2 ⟨i, ?_⟩)
      rw [List.getElem?_set, if_neg, hi]
      intro q
      subst q
      rw [hj] at hi
      obtain rfl := Option.some.inj hi
      exact hne rfl
theorem fs_push {es : List En} {x : En} (hn : ∀ e ∈ es, e.nm ≠ x.nm) (f : Fi) : f ∈ (es ++ [x]).map En.fi ↔ f = x.fi ∨ (f ∈ es.map En.fi ∧ f.nm ≠ x.nm) := by
  rw [List.map_append, List.mem_append, List.map_singleton, List.mem_singleton]
  constructor
  · rintro (h | h)
    · obtain ⟨y, hy, rfl⟩ := List.mem_map.1 h
      exact .inr ⟨h, hn y hy⟩
    · exact .inl h
  · rintro (h | h)
    · exact .inr h
    · exact .inl h.1
theorem set_v {es : List En} {j : Nat} {e x : En} (hj : es[j]? = some e) (nm : ByteArray) (p : Nat) (hx : x.v = (e.born, .str nm, .ptr p 0)) : setAt (es.map En.v) (0 + j) (e.v.1, .str nm, .ptr p 0) = (es.set j x).map En.v := by
  rw [setAt_eq, Nat.zero_add, List.map_set, hx]
section
variable {wi mi : Nat} {W : Wd} {s : List O}
def Became (wi mi : Nat) (W : Wd) (s : List O) (g : Fi → Prop) (s' : List O) : Prop := ∃ W', Did wi mi W s W' s' ∧ W'.h = W.h ∧ ∀ f, f ∈ W'.fs ↔ g f
set_option maxHeartbeats 4000000 in
theorem w_create1 (hI : IsW wi mi W s) (n1 n2 : Nat) (nm : ByteArray) (h1 : at? s n1 = some (.box true [.ptr wi 0])) (h2 : at? s n2 = some (.box true [.str nm])) (hlen : fnd W.es nm = none → W.es.length < 16) :
    RetQ Try.prog F_files_World_Create_1 [.ptr n1 0, .ptr n2 0] s fun _ s' => Became wi mi W s (fun f => f = ⟨nm, [], 0⟩ ∨ (f ∈ W.fs ∧ f.nm ≠ nm)) s' := by
  refine rq_files_World_Create_1 rfl fun _ _ => ?_
  have sv : Sv s := ⟨⟩
  have hw := hI.w
  repeat' ((conv => whnf); (first | (rw [h1]) | (rw [h2]) | (rw [hw]) | refine pickk0 ?_ | refine csp (fun h => ?_) (fun h => ?_) | (refine sda ?_ ?_; (focus (first | rfl | exact of_decide_eq_true rfl | (simp; done)))) | refine sda ?_ ?_ | refine conk rfl ?_ | refine ldk rfl ?_ | refine mapk (fun x hx => ?_) | exact ⟨rfl, rfl⟩ | refine nilk (fun h => absurd h (of_decide_eq_false rfl)) ?_ | refine nilk (fun h => absurd h (List.cons_ne_nil _ _)) ?_ | refine nilk (fun h => ?_) ?_ | exact rfl | refine leftk1 rfl ?_ | refine bytk8 rfl ?_ | refine bytk rfl ?_ | exact leftk0 rfl | refine eqk rfl ?_ | refine fLm rfl ?_ | refine fLk (by assumption) ?_ | refine fVk ?_ | refine fLVk ?_ | refine fWk ?_ | intro hl))
  refine fLnew (fun s1 x1 f1 o1 sv1 => ?_)
  have hm1 := x1 _ _ hI.m
  generalize s.length = p at f1 o1
  repeat' ((conv => whnf); (first | (rw [hm1]) | refine pickk0 ?_ | refine csp (fun h => ?_) (fun h => ?_) | (refine sda ?_ ?_; (focus (first | rfl | exact of_decide_eq_true rfl | (simp; done)))) | refine sda ?_ ?_ | refine conk rfl ?_ | refine ldk rfl ?_ | refine mapk (fun x hx => ?_) | exact ⟨rfl, rfl⟩ | refine nilk (fun h => absurd h (of_decide_eq_false rfl)) ?_ | refine nilk (fun h => absurd h (List.cons_ne_nil _ _)) ?_ | refine nilk (fun h => ?_) ?_ | exact rfl | refine leftk1 rfl ?_ | refine bytk8 rfl ?_ | refine bytk rfl ?_ | exact leftk0 rfl | refine eqk rfl ?_ | refine fLm rfl ?_ | refine fLk (by assumption) ?_ | refine fVk ?_ | refine fLVk ?_ | refine fWk ?_ | intro hl))
  conv => whnf
  have hpm : p ≠ mi := fun q => by rw [q, hI.m] at f1; cases f1
  have keep : ∀ s2 : List O, (∀ j, j ≠ mi → at? s2 j = at? s1 j) → ∀ i o, i ≠ mi → at? s i = some o → at? s2 i = some o := fun s2 b2 i o hi ho => by rw [b2 i hi]; exact x1 i o ho
  refine findW rfl nm W.es 0 (fun j e hj hn hf => ?_) (fun hf => ?_)
  · subst hn
    conv => whnf
    refine fLset hm1 (fun s2 a2 b2 sv2 => ?_)
    rw [set_v hj e.nm p (x := { e with p := p, a := 0, l := [], sy := 0 }) rfl] at a2
    have D := Did.put hI hj p 0 [] 0 a2 (keep s2 b2) f1 (by rw [b2 p hpm]; exact o1) (fun h => absurd rfl h) (fun h => absurd rfl h) ⟨by simp, by simp, by simp⟩
    repeat' ((conv => whnf); (first | refine pickk0 ?_ | refine csp (fun h => ?_) (fun h => ?_) | (refine sda ?_ ?_; (focus (first | rfl | exact of_decide_eq_true rfl | (simp; done)))) | refine sda ?_ ?_ | refine conk rfl ?_ | refine ldk rfl ?_ | refine mapk (fun x hx => ?_) | exact ⟨rfl, rfl⟩ | refine nilk (fun h => absurd h (of_decide_eq_false rfl)) ?_ | refine nilk (fun h => absurd h (List.cons_ne_nil _ _)) ?_ | refine nilk (fun h => ?_) ?_ | exact rfl | refine leftk1 rfl ?_ | refine bytk8 rfl ?_ | refine bytk rfl ?_ | exact leftk0 rfl | refine eqk rfl ?_ | refine fLm rfl ?_ | refine fLk (by assumption) ?_ | refine fVk ?_ | refine fLVk ?_ | refine fWk ?_ | intro hl))
    conv => whnf
    exact ⟨_, D, rfl, fun f => fs_set (x := { e with p := p, a := 0, l := [], sy := 0 }) hI.nn hj rfl f⟩
  · conv => whnf
    refine sda (by rw [List.length_map]; have := hI.en; omega) ?_
    conv => whnf
    refine pickk0 ?_
    conv => whnf
    refine fLset hm1 (fun s2 a2 b2 sv2 => ?_)
    have a2 : at? s2 mi = some (.map (W.ck + 1) ((W.es ++ [En.mk W.ck nm p 0 [] 0]).map En.v)) := by rw [a2, List.map_append]; rfl
    have D := Did.push hI nm p 0 [] 0 (fnd_none hf) (hlen hf) a2 (keep s2 b2) f1 (by rw [b2 p hpm]; exact o1) (fun h => absurd rfl h) (fun h => absurd rfl h) ⟨by simp, by simp, by simp⟩
    repeat' ((conv => whnf); (first | refine pickk0 ?_ | refine csp (fun h => ?_) (fun h => ?_) | (refine sda ?_ ?_; (focus (first | rfl | exact of_decide_eq_true rfl | (simp; done)))) | refine sda ?_ ?_ | refine conk rfl ?_ | refine ldk rfl ?_ | refine mapk (fun x hx => ?_) | exact ⟨rfl, rfl⟩ | refine nilk (fun h => absurd h (of_decide_eq_false rfl)) ?_ | refine nilk (fun h => absurd h (List.cons_ne_nil _ _)) ?_ | refine nilk (fun h => ?_) ?_ | exact rfl | refine leftk1 rfl ?_ | refine bytk8 rfl ?_ | refine bytk rfl ?_ | exact leftk0 rfl | refine eqk rfl ?_ | refine fLm rfl ?_ | refine fLk (by assumption) ?_ | refine fVk ?_ | refine fLVk ?_ | refine fWk ?_ | intro hl))
    conv => whnf
    exact ⟨_, D, rfl, fun f => fs_push (fnd_none hf) f⟩
set_option maxHeartbeats 4000000 in
theorem w_sync1 (hI : IsW wi mi W s) (n1 : Nat) {e : En} (he : e ∈ W.es) (h1 : at? s n1 = some (.box true [.ptr e.p 0])) :
    RetQ Try.prog F_files_World_Sync_1 [.ptr n1 0] s fun _ s' => Became wi mi W s (fun f => f = ⟨e.nm, e.l, e.l.length⟩ ∨ (f ∈ W.fs ∧ f.nm ≠ e.nm)) s' := by
  refine rq_files_World_Sync_1 rfl fun _ _ => ?_
  have sv : Sv s := ⟨⟩
  have hf0 := hI.f e he
  obtain ⟨j, hj⟩ := List.mem_iff_getElem?.1 he
  have hll := hI.ll e he
  have fin : ∀ s2, at? s2 e.p = some (.box true [cell e.a e.l, .int .i64 e.l.length]) → (∀ j, j ≠ e.p → at? s2 j = at? s j) → Became wi mi W s (fun f => f = ⟨e.nm, e.l, e.l.length⟩ ∨ (f ∈ W.fs ∧ f.nm ≠ e.nm)) s2 := fun s2 a2 b2 =>
    ⟨_, Did.file hI hj e.a e.l e.l.length ⟨hll.1, by omega, by omega⟩ a2 (fun i o hi _ ho => by rw [b2 i hi]; exact ho) (fun hl => by rw [b2 _ (hI.pa he he hl)]; exact hI.a e he hl) (fun hl => .inr ⟨hl, rfl⟩), rfl, fun f => fs_set (x := { e with a := e.a, l := e.l, sy := e.l.length }) hI.nn hj rfl f⟩
  by_cases hl : e.l = []
  · rw [hl] at hf0 fin
    simp only [cell] at hf0 fin
    rw [hl]
    repeat' ((conv => whnf); (first | (rw [h1]) | (rw [hf0]) | refine pickk0 ?_ | refine csp (fun h => ?_) (fun h => ?_) | (refine sda ?_ ?_; (focus (first | rfl | exact of_decide_eq_true rfl | (simp; done)))) | refine sda ?_ ?_ | refine conk rfl ?_ | refine ldk rfl ?_ | refine mapk (fun x hx => ?_) | exact ⟨rfl, rfl⟩ | refine nilk (fun h => absurd h (of_decide_eq_false rfl)) ?_ | refine nilk (fun h => absurd h (List.cons_ne_nil _ _)) ?_ | refine nilk (fun h => ?_) ?_ | exact rfl | refine leftk1 rfl ?_ | refine bytk8 rfl ?_ | refine bytk rfl ?_ | exact leftk0 rfl | refine eqk rfl ?_ | refine fLm rfl ?_ | refine fLk (by assumption) ?_ | refine fVk ?_ | refine fLVk ?_ | refine fWk ?_ | intro hl))
    conv => whnf
    refine fLset hf0 (fun s2 a2 b2 sv2 => ?_)
    repeat' ((conv => whnf); (first | refine pickk0 ?_ | refine csp (fun h => ?_) (fun h => ?_) | (refine sda ?_ ?_; (focus (first | rfl | exact of_decide_eq_true rfl | (simp; done)))) | refine sda ?_ ?_ | refine conk rfl ?_ | refine ldk rfl ?_ | refine mapk (fun x hx => ?_) | exact ⟨rfl, rfl⟩ | refine nilk (fun h => absurd h (of_decide_eq_false rfl)) ?_ | refine nilk (fun h => absurd h (List.cons_ne_nil _ _)) ?_ | refine nilk (fun h => ?_) ?_ | exact rfl | refine leftk1 rfl ?_ | refine bytk8 rfl ?_ | refine bytk rfl ?_ | exact leftk0 rfl | refine eqk rfl ?_ | refine fLm rfl ?_ | refine fLk (by assumption) ?_ | refine fVk ?_ | refine fLVk ?_ | refine fWk ?_ | intro hl))
    conv => whnf
    exact fin s2 a2 b2
  · rw [cell_ne hl] at hf0 fin
    repeat' ((conv => whnf); (first | (rw [h1]) | (rw [hf0]) | refine pickk0 ?_ | refine csp (fun h => ?_) (fun h => ?_) | (refine sda ?_ ?_; (focus (first | rfl | exact of_decide_eq_true rfl | (simp; done)))) | refine sda ?_ ?_ | refine conk rfl ?_ | refine ldk rfl ?_ | refine mapk (fun x hx => ?_) | exact ⟨rfl, rfl⟩ | refine nilk (fun h => absurd h (of_decide_eq_false rfl)) ?_ | refine nilk (fun h => absurd h (List.cons_ne_nil _ _)) ?_ | refine nilk (fun h => ?_) ?_ | exact rfl | refine leftk1 rfl ?_ | refine bytk8 rfl ?_ | refine bytk rfl ?_ | exact leftk0 rfl | refine eqk rfl ?_ | refine fLm rfl ?_ | refine fLk (by assumption) ?_ | refine fVk ?_ | refine fLVk ?_ | refine fWk ?_ | intro hl))
    conv => whnf
    refine fLset hf0 (fun s2 a2 b2 sv2 => ?_)
    repeat' ((conv => whnf); (first | refine pickk0 ?_ | refine csp (fun h => ?_) (fun h => ?_) | (refine sda ?_ ?_; (focus (first | rfl | exact of_decide_eq_true rfl | (simp; done)))) | refine sda ?_ ?_ | refine conk rfl ?_ | refine ldk rfl ?_ | refine mapk (fun x hx => ?_) | exact ⟨rfl, rfl⟩ | refine nilk (fun h => absurd h (of_decide_eq_false rfl)) ?_ | refine nilk (fun h => absurd h (List.cons_ne_nil _ _)) ?_ | refine nilk (fun h => ?_) ?_ | exact rfl | refine leftk1 rfl ?_ | refine bytk8 rfl ?_ | refine bytk rfl ?_ | exact leftk0 rfl | refine eqk rfl ?_ | refine fLm rfl ?_ | refine fLk (by assumption) ?_ | refine fVk ?_ | refine fLVk ?_ | refine fWk ?_ | intro hl))
    conv => whnf
    exact fin s2 a2 b2
end
end Go.Proofs.Ytlognebkifjfbaa

/- Worlds of files in memory: Create, Remove, Sync, Rename, whole. -/
set_option maxRecDepth 100000
set_option linter.all false
namespace Go.Proofs.Ytlognebkifjfbaa
open Ab R
section
variable {wi mi : Nat} {W : Wd} {s : List O}
/-- What is behind an operation that makes such files. -/
def Done (wi mi : Nat) (W0 : Wd) (s0 : List O) (W : Wd) (g : Fi → Prop) (r : V) (s' : List O) : Prop :=
  Aft wi mi W0 s0 W (fun s' => ∃ W', Did wi mi W0 s0 W' s' ∧ W'.h = W.op.h ∧ ∀ f, f ∈ W'.fs ↔ g f) r s'
theorem retq_mono {P : Program} {f : FuncId} {args : List V} {s : List O} {Q R : V → List O → Prop} (h : RetQ P f args s Q) (k : ∀ r s', Q r s' → R r s') : RetQ P f args s R := by
  intro m w vs ι hm rv
  have h1 := h m w vs ι hm rv
  unfold CallsX at h1 ⊢
  generalize (callFunc f vs.toArray).run P w = q at h1 ⊢
  have fin : ∀ {v : Value} {w' : World}, (∃ (m' : Mem) (ι' : List Blk) (r : V) (s' : List O), Q r s' ∧ Mo ⟨w, lent s ι, ι⟩ m m' ι' s' w' ∧ Rep m' ι' r v) → ∃ (m' : Mem) (ι' : List Blk) (r : V) (s' : List O), R r s' ∧ Mo ⟨w, lent s ι, ι⟩ m m' ι' s' w' ∧ Rep m' ι' r v :=
    fun ⟨a, b, c, d, e, f⟩ => ⟨a, b, c, d, k _ _ e, f⟩
  cases q with
  | ok nx w1 =>
    cases nx <;> first
      | exact fin h1
      | exact h1.mono fun e w'' ⟨v, he, h2⟩ => ⟨v, he, fin h2⟩
      | exact h1.elim
  | halt x w1 => exact h1.elim
theorem w_oper2 {W0 : Wd} {s0 : List O} (hI : IsW wi mi W s) (D : Did wi mi W0 s0 W s) (g : FuncId) (caps : List V) (gF : Fi → Prop) (hd : ∀ s1, Did wi mi W s W.op s1 → RetQ Try.prog g caps s1 fun _ s' => Became wi mi W.op s1 gF s') :
    RetQ Try.prog F_files_World_operation [.ptr wi 0, .fn g [] caps] s (Done wi mi W0 s0 W gF) := by
  refine retq_mono (w_oper hI g caps (fun s' => ∃ W', Did wi mi W s W' s' ∧ W'.h = W.op.h ∧ ∀ f, f ∈ W'.fs ↔ gF f) (fun _ s1 D1 => retq_mono (hd s1 D1) fun _ s' ⟨W', D2, h1, h2⟩ => ⟨W', D1.trans D2, h1, h2⟩)) fun r s' q => ?_
  unfold Done Aft at *
  split at q
  · rename_i hh
    rw [if_pos hh]
    obtain ⟨q0, W', D2, q1, q2⟩ := q
    exact ⟨q0, W', D.trans D2, q1, q2⟩
  · rename_i hh
    rw [if_neg hh]
    obtain ⟨q0, W', D2, q1, q2⟩ := q
    exact ⟨q0, W', D.trans D2, q1, q2⟩
theorem not_foot {wi mi : Nat} {W : Wd} {s : List O} (hI : IsW wi mi W s) {n : Nat} (h : at? s n = none) : ¬ foot wi mi W n := by
  rintro (q | q | ⟨e, he, q | ⟨q1, q2⟩⟩)
  · rw [q, hI.w] at h; cases h
  · rw [q, hI.m] at h; cases h
  · rw [q, hI.f e he] at h; cases h
  · rw [q2, hI.a e he q1] at h; cases h
def CreateQ (wi mi : Nat) (W : Wd) (s : List O) (nm : ByteArray) (r : V) (s' : List O) : Prop :=
  if W.off then r = .int .i64 13 ∧ Did wi mi W s W s'
  else if gnm nm = false then r = .int .i64 8 ∧ Did wi mi W s W s'
  else if fnd W.es nm = none ∧ 16 ≤ W.es.length then r = .int .i64 9 ∧ Did wi mi W s W s'
  else Done wi mi W s W (fun f => f = ⟨nm, [], 0⟩ ∨ (f ∈ W.fs ∧ f.nm ≠ nm)) r s'
set_option maxHeartbeats 4000000 in
theorem w_Create (hI : IsW wi mi W s) (nm : ByteArray) (hn : nm.size ≤ 140737488355327) : RetQ Try.prog F_files_World_Create [.ptr wi 0, .str nm] s (CreateQ wi mi W s nm) := by
  refine rq_files_World_Create rfl fun _ _ => ?_
  have sv : Sv s := ⟨⟩
  repeat' ((conv => whnf); (first | refine pickk0 ?_ | refine csp (fun h => ?_) (fun h => ?_) | (refine sda ?_ ?_; (focus (first | rfl | exact of_decide_eq_true rfl | (simp; done)))) | refine sda ?_ ?_ | refine conk rfl ?_ | refine ldk rfl ?_ | refine mapk (fun x hx => ?_) | exact ⟨rfl, rfl⟩ | refine nilk (fun h => absurd h (of_decide_eq_false rfl)) ?_ | refine nilk (fun h => absurd h (List.cons_ne_nil _ _)) ?_ | refine nilk (fun h => ?_) ?_ | exact rfl | refine leftk1 rfl ?_ | refine bytk8 rfl ?_ | refine bytk rfl ?_ | exact leftk0 rfl | refine eqk rfl ?_ | refine fLm rfl ?_ | refine fLk (by assumption) ?_ | refine fVk ?_ | refine fLVk ?_ | refine fWk ?_ | intro hl))
  refine fLnew (fun s1 x1 f1 o1 sv1 => ?_)
  generalize s.length = n1 at f1 o1
  repeat' ((conv => whnf); (first | refine pickk0 ?_ | refine csp (fun h => ?_) (fun h => ?_) | (refine sda ?_ ?_; (focus (first | rfl | exact of_decide_eq_true rfl | (simp; done)))) | refine sda ?_ ?_ | refine conk rfl ?_ | refine ldk rfl ?_ | refine mapk (fun x hx => ?_) | exact ⟨rfl, rfl⟩ | refine nilk (fun h => absurd h (of_decide_eq_false rfl)) ?_ | refine nilk (fun h => absurd h (List.cons_ne_nil _ _)) ?_ | refine nilk (fun h => ?_) ?_ | exact rfl | refine leftk1 rfl ?_ | refine bytk8 rfl ?_ | refine bytk rfl ?_ | exact leftk0 rfl | refine eqk rfl ?_ | refine fLm rfl ?_ | refine fLk (by assumption) ?_ | refine fVk ?_ | refine fLVk ?_ | refine fWk ?_ | intro hl))
  refine fLnew (fun s2 x2 f2 o2 sv2 => ?_)
  generalize s1.length = n2 at f2 o2
  have D2 := (Did.ext hI x1).trans (Did.ext (hI.ext x1) x2)
  have o1' := x2 _ _ o1
  have hw := D2.1.w
  have hm := D2.1.m
  have hmay := w_may1 hw nm hn
  cases hoff : W.off with
  | true =>
    rw [hoff] at hmay
    simp only [if_true] at hmay
    repeat' ((conv => whnf); (first | (rw [o1']) | (rw [o2]) | refine pickk0 ?_ | refine csp (fun h => ?_) (fun h => ?_) | refine clrd (hmay) (fun _ _ => ?_) | (refine sda ?_ ?_; (focus (first | rfl | exact of_decide_eq_true rfl | (simp; done)))) | refine sda ?_ ?_ | refine conk rfl ?_ | refine ldk rfl ?_ | refine mapk (fun x hx => ?_) | exact ⟨rfl, rfl⟩ | refine nilk (fun h => absurd h (of_decide_eq_false rfl)) ?_ | refine nilk (fun h => absurd h (List.cons_ne_nil _ _)) ?_ | refine nilk (fun h => ?_) ?_ | exact rfl | refine leftk1 rfl ?_ | refine bytk8 rfl ?_ | refine bytk rfl ?_ | exact leftk0 rfl | refine eqk rfl ?_ | refine fLm rfl ?_ | refine fLk (by assumption) ?_ | refine fVk ?_ | refine fLVk ?_ | refine fWk ?_ | intro hl))
    show CreateQ wi mi W s nm _ s2
    unfold CreateQ
    rw [if_pos hoff]
    exact ⟨rfl, D2⟩
  | false =>
    cases hg : gnm nm with
    | false =>
      rw [hoff, hg] at hmay
      simp only [if_true, if_false, Bool.false_eq_true] at hmay
      repeat' ((conv => whnf); (first | (rw [o1']) | (rw [o2]) | refine pickk0 ?_ | refine csp (fun h => ?_) (fun h => ?_) | refine clrd (hmay) (fun _ _ => ?_) | (refine sda ?_ ?_; (focus (first | rfl | exact of_decide_eq_true rfl | (simp; done)))) | refine sda ?_ ?_ | refine conk rfl ?_ | refine ldk rfl ?_ | refine mapk (fun x hx => ?_) | exact ⟨rfl, rfl⟩ | refine nilk (fun h => absurd h (of_decide_eq_false rfl)) ?_ | refine nilk (fun h => absurd h (List.cons_ne_nil _ _)) ?_ | refine nilk (fun h => ?_) ?_ | exact rfl | refine leftk1 rfl ?_ | refine bytk8 rfl ?_ | refine bytk rfl ?_ | exact leftk0 rfl | refine eqk rfl ?_ | refine fLm rfl ?_ | refine fLk (by assumption) ?_ | refine fVk ?_ | refine fLVk ?_ | refine fWk ?_ | intro hl))
      show CreateQ wi mi W s nm _ s2
      unfold CreateQ
      rw [if_neg (by rw [hoff]; decide), if_pos hg]
      exact ⟨rfl, D2⟩
    | true =>
      rw [hoff, hg] at hmay
      simp only [if_true, if_false, Bool.false_eq_true] at hmay
      repeat' ((conv => whnf); (first | (rw [o1']) | (rw [o2]) | (rw [hw]) | (rw [hm]) | refine pickk0 ?_ | refine csp (fun h => ?_) (fun h => ?_) | refine clrd (hmay) (fun _ _ => ?_) | (refine sda ?_ ?_; (focus (first | rfl | exact of_decide_eq_true rfl | (simp; done)))) | refine sda ?_ ?_ | refine conk rfl ?_ | refine ldk rfl ?_ | refine mapk (fun x hx => ?_) | exact ⟨rfl, rfl⟩ | refine nilk (fun h => absurd h (of_decide_eq_false rfl)) ?_ | refine nilk (fun h => absurd h (List.cons_ne_nil _ _)) ?_ | refine nilk (fun h => ?_) ?_ | exact rfl | refine leftk1 rfl ?_ | refine bytk8 rfl ?_ | refine bytk rfl ?_ | exact leftk0 rfl | refine eqk rfl ?_ | refine fLm rfl ?_ | refine fLk (by assumption) ?_ | refine fVk ?_ | refine fLVk ?_ | refine fWk ?_ | intro hl))
      conv => whnf
      have tail : ∀ s3, Did wi mi W s2 W.op s3 → (fnd W.es nm = none → W.es.length < 16) → RetQ Try.prog F_files_World_Create_1 [.ptr n1 0, .ptr n2 0] s3 fun _ s' => Became wi mi W.op s3 (fun f => f = ⟨nm, [], 0⟩ ∨ (f ∈ W.fs ∧ f.nm ≠ nm)) s' := fun s3 D3 hl =>
        w_create1 D3.1 n1 n2 nm (D3.2 n1 _ o1' (not_foot hI f1)).1 (D3.2 n2 _ o2 (not_foot (hI.ext x1) f2)).1 hl
      refine findW rfl nm W.es 0 (fun j e hj hn hf => ?_) (fun hf => ?_)
      · repeat' ((conv => whnf); (first | (rw [o1']) | (rw [o2]) | refine pickk0 ?_ | refine csp (fun h => ?_) (fun h => ?_) | (refine sda ?_ ?_; (focus (first | rfl | exact of_decide_eq_true rfl | (simp; done)))) | refine sda ?_ ?_ | refine conk rfl ?_ | refine ldk rfl ?_ | refine mapk (fun x hx => ?_) | exact ⟨rfl, rfl⟩ | refine nilk (fun h => absurd h (of_decide_eq_false rfl)) ?_ | refine nilk (fun h => absurd h (List.cons_ne_nil _ _)) ?_ | refine nilk (fun h => ?_) ?_ | exact rfl | refine leftk1 rfl ?_ | refine bytk8 rfl ?_ | refine bytk rfl ?_ | exact leftk0 rfl | refine eqk rfl ?_ | refine fLm rfl ?_ | refine fLk (by assumption) ?_ | refine fVk ?_ | refine fLVk ?_ | refine fWk ?_ | intro hl))
        conv => whnf
        refine clq (w_oper2 D2.1 D2 F_files_World_Create_1 [.ptr n1 0, .ptr n2 0] _ fun s3 D3 => tail s3 D3 fun q => by rw [hf] at q; cases q) (fun r s4 q _ _ => ?_)
        have sv4 : Sv s4 := ⟨⟩
        repeat' ((conv => whnf); (first | refine pickk0 ?_ | refine csp (fun h => ?_) (fun h => ?_) | (refine sda ?_ ?_; (focus (first | rfl | exact of_decide_eq_true rfl | (simp; done)))) | refine sda ?_ ?_ | refine conk rfl ?_ | refine ldk rfl ?_ | refine mapk (fun x hx => ?_) | exact ⟨rfl, rfl⟩ | refine nilk (fun h => absurd h (of_decide_eq_false rfl)) ?_ | refine nilk (fun h => absurd h (List.cons_ne_nil _ _)) ?_ | refine nilk (fun h => ?_) ?_ | exact rfl | refine leftk1 rfl ?_ | refine bytk8 rfl ?_ | refine bytk rfl ?_ | exact leftk0 rfl | refine eqk rfl ?_ | refine fLm rfl ?_ | refine fLk (by assumption) ?_ | refine fVk ?_ | refine fLVk ?_ | refine fWk ?_ | intro hl))
        show CreateQ wi mi W s nm r s4
        unfold CreateQ
        rw [if_neg (by rw [hoff]; decide), if_neg (by rw [hg]; decide), if_neg (fun q => by rw [hf] at q; cases q.1)]
        exact q
      · repeat' ((conv => whnf); (first | (rw [o1']) | (rw [o2]) | (rw [hw]) | (rw [hm]) | refine pickk0 ?_ | refine csp (fun h => ?_) (fun h => ?_) | (refine sda ?_ ?_; (focus (first | rfl | exact of_decide_eq_true rfl | (simp; done)))) | refine sda ?_ ?_ | refine conk rfl ?_ | refine ldk rfl ?_ | refine mapk (fun x hx => ?_) | exact ⟨rfl, rfl⟩ | refine nilk (fun h => absurd h (of_decide_eq_false rfl)) ?_ | refine nilk (fun h => absurd h (List.cons_ne_nil _ _)) ?_ | refine nilk (fun h => ?_) ?_ | exact rfl | refine leftk1 rfl ?_ | refine bytk8 rfl ?_ | refine bytk rfl ?_ | exact leftk0 rfl | refine eqk rfl ?_ | refine fLm rfl ?_ | refine fLk (by assumption) ?_ | refine fVk ?_ | refine fLVk ?_ | refine fWk ?_ | intro hl))
        · show CreateQ wi mi W s nm _ s2
          unfold CreateQ
          rw [if_neg (by rw [hoff]; decide), if_neg (by rw [hg]; decide), if_pos ⟨hf, by have := of_decide_eq_true h; rw [List.length_map] at this; omega⟩]
          exact ⟨rfl, D2⟩
        · have hlt : ¬ 16 ≤ W.es.length := by have := of_decide_eq_false h; rw [List.length_map] at this; omega
          conv => whnf
          refine clq (w_oper2 D2.1 D2 F_files_World_Create_1 [.ptr n1 0, .ptr n2 0] _ fun s3 D3 => tail s3 D3 fun q => by omega) (fun r s4 q _ _ => ?_)
          have sv4 : Sv s4 := ⟨⟩
          repeat' ((conv => whnf); (first | refine pickk0 ?_ | refine csp (fun h => ?_) (fun h => ?_) | (refine sda ?_ ?_; (focus (first | rfl | exact of_decide_eq_true rfl | (simp; done)))) | refine sda ?_ ?_ | refine conk rfl ?_ | refine ldk rfl ?_ | refine mapk (fun x hx => ?_) | exact ⟨rfl, rfl⟩ | refine nilk (fun h => absurd h (of_decide_eq_false rfl)) ?_ | refine nilk (fun h => absurd h (List.cons_ne_nil _ _)) ?_ | refine nilk (fun h => ?_) ?_ | exact rfl | refine leftk1 rfl ?_ | refine bytk8 rfl ?_ | refine bytk rfl ?_ | exact leftk0 rfl | refine eqk rfl ?_ | refine fLm rfl ?_ | refine fLk (by assumption) ?_ | refine fVk ?_ | refine fLVk ?_ | refine fWk ?_ | intro hl))
          show CreateQ wi mi W s nm r s4
          unfold CreateQ
          rw [if_neg (by rw [hoff]; decide), if_neg (by rw [hg]; decide), if_neg (fun q => hlt q.2)]
          exact q
end
end Go.Proofs.Ytlognebkifjfbaa

/- Worlds of files in memory: the other calls. -/
set_option maxRecDepth 100000
set_option linter.all false
namespace Go.Proofs.Ytlognebkifjfbaa
open Ab R
/-- What is behind a call that needs power, a good name and a file. -/
def FileQ (wi mi : Nat) (W : Wd) (s : List O) (nm : ByteArray) (err : Int → V) (body : En → V → List O → Prop) (r : V) (s' : List O) : Prop :=
  if W.off then r = err 13 ∧ Did wi mi W s W s'
  else if gnm nm = false then r = err 8 ∧ Did wi mi W s W s'
  else match fnd W.es nm with | none => r = err 6 ∧ Did wi mi W s W s' | some e => body e r s'
section
variable {wi mi : Nat} {W : Wd} {s s2 : List O} {nm : ByteArray} {err : Int → V} {body : En → V → List O → Prop} {r : V}
theorem fq13 (hoff : W.off = true) (D : Did wi mi W s W s2) : FileQ wi mi W s nm err body (err 13) s2 := by
  unfold FileQ; rw [if_pos hoff]; exact ⟨rfl, D⟩
theorem fq8 (hoff : W.off = false) (hg : gnm nm = false) (D : Did wi mi W s W s2) : FileQ wi mi W s nm err body (err 8) s2 := by
  unfold FileQ; rw [if_neg (by rw [hoff]; decide), if_pos hg]; exact ⟨rfl, D⟩
theorem fq6 (hoff : W.off = false) (hg : gnm nm = true) (hf : fnd W.es nm = none) (D : Did wi mi W s W s2) : FileQ wi mi W s nm err body (err 6) s2 := by
  unfold FileQ; rw [if_neg (by rw [hoff]; decide), if_neg (by rw [hg]; decide), hf]; exact ⟨rfl, D⟩
theorem fq0 (hoff : W.off = false) (hg : gnm nm = true) {e : En} (hf : fnd W.es nm = some e) (q : body e r s2) : FileQ wi mi W s nm err body r s2 := by
  unfold FileQ; rw [if_neg (by rw [hoff]; decide), if_neg (by rw [hg]; decide), hf]; exact q
theorem may13 (hw : at? s wi = some (W.box mi)) (hn : nm.size ≤ 140737488355327) (hoff : W.off = true) : Rd Try.prog F_files_World_may [.ptr wi 0, .row true [[.str nm]]] s (.int .i64 13) := by
  have := w_may1 hw nm hn
  rwa [hoff] at this
theorem may8 (hw : at? s wi = some (W.box mi)) (hn : nm.size ≤ 140737488355327) (hoff : W.off = false) (hg : gnm nm = false) : Rd Try.prog F_files_World_may [.ptr wi 0, .row true [[.str nm]]] s (.int .i64 8) := by
  have := w_may1 hw nm hn
  rwa [hoff, hg] at this
theorem may0 (hw : at? s wi = some (W.box mi)) (hn : nm.size ≤ 140737488355327) (hoff : W.off = false) (hg : gnm nm = true) : Rd Try.prog F_files_World_may [.ptr wi 0, .row true [[.str nm]]] s (.int .i64 0) := by
  have := w_may1 hw nm hn
  rwa [hoff, hg] at this
theorem there6 (hI : IsW wi mi W s) (hf : fnd W.es nm = none) : Rd Try.prog F_files_World_there [.ptr wi 0, .str nm] s (.tup [.nilPtr, .int .i64 6]) := by
  have := w_there hI.w hI.m nm
  rwa [hf] at this
theorem there0 (hI : IsW wi mi W s) {e : En} (hf : fnd W.es nm = some e) : Rd Try.prog F_files_World_there [.ptr wi 0, .str nm] s (.tup [.ptr e.p 0, .int .i64 0]) := by
  have := w_there hI.w hI.m nm
  rwa [hf] at this
theorem w_On (hw : at? s wi = some (W.box mi)) : Rd Try.prog F_files_World_On [.ptr wi 0] s (.bool (!W.off)) := by
  refine rq_files_World_On rfl fun _ _ => ?_
  have sv : Sv s := ⟨⟩
  repeat' ((conv => whnf); (first | (rw [hw]) | refine pickk0 ?_ | refine csp (fun h => ?_) (fun h => ?_) | refine clrd (w_made hw) (fun _ _ => ?_) | (refine sda ?_ ?_; (focus (first | rfl | exact of_decide_eq_true rfl | (simp; done)))) | refine sda ?_ ?_ | refine conk rfl ?_ | refine ldk rfl ?_ | refine mapk (fun x hx => ?_) | exact ⟨rfl, rfl⟩ | refine nilk (fun h => absurd h (of_decide_eq_false rfl)) ?_ | refine nilk (fun h => absurd h (List.cons_ne_nil _ _)) ?_ | refine nilk (fun h => ?_) ?_ | exact rfl | refine leftk1 rfl ?_ | refine bytk8 rfl ?_ | refine bytk rfl ?_ | exact leftk0 rfl | refine eqk rfl ?_ | refine fLm rfl ?_ | refine fLk (by assumption) ?_ | refine fVk ?_ | refine fLVk ?_ | refine fWk ?_ | intro hl))
theorem w_Power (hI : IsW wi mi W s) : RetQ Try.prog F_files_World_Power [.ptr wi 0] s fun _ s' => Did wi mi W s { W with off := false } s' := by
  refine rq_files_World_Power rfl fun _ _ => ?_
  have sv : Sv s := ⟨⟩
  have hw := hI.w
  repeat' ((conv => whnf); (first | (rw [hw]) | refine pickk0 ?_ | refine csp (fun h => ?_) (fun h => ?_) | refine clrd (w_made hw) (fun _ _ => ?_) | (refine sda ?_ ?_; (focus (first | rfl | exact of_decide_eq_true rfl | (simp; done)))) | refine sda ?_ ?_ | refine conk rfl ?_ | refine ldk rfl ?_ | refine mapk (fun x hx => ?_) | exact ⟨rfl, rfl⟩ | refine nilk (fun h => absurd h (of_decide_eq_false rfl)) ?_ | refine nilk (fun h => absurd h (List.cons_ne_nil _ _)) ?_ | refine nilk (fun h => ?_) ?_ | exact rfl | refine leftk1 rfl ?_ | refine bytk8 rfl ?_ | refine bytk rfl ?_ | exact leftk0 rfl | refine eqk rfl ?_ | refine fLm rfl ?_ | refine fLk (by assumption) ?_ | refine fVk ?_ | refine fLVk ?_ | refine fWk ?_ | intro hl))
  conv => whnf
  refine fLset hI.w (fun s1 a1 b1 sv1 => ?_)
  have D := Did.box hI false W.cut W.keep W.ops W.wr hI.kk a1 b1
  repeat' ((conv => whnf); (first | refine pickk0 ?_ | refine csp (fun h => ?_) (fun h => ?_) | (refine sda ?_ ?_; (focus (first | rfl | exact of_decide_eq_true rfl | (simp; done)))) | refine sda ?_ ?_ | refine conk rfl ?_ | refine ldk rfl ?_ | refine mapk (fun x hx => ?_) | exact ⟨rfl, rfl⟩ | refine nilk (fun h => absurd h (of_decide_eq_false rfl)) ?_ | refine nilk (fun h => absurd h (List.cons_ne_nil _ _)) ?_ | refine nilk (fun h => ?_) ?_ | exact rfl | refine leftk1 rfl ?_ | refine bytk8 rfl ?_ | refine bytk rfl ?_ | exact leftk0 rfl | refine eqk rfl ?_ | refine fLm rfl ?_ | refine fLk (by assumption) ?_ | refine fVk ?_ | refine fLVk ?_ | refine fWk ?_ | intro hl))
  conv => whnf
  exact D
def CutQ (wi mi : Nat) (W : Wd) (s : List O) (n k : Int) (r : V) (s' : List O) : Prop :=
  if W.off then r = .int .i64 13 ∧ s' = s else if n < 0 ∨ k < 0 then r = .int .i64 2 ∧ s' = s else r = .int .i64 0 ∧ Did wi mi W s { W with cut := n, keep := k } s'
theorem w_Cut (hI : IsW wi mi W s) (n k : Int) : RetQ Try.prog F_files_World_Cut [.ptr wi 0, .int .i64 n, .int .i64 k] s (CutQ wi mi W s n k) := by
  refine rq_files_World_Cut rfl fun _ _ => ?_
  have sv : Sv s := ⟨⟩
  have hw := hI.w
  repeat' ((conv => whnf); (first | (rw [hw]) | refine pickk0 ?_ | refine csp (fun h => ?_) (fun h => ?_) | refine clrd (w_made hw) (fun _ _ => ?_) | (refine sda ?_ ?_; (focus (first | rfl | exact of_decide_eq_true rfl | (simp; done)))) | refine sda ?_ ?_ | refine conk rfl ?_ | refine ldk rfl ?_ | refine mapk (fun x hx => ?_) | exact ⟨rfl, rfl⟩ | refine nilk (fun h => absurd h (of_decide_eq_false rfl)) ?_ | refine nilk (fun h => absurd h (List.cons_ne_nil _ _)) ?_ | refine nilk (fun h => ?_) ?_ | exact rfl | refine leftk1 rfl ?_ | refine bytk8 rfl ?_ | refine bytk rfl ?_ | exact leftk0 rfl | refine eqk rfl ?_ | refine fLm rfl ?_ | refine fLk (by assumption) ?_ | refine fVk ?_ | refine fLVk ?_ | refine fWk ?_ | intro hl))
  · show CutQ wi mi W s n k _ s
    unfold CutQ
    rw [if_pos (by assumption)]
    exact ⟨rfl, rfl⟩
  · rename W.off = false => hoff
    show CutQ wi mi W s n k _ s
    unfold CutQ
    rw [if_neg (by rw [hoff]; decide), if_pos (.inl (of_decide_eq_true h))]
    exact ⟨rfl, rfl⟩
  · rename W.off = false => hoff
    show CutQ wi mi W s n k _ s
    unfold CutQ
    rw [if_neg (by rw [hoff]; decide), if_pos (.inr (of_decide_eq_true h))]
    exact ⟨rfl, rfl⟩
  · rename W.off = false => hoff
    rename decide (n < 0) = false => hn
    conv => whnf
    refine fLset hI.w (fun s1 a1 b1 sv1 => ?_)
    repeat' ((conv => whnf); (first | (rw [a1]) | refine pickk0 ?_ | refine csp (fun h => ?_) (fun h => ?_) | (refine sda ?_ ?_; (focus (first | rfl | exact of_decide_eq_true rfl | (simp; done)))) | refine sda ?_ ?_ | refine conk rfl ?_ | refine ldk rfl ?_ | refine mapk (fun x hx => ?_) | exact ⟨rfl, rfl⟩ | refine nilk (fun h => absurd h (of_decide_eq_false rfl)) ?_ | refine nilk (fun h => absurd h (List.cons_ne_nil _ _)) ?_ | refine nilk (fun h => ?_) ?_ | exact rfl | refine leftk1 rfl ?_ | refine bytk8 rfl ?_ | refine bytk rfl ?_ | exact leftk0 rfl | refine eqk rfl ?_ | refine fLm rfl ?_ | refine fLk (by assumption) ?_ | refine fVk ?_ | refine fLVk ?_ | refine fWk ?_ | intro hl))
    refine fLset a1 (fun s2 a2 b2 sv2 => ?_)
    have hk := of_decide_eq_false h
    have hn' := of_decide_eq_false hn
    have D := Did.box hI W.off n k W.ops W.wr (by omega) a2 (fun j hj => by rw [b2 j hj, b1 j hj])
    repeat' ((conv => whnf); (first | refine pickk0 ?_ | refine csp (fun h => ?_) (fun h => ?_) | (refine sda ?_ ?_; (focus (first | rfl | exact of_decide_eq_true rfl | (simp; done)))) | refine sda ?_ ?_ | refine conk rfl ?_ | refine ldk rfl ?_ | refine mapk (fun x hx => ?_) | exact ⟨rfl, rfl⟩ | refine nilk (fun h => absurd h (of_decide_eq_false rfl)) ?_ | refine nilk (fun h => absurd h (List.cons_ne_nil _ _)) ?_ | refine nilk (fun h => ?_) ?_ | exact rfl | refine leftk1 rfl ?_ | refine bytk8 rfl ?_ | refine bytk rfl ?_ | exact leftk0 rfl | refine eqk rfl ?_ | refine fLm rfl ?_ | refine fLk (by assumption) ?_ | refine fVk ?_ | refine fLVk ?_ | refine fWk ?_ | intro hl))
    show CutQ wi mi W s n k _ s2
    unfold CutQ
    rw [if_neg (by rw [hoff]; decide), if_neg (by omega)]
    exact ⟨rfl, D⟩
def ReadB (wi mi : Nat) (W : Wd) (s : List O) (e : En) (r : V) (s' : List O) : Prop := ∃ b, r = .tup [b, .int .i64 0] ∧ Made s e.l b s' ∧ Did wi mi W s W s'
theorem w_Read (hI : IsW wi mi W s) (hn : nm.size ≤ 140737488355327) : RetQ Try.prog F_files_World_Read [.ptr wi 0, .str nm] s (FileQ wi mi W s nm (fun n => .tup [.row true [], .int .i64 n]) (ReadB wi mi W s)) := by
  refine rq_files_World_Read rfl fun _ _ => ?_
  have sv : Sv s := ⟨⟩
  cases hoff : W.off with
  | true =>
    repeat' ((conv => whnf); (first | refine pickk0 ?_ | refine csp (fun h => ?_) (fun h => ?_) | refine clrd (may13 hI.w hn hoff) (fun _ _ => ?_) | (refine sda ?_ ?_; (focus (first | rfl | exact of_decide_eq_true rfl | (simp; done)))) | refine sda ?_ ?_ | refine conk rfl ?_ | refine ldk rfl ?_ | refine mapk (fun x hx => ?_) | exact ⟨rfl, rfl⟩ | refine nilk (fun h => absurd h (of_decide_eq_false rfl)) ?_ | refine nilk (fun h => absurd h (List.cons_ne_nil _ _)) ?_ | refine nilk (fun h => ?_) ?_ | exact rfl | refine leftk1 rfl ?_ | refine bytk8 rfl ?_ | refine bytk rfl ?_ | exact leftk0 rfl | refine eqk rfl ?_ | refine fLm rfl ?_ | refine fLk (by assumption) ?_ | refine fVk ?_ | refine fLVk ?_ | refine fWk ?_ | intro hl))
    exact (fq13 hoff (Did.refl hI) : FileQ wi mi W s nm (fun n => .tup [.row true [], .int .i64 n]) (ReadB wi mi W s) _ _)
  | false =>
    cases hg : gnm nm with
    | false =>
      repeat' ((conv => whnf); (first | refine pickk0 ?_ | refine csp (fun h => ?_) (fun h => ?_) | refine clrd (may8 hI.w hn hoff hg) (fun _ _ => ?_) | (refine sda ?_ ?_; (focus (first | rfl | exact of_decide_eq_true rfl | (simp; done)))) | refine sda ?_ ?_ | refine conk rfl ?_ | refine ldk rfl ?_ | refine mapk (fun x hx => ?_) | exact ⟨rfl, rfl⟩ | refine nilk (fun h => absurd h (of_decide_eq_false rfl)) ?_ | refine nilk (fun h => absurd h (List.cons_ne_nil _ _)) ?_ | refine nilk (fun h => ?_) ?_ | exact rfl | refine leftk1 rfl ?_ | refine bytk8 rfl ?_ | refine bytk rfl ?_ | exact leftk0 rfl | refine eqk rfl ?_ | refine fLm rfl ?_ | refine fLk (by assumption) ?_ | refine fVk ?_ | refine fLVk ?_ | refine fWk ?_ | intro hl))
      exact (fq8 hoff hg (Did.refl hI) : FileQ wi mi W s nm (fun n => .tup [.row true [], .int .i64 n]) (ReadB wi mi W s) _ _)
    | true =>
      cases hf : fnd W.es nm with
      | none =>
        repeat' ((conv => whnf); (first | refine pickk0 ?_ | refine csp (fun h => ?_) (fun h => ?_) | refine clrd (may0 hI.w hn hoff hg) (fun _ _ => ?_) | refine clrd (there6 hI hf) (fun _ _ => ?_) | (refine sda ?_ ?_; (focus (first | rfl | exact of_decide_eq_true rfl | (simp; done)))) | refine sda ?_ ?_ | refine conk rfl ?_ | refine ldk rfl ?_ | refine mapk (fun x hx => ?_) | exact ⟨rfl, rfl⟩ | refine nilk (fun h => absurd h (of_decide_eq_false rfl)) ?_ | refine nilk (fun h => absurd h (List.cons_ne_nil _ _)) ?_ | refine nilk (fun h => ?_) ?_ | exact rfl | refine leftk1 rfl ?_ | refine bytk8 rfl ?_ | refine bytk rfl ?_ | exact leftk0 rfl | refine eqk rfl ?_ | refine fLm rfl ?_ | refine fLk (by assumption) ?_ | refine fVk ?_ | refine fLVk ?_ | refine fWk ?_ | intro hl))
        exact (fq6 hoff hg hf (Did.refl hI) : FileQ wi mi W s nm (fun n => .tup [.row true [], .int .i64 n]) (ReadB wi mi W s) _ _)
      | some e =>
        have he := (fnd_some hf).1
        have hf0 := hI.f e he
        have hll := hI.ll e he
        by_cases hl : e.l = []
        · rw [hl] at hf0
          simp only [cell] at hf0
          repeat' ((conv => whnf); (first | (rw [hf0]) | refine pickk0 ?_ | refine csp (fun h => ?_) (fun h => ?_) | refine clrd (may0 hI.w hn hoff hg) (fun _ _ => ?_) | refine clrd (there0 hI hf) (fun _ _ => ?_) | (refine sda ?_ ?_; (focus (first | rfl | exact of_decide_eq_true rfl | (simp; done)))) | refine sda ?_ ?_ | refine conk rfl ?_ | refine ldk rfl ?_ | refine mapk (fun x hx => ?_) | exact ⟨rfl, rfl⟩ | refine nilk (fun h => absurd h (of_decide_eq_false rfl)) ?_ | refine nilk (fun h => absurd h (List.cons_ne_nil _ _)) ?_ | refine nilk (fun h => ?_) ?_ | exact rfl | refine leftk1 rfl ?_ | refine bytk8 rfl ?_ | refine bytk rfl ?_ | exact leftk0 rfl | refine eqk rfl ?_ | refine fLm rfl ?_ | refine fLk (by assumption) ?_ | refine fVk ?_ | refine fLVk ?_ | refine fWk ?_ | intro hl))
          conv => whnf
          refine clq (clone_row0 _ _ rfl) (fun r s4 q _ _ => ?_)
          have sv4 : Sv s4 := ⟨⟩
          rw [← hl] at q
          have D := Did.ext hI q.1
          have q0 := q
          obtain ⟨x4, ⟨_, rfl⟩ | ⟨a', h1', _⟩⟩ := q.split
          · repeat' ((conv => whnf); (first | refine pickk0 ?_ | refine csp (fun h => ?_) (fun h => ?_) | (refine sda ?_ ?_; (focus (first | rfl | exact of_decide_eq_true rfl | (simp; done)))) | refine sda ?_ ?_ | refine conk rfl ?_ | refine ldk rfl ?_ | refine mapk (fun x hx => ?_) | exact ⟨rfl, rfl⟩ | refine nilk (fun h => absurd h (of_decide_eq_false rfl)) ?_ | refine nilk (fun h => absurd h (List.cons_ne_nil _ _)) ?_ | refine nilk (fun h => ?_) ?_ | exact rfl | refine leftk1 rfl ?_ | refine bytk8 rfl ?_ | refine bytk rfl ?_ | exact leftk0 rfl | refine eqk rfl ?_ | refine fLm rfl ?_ | refine fLk (by assumption) ?_ | refine fVk ?_ | refine fLVk ?_ | refine fWk ?_ | intro hl))
            have qq : ReadB wi mi W s e _ s4 := ⟨_, rfl, q0, D⟩
            exact (fq0 hoff hg hf qq : FileQ wi mi W s nm (fun n => .tup [.row true [], .int .i64 n]) (ReadB wi mi W s) _ _)
          · exact absurd hl h1'
        · rw [cell_ne hl] at hf0
          have ha := hI.a e he hl
          repeat' ((conv => whnf); (first | (rw [hf0]) | (rw [ha]) | refine pickk0 ?_ | refine csp (fun h => ?_) (fun h => ?_) | refine clrd (may0 hI.w hn hoff hg) (fun _ _ => ?_) | refine clrd (there0 hI hf) (fun _ _ => ?_) | (refine sda ?_ ?_; (focus (first | rfl | exact of_decide_eq_true rfl | (simp; done)))) | refine sda ?_ ?_ | refine conk rfl ?_ | refine ldk rfl ?_ | refine mapk (fun x hx => ?_) | exact ⟨rfl, rfl⟩ | refine nilk (fun h => absurd h (of_decide_eq_false rfl)) ?_ | refine nilk (fun h => absurd h (List.cons_ne_nil _ _)) ?_ | refine nilk (fun h => ?_) ?_ | exact rfl | refine leftk1 rfl ?_ | refine bytk8 rfl ?_ | refine bytk rfl ?_ | exact leftk0 rfl | refine eqk rfl ?_ | refine fLm rfl ?_ | refine fLk (by assumption) ?_ | refine fVk ?_ | refine fLVk ?_ | refine fWk ?_ | intro hl))
          conv => whnf
          refine clq (clone_sl e.a _ true e.l (Nat.le_refl _) (by omega) ha) (fun r s4 q _ _ => ?_)
          have sv4 : Sv s4 := ⟨⟩
          rw [List.take_length] at q
          have D := Did.ext hI q.1
          have q0 := q
          obtain ⟨x4, ⟨h1', _⟩ | ⟨a', h1', rfl, _⟩⟩ := q.split
          · exact absurd h1' hl
          · repeat' ((conv => whnf); (first | refine pickk0 ?_ | refine csp (fun h => ?_) (fun h => ?_) | (refine sda ?_ ?_; (focus (first | rfl | exact of_decide_eq_true rfl | (simp; done)))) | refine sda ?_ ?_ | refine conk rfl ?_ | refine ldk rfl ?_ | refine mapk (fun x hx => ?_) | exact ⟨rfl, rfl⟩ | refine nilk (fun h => absurd h (of_decide_eq_false rfl)) ?_ | refine nilk (fun h => absurd h (List.cons_ne_nil _ _)) ?_ | refine nilk (fun h => ?_) ?_ | exact rfl | refine leftk1 rfl ?_ | refine bytk8 rfl ?_ | refine bytk rfl ?_ | exact leftk0 rfl | refine eqk rfl ?_ | refine fLm rfl ?_ | refine fLk (by assumption) ?_ | refine fVk ?_ | refine fLVk ?_ | refine fWk ?_ | intro hl))
            have qq : ReadB wi mi W s e _ s4 := ⟨_, rfl, q0, D⟩
            exact (fq0 hoff hg hf qq : FileQ wi mi W s nm (fun n => .tup [.row true [], .int .i64 n]) (ReadB wi mi W s) _ _)
def SyncB (wi mi : Nat) (W : Wd) (s : List O) (e : En) (r : V) (s' : List O) : Prop := Done wi mi W s W (fun f => f = ⟨e.nm, e.l, e.l.length⟩ ∨ (f ∈ W.fs ∧ f.nm ≠ e.nm)) r s'
set_option maxHeartbeats 4000000 in
theorem w_Sync (hI : IsW wi mi W s) (hn : nm.size ≤ 140737488355327) : RetQ Try.prog F_files_World_Sync [.ptr wi 0, .str nm] s (FileQ wi mi W s nm (fun n => .int .i64 n) (SyncB wi mi W s)) := by
  refine rq_files_World_Sync rfl fun _ _ => ?_
  have sv : Sv s := ⟨⟩
  cases hoff : W.off with
  | true =>
    repeat' ((conv => whnf); (first | refine pickk0 ?_ | refine csp (fun h => ?_) (fun h => ?_) | refine clrd (may13 hI.w hn hoff) (fun _ _ => ?_) | (refine sda ?_ ?_; (focus (first | rfl | exact of_decide_eq_true rfl | (simp; done)))) | refine sda ?_ ?_ | refine conk rfl ?_ | refine ldk rfl ?_ | refine mapk (fun x hx => ?_) | exact ⟨rfl, rfl⟩ | refine nilk (fun h => absurd h (of_decide_eq_false rfl)) ?_ | refine nilk (fun h => absurd h (List.cons_ne_nil _ _)) ?_ | refine nilk (fun h => ?_) ?_ | exact rfl | refine leftk1 rfl ?_ | refine bytk8 rfl ?_ | refine bytk rfl ?_ | exact leftk0 rfl | refine eqk rfl ?_ | refine fLm rfl ?_ | refine fLk (by assumption) ?_ | refine fVk ?_ | refine fLVk ?_ | refine fWk ?_ | intro hl))
    exact (fq13 hoff (Did.refl hI) : FileQ wi mi W s nm (fun n => .int .i64 n) (SyncB wi mi W s) _ _)
  | false =>
    cases hg : gnm nm with
    | false =>
      repeat' ((conv => whnf); (first | refine pickk0 ?_ | refine csp (fun h => ?_) (fun h => ?_) | refine clrd (may8 hI.w hn hoff hg) (fun _ _ => ?_) | (refine sda ?_ ?_; (focus (first | rfl | exact of_decide_eq_true rfl | (simp; done)))) | refine sda ?_ ?_ | refine conk rfl ?_ | refine ldk rfl ?_ | refine mapk (fun x hx => ?_) | exact ⟨rfl, rfl⟩ | refine nilk (fun h => absurd h (of_decide_eq_false rfl)) ?_ | refine nilk (fun h => absurd h (List.cons_ne_nil _ _)) ?_ | refine nilk (fun h => ?_) ?_ | exact rfl | refine leftk1 rfl ?_ | refine bytk8 rfl ?_ | refine bytk rfl ?_ | exact leftk0 rfl | refine eqk rfl ?_ | refine fLm rfl ?_ | refine fLk (by assumption) ?_ | refine fVk ?_ | refine fLVk ?_ | refine fWk ?_ | intro hl))
      exact (fq8 hoff hg (Did.refl hI) : FileQ wi mi W s nm (fun n => .int .i64 n) (SyncB wi mi W s) _ _)
    | true =>
      cases hf : fnd W.es nm with
      | none =>
        repeat' ((conv => whnf); (first | refine pickk0 ?_ | refine csp (fun h => ?_) (fun h => ?_) | refine clrd (may0 hI.w hn hoff hg) (fun _ _ => ?_) | refine clrd (there6 hI hf) (fun _ _ => ?_) | (refine sda ?_ ?_; (focus (first | rfl | exact of_decide_eq_true rfl | (simp; done)))) | refine sda ?_ ?_ | refine conk rfl ?_ | refine ldk rfl ?_ | refine mapk (fun x hx => ?_) | exact ⟨rfl, rfl⟩ | refine nilk (fun h => absurd h (of_decide_eq_false rfl)) ?_ | refine nilk (fun h => absurd h (List.cons_ne_nil _ _)) ?_ | refine nilk (fun h => ?_) ?_ | exact rfl | refine leftk1 rfl ?_ | refine bytk8 rfl ?_ | refine bytk rfl ?_ | exact leftk0 rfl | refine eqk rfl ?_ | refine fLm rfl ?_ | refine fLk (by assumption) ?_ | refine fVk ?_ | refine fLVk ?_ | refine fWk ?_ | intro hl))
        refine fLnew (fun s1 x1 f1 o1 sv1 => ?_)
        generalize s.length = n1 at f1 o1
        repeat' ((conv => whnf); (first | (rw [o1]) | refine pickk0 ?_ | refine csp (fun h => ?_) (fun h => ?_) | (refine sda ?_ ?_; (focus (first | rfl | exact of_decide_eq_true rfl | (simp; done)))) | refine sda ?_ ?_ | refine conk rfl ?_ | refine ldk rfl ?_ | refine mapk (fun x hx => ?_) | exact ⟨rfl, rfl⟩ | refine nilk (fun h => absurd h (of_decide_eq_false rfl)) ?_ | refine nilk (fun h => absurd h (List.cons_ne_nil _ _)) ?_ | refine nilk (fun h => ?_) ?_ | exact rfl | refine leftk1 rfl ?_ | refine bytk8 rfl ?_ | refine bytk rfl ?_ | exact leftk0 rfl | refine eqk rfl ?_ | refine fLm rfl ?_ | refine fLk (by assumption) ?_ | refine fVk ?_ | refine fLVk ?_ | refine fWk ?_ | intro hl))
        refine fLset o1 (fun s2 a2 b2 sv2 => ?_)
        repeat' ((conv => whnf); (first | refine pickk0 ?_ | refine csp (fun h => ?_) (fun h => ?_) | (refine sda ?_ ?_; (focus (first | rfl | exact of_decide_eq_true rfl | (simp; done)))) | refine sda ?_ ?_ | refine conk rfl ?_ | refine ldk rfl ?_ | refine mapk (fun x hx => ?_) | exact ⟨rfl, rfl⟩ | refine nilk (fun h => absurd h (of_decide_eq_false rfl)) ?_ | refine nilk (fun h => absurd h (List.cons_ne_nil _ _)) ?_ | refine nilk (fun h => ?_) ?_ | exact rfl | refine leftk1 rfl ?_ | refine bytk8 rfl ?_ | refine bytk rfl ?_ | exact leftk0 rfl | refine eqk rfl ?_ | refine fLm rfl ?_ | refine fLk (by assumption) ?_ | refine fVk ?_ | refine fLVk ?_ | refine fWk ?_ | intro hl))
        exact (fq6 hoff hg hf ((Did.ext hI x1).other (not_foot hI f1) f1 b2) : FileQ wi mi W s nm (fun n => .int .i64 n) (SyncB wi mi W s) _ _)
      | some e =>
        have he := (fnd_some hf).1
        repeat' ((conv => whnf); (first | refine pickk0 ?_ | refine csp (fun h => ?_) (fun h => ?_) | refine clrd (may0 hI.w hn hoff hg) (fun _ _ => ?_) | refine clrd (there0 hI hf) (fun _ _ => ?_) | (refine sda ?_ ?_; (focus (first | rfl | exact of_decide_eq_true rfl | (simp; done)))) | refine sda ?_ ?_ | refine conk rfl ?_ | refine ldk rfl ?_ | refine mapk (fun x hx => ?_) | exact ⟨rfl, rfl⟩ | refine nilk (fun h => absurd h (of_decide_eq_false rfl)) ?_ | refine nilk (fun h => absurd h (List.cons_ne_nil _ _)) ?_ | refine nilk (fun h => ?_) ?_ | exact rfl | refine leftk1 rfl ?_ | refine bytk8 rfl ?_ | refine bytk rfl ?_ | exact leftk0 rfl | refine eqk rfl ?_ | refine fLm rfl ?_ | refine fLk (by assumption) ?_ | refine fVk ?_ | refine fLVk ?_ | refine fWk ?_ | intro hl))
        refine fLnew (fun s1 x1 f1 o1 sv1 => ?_)
        generalize s.length = n1 at f1 o1
        repeat' ((conv => whnf); (first | (rw [o1]) | refine pickk0 ?_ | refine csp (fun h => ?_) (fun h => ?_) | (refine sda ?_ ?_; (focus (first | rfl | exact of_decide_eq_true rfl | (simp; done)))) | refine sda ?_ ?_ | refine conk rfl ?_ | refine ldk rfl ?_ | refine mapk (fun x hx => ?_) | exact ⟨rfl, rfl⟩ | refine nilk (fun h => absurd h (of_decide_eq_false rfl)) ?_ | refine nilk (fun h => absurd h (List.cons_ne_nil _ _)) ?_ | refine nilk (fun h => ?_) ?_ | exact rfl | refine leftk1 rfl ?_ | refine bytk8 rfl ?_ | refine bytk rfl ?_ | exact leftk0 rfl | refine eqk rfl ?_ | refine fLm rfl ?_ | refine fLk (by assumption) ?_ | refine fVk ?_ | refine fLVk ?_ | refine fWk ?_ | intro hl))
        refine fLset o1 (fun s2 a2 b2 sv2 => ?_)
        have D2 := (Did.ext hI x1).other (not_foot hI f1) f1 b2
        repeat' ((conv => whnf); (first | refine pickk0 ?_ | refine csp (fun h => ?_) (fun h => ?_) | (refine sda ?_ ?_; (focus (first | rfl | exact of_decide_eq_true rfl | (simp; done)))) | refine sda ?_ ?_ | refine conk rfl ?_ | refine ldk rfl ?_ | refine mapk (fun x hx => ?_) | exact ⟨rfl, rfl⟩ | refine nilk (fun h => absurd h (of_decide_eq_false rfl)) ?_ | refine nilk (fun h => absurd h (List.cons_ne_nil _ _)) ?_ | refine nilk (fun h => ?_) ?_ | exact rfl | refine leftk1 rfl ?_ | refine bytk8 rfl ?_ | refine bytk rfl ?_ | exact leftk0 rfl | refine eqk rfl ?_ | refine fLm rfl ?_ | refine fLk (by assumption) ?_ | refine fVk ?_ | refine fLVk ?_ | refine fWk ?_ | intro hl))
        conv => whnf
        refine clq (w_oper2 D2.1 D2 F_files_World_Sync_1 [.ptr n1 0] _ fun s3 D3 => w_sync1 D3.1 n1 he (D3.2 n1 _ a2 (not_foot hI f1)).1) (fun r s4 q _ _ => ?_)
        have sv4 : Sv s4 := ⟨⟩
        repeat' ((conv => whnf); (first | refine pickk0 ?_ | refine csp (fun h => ?_) (fun h => ?_) | (refine sda ?_ ?_; (focus (first | rfl | exact of_decide_eq_true rfl | (simp; done)))) | refine sda ?_ ?_ | refine conk rfl ?_ | refine ldk rfl ?_ | refine mapk (fun x hx => ?_) | exact ⟨rfl, rfl⟩ | refine nilk (fun h => absurd h (of_decide_eq_false rfl)) ?_ | refine nilk (fun h => absurd h (List.cons_ne_nil _ _)) ?_ | refine nilk (fun h => ?_) ?_ | exact rfl | refine leftk1 rfl ?_ | refine bytk8 rfl ?_ | refine bytk rfl ?_ | exact leftk0 rfl | refine eqk rfl ?_ | refine fLm rfl ?_ | refine fLk (by assumption) ?_ | refine fVk ?_ | refine fLVk ?_ | refine fWk ?_ | intro hl))
        exact (fq0 hoff hg hf q : FileQ wi mi W s nm (fun n => .int .i64 n) (SyncB wi mi W s) _ _)
end
end Go.Proofs.Ytlognebkifjfbaa

/- Worlds of files in memory: Append. -/
set_option maxRecDepth 100000
set_option linter.all false
namespace Go.Proofs.Ytlognebkifjfbaa
open Ab R
theorem fLmove {s : List O} {a : Nat} {o o0 : O} {K : List O → Prop} (h0 : at? s a = some o0) (h : ∀ s1, at? s s.length = none → at? s1 s.length = some o → (∀ i p, i ≠ a → at? s i = some p → at? s1 i = some p) → Sv s1 → K s1) : fL fO (setAt s a .gone ++ [o]) K := by
  rw [fL_eq fO_eq]
  have hle : (setAt s a .gone).length = s.length := by rw [setAt_eq, List.length_set]
  refine h _ (at_new s o).1 ?_ (fun i p hi hp => ?_) ⟨⟩
  · have := (at_new (setAt s a .gone) o).2.1
    rwa [hle] at this
  · refine (at_new (setAt s a .gone) o).2.2 i p ?_
    rw [(at_set .gone h0).2 i hi]
    exact hp
theorem bV_app (a b : List Int) : bV (a ++ b) = bV a ++ bV b := List.map_append
/-- Bytes that are handed in. -/
def Bytes (s : List O) (bv : V) (d : List Int) : Prop := (∃ x, bv = .row x (bV d)) ∨ ∃ k off w els, bv = .sl k off d.length ∧ at? s k = some (.arr w 1 els) ∧ List.take d.length (List.drop off els) = bV d
section
variable {wi mi : Nat} {W : Wd} {s : List O} {nm : ByteArray}
theorem w_append1 (hI : IsW wi mi W s) : RetQ Try.prog F_files_World_Append_1 [] s fun _ s' => Became wi mi W s (fun f => f ∈ W.fs) s' := by
  refine rq_files_World_Append_1 rfl fun _ _ => ?_
  have sv : Sv s := ⟨⟩
  repeat' ((conv => whnf); (first | refine pickk0 ?_ | refine csp (fun h => ?_) (fun h => ?_) | (refine sda ?_ ?_; (focus (first | rfl | exact of_decide_eq_true rfl | (simp; done)))) | refine sda ?_ ?_ | refine conk rfl ?_ | refine ldk rfl ?_ | refine mapk (fun x hx => ?_) | exact ⟨rfl, rfl⟩ | refine nilk (fun h => absurd h (of_decide_eq_false rfl)) ?_ | refine nilk (fun h => absurd h (List.cons_ne_nil _ _)) ?_ | refine nilk (fun h => ?_) ?_ | exact rfl | refine leftk1 rfl ?_ | refine bytk8 rfl ?_ | refine bytk rfl ?_ | exact leftk0 rfl | refine eqk rfl ?_ | refine fLm rfl ?_ | refine fLk (by assumption) ?_ | refine fVk ?_ | refine fLVk ?_ | refine fWk ?_ | intro hl))
  all_goals conv => whnf
  all_goals exact ⟨W, Did.refl hI, rfl, fun f => Iff.rfl⟩
def AppendB (wi mi : Nat) (W : Wd) (s : List O) (d : List Int) (e : En) (r : V) (s' : List O) : Prop :=
  if 1048576 < e.l.length + d.length then r = .int .i64 9 ∧ Did wi mi W s W s'
  else ∃ W1, W1.h = { W.h with wr := IntKind.i64.wrap (W.wr + (d.length : Nat)) } ∧ (∀ f, f ∈ W1.fs ↔ f = ⟨e.nm, e.l ++ d, e.sy⟩ ∨ (f ∈ W.fs ∧ f.nm ≠ e.nm)) ∧ Done wi mi W s W1 (fun f => f ∈ W1.fs) r s'
theorem w_app_no (hI : IsW wi mi W s) (hn : nm.size ≤ 140737488355327) (bv : V) (d : List Int) (hno : W.off = true ∨ gnm nm = false ∨ fnd W.es nm = none) : RetQ Try.prog F_files_World_Append [.ptr wi 0, .str nm, bv] s (FileQ wi mi W s nm (fun n => .int .i64 n) (AppendB wi mi W s d)) := by
  refine rq_files_World_Append rfl fun _ _ => ?_
  have sv : Sv s := ⟨⟩
  cases hoff : W.off with
  | true =>
    repeat' ((conv => whnf); (first | refine pickk0 ?_ | refine csp (fun h => ?_) (fun h => ?_) | refine clrd (may13 hI.w hn hoff) (fun _ _ => ?_) | (refine sda ?_ ?_; (focus (first | rfl | exact of_decide_eq_true rfl | (simp; done)))) | refine sda ?_ ?_ | refine conk rfl ?_ | refine ldk rfl ?_ | refine mapk (fun x hx => ?_) | exact ⟨rfl, rfl⟩ | refine nilk (fun h => absurd h (of_decide_eq_false rfl)) ?_ | refine nilk (fun h => absurd h (List.cons_ne_nil _ _)) ?_ | refine nilk (fun h => ?_) ?_ | exact rfl | refine leftk1 rfl ?_ | refine bytk8 rfl ?_ | refine bytk rfl ?_ | exact leftk0 rfl | refine eqk rfl ?_ | refine fLm rfl ?_ | refine fLk (by assumption) ?_ | refine fVk ?_ | refine fLVk ?_ | refine fWk ?_ | intro hl))
    exact (fq13 hoff (Did.refl hI) : FileQ wi mi W s nm (fun n => .int .i64 n) (AppendB wi mi W s d) _ _)
  | false =>
    cases hg : gnm nm with
    | false =>
      repeat' ((conv => whnf); (first | refine pickk0 ?_ | refine csp (fun h => ?_) (fun h => ?_) | refine clrd (may8 hI.w hn hoff hg) (fun _ _ => ?_) | (refine sda ?_ ?_; (focus (first | rfl | exact of_decide_eq_true rfl | (simp; done)))) | refine sda ?_ ?_ | refine conk rfl ?_ | refine ldk rfl ?_ | refine mapk (fun x hx => ?_) | exact ⟨rfl, rfl⟩ | refine nilk (fun h => absurd h (of_decide_eq_false rfl)) ?_ | refine nilk (fun h => absurd h (List.cons_ne_nil _ _)) ?_ | refine nilk (fun h => ?_) ?_ | exact rfl | refine leftk1 rfl ?_ | refine bytk8 rfl ?_ | refine bytk rfl ?_ | exact leftk0 rfl | refine eqk rfl ?_ | refine fLm rfl ?_ | refine fLk (by assumption) ?_ | refine fVk ?_ | refine fLVk ?_ | refine fWk ?_ | intro hl))
      exact (fq8 hoff hg (Did.refl hI) : FileQ wi mi W s nm (fun n => .int .i64 n) (AppendB wi mi W s d) _ _)
    | true =>
      have hf : fnd W.es nm = none := by rcases hno with q | q | q; (rw [hoff] at q; cases q); (rw [hg] at q; cases q); exact q
      repeat' ((conv => whnf); (first | refine pickk0 ?_ | refine csp (fun h => ?_) (fun h => ?_) | refine clrd (may0 hI.w hn hoff hg) (fun _ _ => ?_) | refine clrd (there6 hI hf) (fun _ _ => ?_) | (refine sda ?_ ?_; (focus (first | rfl | exact of_decide_eq_true rfl | (simp; done)))) | refine sda ?_ ?_ | refine conk rfl ?_ | refine ldk rfl ?_ | refine mapk (fun x hx => ?_) | exact ⟨rfl, rfl⟩ | refine nilk (fun h => absurd h (of_decide_eq_false rfl)) ?_ | refine nilk (fun h => absurd h (List.cons_ne_nil _ _)) ?_ | refine nilk (fun h => ?_) ?_ | exact rfl | refine leftk1 rfl ?_ | refine bytk8 rfl ?_ | refine bytk rfl ?_ | exact leftk0 rfl | refine eqk rfl ?_ | refine fLm rfl ?_ | refine fLk (by assumption) ?_ | refine fVk ?_ | refine fLVk ?_ | refine fWk ?_ | intro hl))
      exact (fq6 hoff hg hf (Did.refl hI) : FileQ wi mi W s nm (fun n => .int .i64 n) (AppendB wi mi W s d) _ _)
set_option maxHeartbeats 4000000 in
theorem w_app_row_nil_nil (hI : IsW wi mi W s) (hn : nm.size ≤ 140737488355327) (hoff : W.off = false) (hg : gnm nm = true) {e : En} (hf : fnd W.es nm = some e) (d : List Int) (x : Bool) (hle : e.l = []) (hde : d = []) :
    RetQ Try.prog F_files_World_Append [.ptr wi 0, .str nm, .row x (bV d)] s (FileQ wi mi W s nm (fun n => .int .i64 n) (AppendB wi mi W s d)) := by
  refine rq_files_World_Append rfl fun _ _ => ?_
  have sv : Sv s := ⟨⟩
  have hX : bV d = bV d := rfl
  have he := (fnd_some hf).1
  have hll := hI.ll e he
  obtain ⟨j, hj⟩ := List.mem_iff_getElem?.1 he
  have hf0 := hI.f e he
  rw [hle] at hf0
  simp only [cell] at hf0
  have hLF : ([] : List (List V)).length = e.l.length := by rw [hle]; rfl
  have hLB : (bV d).length = d.length := by rw [List.length_map]
  by_cases hbig : 1048576 < e.l.length + d.length
  · have hc : decide ((((bV d).length : Nat) : Int) > IntKind.i64.wrap (1048576 - ((([] : List (List V)).length : Nat) : Int))) = true := decide_eq_true (by rw [hLF, hLB, w64 (by omega)]; omega)
    repeat' ((conv => whnf); (first | refine csp_t (hc) ?_ | (rw [hf0]) | refine pickk0 ?_ | refine csp (fun h => ?_) (fun h => ?_) | refine clrd (may0 hI.w hn hoff hg) (fun _ _ => ?_) | refine clrd (there0 hI hf) (fun _ _ => ?_) | (refine sda ?_ ?_; (focus (first | rfl | exact of_decide_eq_true rfl | (simp; done)))) | refine sda ?_ ?_ | refine conk rfl ?_ | refine ldk rfl ?_ | refine mapk (fun x hx => ?_) | exact ⟨rfl, rfl⟩ | refine nilk (fun h => absurd h (of_decide_eq_false rfl)) ?_ | refine nilk (fun h => absurd h (List.cons_ne_nil _ _)) ?_ | refine nilk (fun h => ?_) ?_ | exact rfl | refine leftk1 rfl ?_ | refine bytk8 rfl ?_ | refine bytk rfl ?_ | exact leftk0 rfl | refine eqk rfl ?_ | refine fLm rfl ?_ | refine fLk (by assumption) ?_ | refine fVk ?_ | refine fLVk ?_ | refine fWk ?_ | intro hl))
    have qq : AppendB wi mi W s d e (.int .i64 9) s := by unfold AppendB; rw [if_pos hbig]; exact ⟨rfl, Did.refl hI⟩
    exact (fq0 hoff hg hf qq : FileQ wi mi W s nm (fun n => .int .i64 n) (AppendB wi mi W s d) _ _)
  · have hc : decide ((((bV d).length : Nat) : Int) > IntKind.i64.wrap (1048576 - ((([] : List (List V)).length : Nat) : Int))) = false := decide_eq_false (by rw [hLF, hLB, w64 (by omega)]; omega)
    have e1 : (bV d).isEmpty = true := by rw [hX, hde]; rfl
    repeat' ((conv => whnf); (first | refine csp_f (hc) ?_ | refine csp_t (e1) ?_ | (rw [hf0]) | refine pickk0 ?_ | refine csp (fun h => ?_) (fun h => ?_) | refine clrd (may0 hI.w hn hoff hg) (fun _ _ => ?_) | refine clrd (there0 hI hf) (fun _ _ => ?_) | (refine sda ?_ ?_; (focus (first | rfl | exact of_decide_eq_true rfl | (simp; done)))) | refine sda ?_ ?_ | refine conk rfl ?_ | refine ldk rfl ?_ | refine mapk (fun x hx => ?_) | exact ⟨rfl, rfl⟩ | refine nilk (fun h => absurd h (of_decide_eq_false rfl)) ?_ | refine nilk (fun h => absurd h (List.cons_ne_nil _ _)) ?_ | refine nilk (fun h => ?_) ?_ | exact rfl | refine leftk1 rfl ?_ | refine bytk8 rfl ?_ | refine bytk rfl ?_ | exact leftk0 rfl | refine eqk rfl ?_ | refine fLm rfl ?_ | refine fLk (by assumption) ?_ | refine fVk ?_ | refine fLVk ?_ | refine fWk ?_ | intro hl))
    conv => whnf
    refine fLset hf0 (fun s2 a2 b2 sv2 => ?_)
    have a2 : at? s2 e.p = some (.box true [cell e.a (e.l ++ d), .int .i64 e.sy]) := by
      rw [a2, hde, List.append_nil]
      rw [hle]
      rfl
    have D12 := Did.file hI hj e.a (e.l ++ d) e.sy ⟨by rw [List.length_append]; omega, hll.2.1, by rw [List.length_append]; omega⟩ a2 (fun i o hi _ ho => by rw [b2 i hi]; exact ho) (by rw [hde, List.append_nil]; exact fun hq => by rw [b2 _ (hI.pa he he hq)]; exact hI.a e he hq) (by rw [hde, List.append_nil]; exact fun hq => .inr ⟨hq, rfl⟩)
    have hw2 := D12.1.w
    repeat' ((conv => whnf); (first | (rw [hw2]) | refine pickk0 ?_ | refine csp (fun h => ?_) (fun h => ?_) | (refine sda ?_ ?_; (focus (first | rfl | exact of_decide_eq_true rfl | (simp; done)))) | refine sda ?_ ?_ | refine conk rfl ?_ | refine ldk rfl ?_ | refine mapk (fun x hx => ?_) | exact ⟨rfl, rfl⟩ | refine nilk (fun h => absurd h (of_decide_eq_false rfl)) ?_ | refine nilk (fun h => absurd h (List.cons_ne_nil _ _)) ?_ | refine nilk (fun h => ?_) ?_ | exact rfl | refine leftk1 rfl ?_ | refine bytk8 rfl ?_ | refine bytk rfl ?_ | exact leftk0 rfl | refine eqk rfl ?_ | refine fLm rfl ?_ | refine fLk (by assumption) ?_ | refine fVk ?_ | refine fLVk ?_ | refine fWk ?_ | intro hl))
    conv => whnf
    refine fLset hw2 (fun s3 a3 b3 sv3 => ?_)
    have D3 := D12.trans (Did.box D12.1 W.off W.cut W.keep W.ops (IntKind.i64.wrap (W.wr + (((bV d).length : Nat) : Int))) hI.kk a3 b3)
    repeat' ((conv => whnf); (first | refine pickk0 ?_ | refine csp (fun h => ?_) (fun h => ?_) | (refine sda ?_ ?_; (focus (first | rfl | exact of_decide_eq_true rfl | (simp; done)))) | refine sda ?_ ?_ | refine conk rfl ?_ | refine ldk rfl ?_ | refine mapk (fun x hx => ?_) | exact ⟨rfl, rfl⟩ | refine nilk (fun h => absurd h (of_decide_eq_false rfl)) ?_ | refine nilk (fun h => absurd h (List.cons_ne_nil _ _)) ?_ | refine nilk (fun h => ?_) ?_ | exact rfl | refine leftk1 rfl ?_ | refine bytk8 rfl ?_ | refine bytk rfl ?_ | exact leftk0 rfl | refine eqk rfl ?_ | refine fLm rfl ?_ | refine fLk (by assumption) ?_ | refine fVk ?_ | refine fLVk ?_ | refine fWk ?_ | intro hl))
    conv => whnf
    refine clq (w_oper2 D3.1 D3 F_files_World_Append_1 [] _ fun s4 D4 => w_append1 D4.1) (fun r s5 q _ _ => ?_)
    have sv5 : Sv s5 := ⟨⟩
    repeat' ((conv => whnf); (first | refine pickk0 ?_ | refine csp (fun h => ?_) (fun h => ?_) | (refine sda ?_ ?_; (focus (first | rfl | exact of_decide_eq_true rfl | (simp; done)))) | refine sda ?_ ?_ | refine conk rfl ?_ | refine ldk rfl ?_ | refine mapk (fun x hx => ?_) | exact ⟨rfl, rfl⟩ | refine nilk (fun h => absurd h (of_decide_eq_false rfl)) ?_ | refine nilk (fun h => absurd h (List.cons_ne_nil _ _)) ?_ | refine nilk (fun h => ?_) ?_ | exact rfl | refine leftk1 rfl ?_ | refine bytk8 rfl ?_ | refine bytk rfl ?_ | exact leftk0 rfl | refine eqk rfl ?_ | refine fLm rfl ?_ | refine fLk (by assumption) ?_ | refine fVk ?_ | refine fLVk ?_ | refine fWk ?_ | intro hl))
    have qq : AppendB wi mi W s d e r s5 := by
      unfold AppendB
      rw [if_neg hbig]
      refine ⟨_, ?_, fun f => ?_, q⟩
      · show Hd.mk W.off W.cut W.keep W.ops (IntKind.i64.wrap (W.wr + (((bV d).length : Nat) : Int))) = _
        rw [hLB]
        rfl
      · exact fs_set (x := { e with a := e.a, l := e.l ++ d, sy := e.sy }) hI.nn hj rfl f
    exact (fq0 hoff hg hf qq : FileQ wi mi W s nm (fun n => .int .i64 n) (AppendB wi mi W s d) _ _)
set_option maxHeartbeats 4000000 in
theorem w_app_row_nil_cons (hI : IsW wi mi W s) (hn : nm.size ≤ 140737488355327) (hoff : W.off = false) (hg : gnm nm = true) {e : En} (hf : fnd W.es nm = some e) (d : List Int) (x : Bool) (hle : e.l = []) (hde : d ≠ []) :
    RetQ Try.prog F_files_World_Append [.ptr wi 0, .str nm, .row x (bV d)] s (FileQ wi mi W s nm (fun n => .int .i64 n) (AppendB wi mi W s d)) := by
  refine rq_files_World_Append rfl fun _ _ => ?_
  have sv : Sv s := ⟨⟩
  have hX : bV d = bV d := rfl
  have he := (fnd_some hf).1
  have hll := hI.ll e he
  obtain ⟨j, hj⟩ := List.mem_iff_getElem?.1 he
  have hf0 := hI.f e he
  rw [hle] at hf0
  simp only [cell] at hf0
  have hLF : ([] : List (List V)).length = e.l.length := by rw [hle]; rfl
  have hLB : (bV d).length = d.length := by rw [List.length_map]
  by_cases hbig : 1048576 < e.l.length + d.length
  · have hc : decide ((((bV d).length : Nat) : Int) > IntKind.i64.wrap (1048576 - ((([] : List (List V)).length : Nat) : Int))) = true := decide_eq_true (by rw [hLF, hLB, w64 (by omega)]; omega)
    repeat' ((conv => whnf); (first | refine csp_t (hc) ?_ | (rw [hf0]) | refine pickk0 ?_ | refine csp (fun h => ?_) (fun h => ?_) | refine clrd (may0 hI.w hn hoff hg) (fun _ _ => ?_) | refine clrd (there0 hI hf) (fun _ _ => ?_) | (refine sda ?_ ?_; (focus (first | rfl | exact of_decide_eq_true rfl | (simp; done)))) | refine sda ?_ ?_ | refine conk rfl ?_ | refine ldk rfl ?_ | refine mapk (fun x hx => ?_) | exact ⟨rfl, rfl⟩ | refine nilk (fun h => absurd h (of_decide_eq_false rfl)) ?_ | refine nilk (fun h => absurd h (List.cons_ne_nil _ _)) ?_ | refine nilk (fun h => ?_) ?_ | exact rfl | refine leftk1 rfl ?_ | refine bytk8 rfl ?_ | refine bytk rfl ?_ | exact leftk0 rfl | refine eqk rfl ?_ | refine fLm rfl ?_ | refine fLk (by assumption) ?_ | refine fVk ?_ | refine fLVk ?_ | refine fWk ?_ | intro hl))
    have qq : AppendB wi mi W s d e (.int .i64 9) s := by unfold AppendB; rw [if_pos hbig]; exact ⟨rfl, Did.refl hI⟩
    exact (fq0 hoff hg hf qq : FileQ wi mi W s nm (fun n => .int .i64 n) (AppendB wi mi W s d) _ _)
  · have hc : decide ((((bV d).length : Nat) : Int) > IntKind.i64.wrap (1048576 - ((([] : List (List V)).length : Nat) : Int))) = false := decide_eq_false (by rw [hLF, hLB, w64 (by omega)]; omega)
    have e1 : (bV d).isEmpty = false := by rw [hX]; exact bV_ne hde
    have e2 : ∀ z ∈ bV d, z.length = 1 := by rw [hX]; exact bV_one d
    have e3 : ∀ z ∈ bV d, ∀ c ∈ z, leafV c = true := by rw [hX]; intro z hz c hc; obtain ⟨y, _, rfl⟩ := List.mem_map.1 hz; rw [List.mem_singleton.1 hc]; rfl
    have e4 : (([] : List (List V)).length + (bV d).length) * 2 ≤ 140737488355327 := by rw [hX]; simp only [List.length_map, List.length_nil]; omega
    repeat' ((conv => whnf); (first | refine csp_f (hc) ?_ | refine csp_f (e1) ?_ | refine sda (e2) ?_ | refine sda (e3) ?_ | refine sda (e4) ?_ | (rw [hf0]) | refine pickk0 ?_ | refine csp (fun h => ?_) (fun h => ?_) | refine clrd (may0 hI.w hn hoff hg) (fun _ _ => ?_) | refine clrd (there0 hI hf) (fun _ _ => ?_) | (refine sda ?_ ?_; (focus (first | rfl | exact of_decide_eq_true rfl | (simp; done)))) | refine sda ?_ ?_ | refine conk rfl ?_ | refine ldk rfl ?_ | refine mapk (fun x hx => ?_) | exact ⟨rfl, rfl⟩ | refine nilk (fun h => absurd h (of_decide_eq_false rfl)) ?_ | refine nilk (fun h => absurd h (List.cons_ne_nil _ _)) ?_ | refine nilk (fun h => ?_) ?_ | exact rfl | refine leftk1 rfl ?_ | refine bytk8 rfl ?_ | refine bytk rfl ?_ | exact leftk0 rfl | refine eqk rfl ?_ | refine fLm rfl ?_ | refine fLk (by assumption) ?_ | refine fVk ?_ | refine fLVk ?_ | refine fWk ?_ | intro hl))
    conv => whnf
    refine fLnew (fun s1 x1 f1 o1 sv1 => ?_)
    have hf1 := x1 _ _ hf0
    generalize s.length = a' at f1 o1
    repeat' ((conv => whnf); (first | (rw [hf1]) | refine pickk0 ?_ | refine csp (fun h => ?_) (fun h => ?_) | (refine sda ?_ ?_; (focus (first | rfl | exact of_decide_eq_true rfl | (simp; done)))) | refine sda ?_ ?_ | refine conk rfl ?_ | refine ldk rfl ?_ | refine mapk (fun x hx => ?_) | exact ⟨rfl, rfl⟩ | refine nilk (fun h => absurd h (of_decide_eq_false rfl)) ?_ | refine nilk (fun h => absurd h (List.cons_ne_nil _ _)) ?_ | refine nilk (fun h => ?_) ?_ | exact rfl | refine leftk1 rfl ?_ | refine bytk8 rfl ?_ | refine bytk rfl ?_ | exact leftk0 rfl | refine eqk rfl ?_ | refine fLm rfl ?_ | refine fLk (by assumption) ?_ | refine fVk ?_ | refine fLVk ?_ | refine fWk ?_ | intro hl))
    conv => whnf
    refine fLset hf1 (fun s2 a2 b2 sv2 => ?_)
    have hne : e.l ++ d ≠ [] := fun q => hde (List.append_eq_nil_iff.1 q).2
    have a2 : at? s2 e.p = some (.box true [cell a' (e.l ++ d), .int .i64 e.sy]) := by
      rw [a2, cell_ne hne, List.length_append, ← hLF]
      show some (O.box true [V.sl a' 0 (([] : List (List V)).length + (bV d).length), .int .i64 e.sy]) = _
      rw [hX]
      simp only [List.length_map]
    have hpa : a' ≠ e.p := fun q => by rw [q, hI.f e he] at f1; cases f1
    have o2 : at? s2 a' = some (.arr true 1 (bV (e.l ++ d))) := by
      rw [b2 a' hpa, o1, hX, bV_app]
      rw [hle]
      rfl
    have D12 := Did.file hI hj a' (e.l ++ d) e.sy ⟨by rw [List.length_append]; omega, hll.2.1, by rw [List.length_append]; omega⟩ a2 (fun i o hi hia ho => by rw [b2 i hi]; exact x1 i o ho) (fun _ => o2) (fun _ => .inl f1)
    have hw2 := D12.1.w
    repeat' ((conv => whnf); (first | (rw [hw2]) | refine pickk0 ?_ | refine csp (fun h => ?_) (fun h => ?_) | (refine sda ?_ ?_; (focus (first | rfl | exact of_decide_eq_true rfl | (simp; done)))) | refine sda ?_ ?_ | refine conk rfl ?_ | refine ldk rfl ?_ | refine mapk (fun x hx => ?_) | exact ⟨rfl, rfl⟩ | refine nilk (fun h => absurd h (of_decide_eq_false rfl)) ?_ | refine nilk (fun h => absurd h (List.cons_ne_nil _ _)) ?_ | refine nilk (fun h => ?_) ?_ | exact rfl | refine leftk1 rfl ?_ | refine bytk8 rfl ?_ | refine bytk rfl ?_ | exact leftk0 rfl | refine eqk rfl ?_ | refine fLm rfl ?_ | refine fLk (by assumption) ?_ | refine fVk ?_ | refine fLVk ?_ | refine fWk ?_ | intro hl))
    conv => whnf
    refine fLset hw2 (fun s3 a3 b3 sv3 => ?_)
    have D3 := D12.trans (Did.box D12.1 W.off W.cut W.keep W.ops (IntKind.i64.wrap (W.wr + (((bV d).length : Nat) : Int))) hI.kk a3 b3)
    repeat' ((conv => whnf); (first | refine pickk0 ?_ | refine csp (fun h => ?_) (fun h => ?_) | (refine sda ?_ ?_; (focus (first | rfl | exact of_decide_eq_true rfl | (simp; done)))) | refine sda ?_ ?_ | refine conk rfl ?_ | refine ldk rfl ?_ | refine mapk (fun x hx => ?_) | exact ⟨rfl, rfl⟩ | refine nilk (fun h => absurd h (of_decide_eq_false rfl)) ?_ | refine nilk (fun h => absurd h (List.cons_ne_nil _ _)) ?_ | refine nilk (fun h => ?_) ?_ | exact rfl | refine leftk1 rfl ?_ | refine bytk8 rfl ?_ | refine bytk rfl ?_ | exact leftk0 rfl | refine eqk rfl ?_ | refine fLm rfl ?_ | refine fLk (by assumption) ?_ | refine fVk ?_ | refine fLVk ?_ | refine fWk ?_ | intro hl))
    conv => whnf
    refine clq (w_oper2 D3.1 D3 F_files_World_Append_1 [] _ fun s4 D4 => w_append1 D4.1) (fun r s5 q _ _ => ?_)
    have sv5 : Sv s5 := ⟨⟩
    repeat' ((conv => whnf); (first | refine pickk0 ?_ | refine csp (fun h => ?_) (fun h => ?_) | (refine sda ?_ ?_; (focus (first | rfl | exact of_decide_eq_true rfl | (simp; done)))) | refine sda ?_ ?_ | refine conk rfl ?_ | refine ldk rfl ?_ | refine mapk (fun x hx => ?_) | exact ⟨rfl, rfl⟩ | refine nilk (fun h => absurd h (of_decide_eq_false rfl)) ?_ | refine nilk (fun h => absurd h (List.cons_ne_nil _ _)) ?_ | refine nilk (fun h => ?_) ?_ | exact rfl | refine leftk1 rfl ?_ | refine bytk8 rfl ?_ | refine bytk rfl ?_ | exact leftk0 rfl | refine eqk rfl ?_ | refine fLm rfl ?_ | refine fLk (by assumption) ?_ | refine fVk ?_ | refine fLVk ?_ | refine fWk ?_ | intro hl))
    have qq : AppendB wi mi W s d e r s5 := by
      unfold AppendB
      rw [if_neg hbig]
      refine ⟨_, ?_, fun f => ?_, q⟩
      · show Hd.mk W.off W.cut W.keep W.ops (IntKind.i64.wrap (W.wr + (((bV d).length : Nat) : Int))) = _
        rw [hLB]
        rfl
      · exact fs_set (x := { e with a := a', l := e.l ++ d, sy := e.sy }) hI.nn hj rfl f
    exact (fq0 hoff hg hf qq : FileQ wi mi W s nm (fun n => .int .i64 n) (AppendB wi mi W s d) _ _)
set_option maxHeartbeats 4000000 in
theorem w_app_row_cons_nil (hI : IsW wi mi W s) (hn : nm.size ≤ 140737488355327) (hoff : W.off = false) (hg : gnm nm = true) {e : En} (hf : fnd W.es nm = some e) (d : List Int) (x : Bool) (hle : e.l ≠ []) (hde : d = []) :
    RetQ Try.prog F_files_World_Append [.ptr wi 0, .str nm, .row x (bV d)] s (FileQ wi mi W s nm (fun n => .int .i64 n) (AppendB wi mi W s d)) := by
  refine rq_files_World_Append rfl fun _ _ => ?_
  have sv : Sv s := ⟨⟩
  have hX : bV d = bV d := rfl
  have he := (fnd_some hf).1
  have hll := hI.ll e he
  obtain ⟨j, hj⟩ := List.mem_iff_getElem?.1 he
  have hf0 := hI.f e he
  rw [cell_ne hle] at hf0
  have ha := hI.a e he hle
  have hLF : e.l.length = e.l.length := by rfl
  have hLB : (bV d).length = d.length := by rw [List.length_map]
  by_cases hbig : 1048576 < e.l.length + d.length
  · have hc : decide ((((bV d).length : Nat) : Int) > IntKind.i64.wrap (1048576 - ((e.l.length : Nat) : Int))) = true := decide_eq_true (by rw [hLF, hLB, w64 (by omega)]; omega)
    repeat' ((conv => whnf); (first | refine csp_t (hc) ?_ | (rw [hf0]) | (rw [ha]) | refine pickk0 ?_ | refine csp (fun h => ?_) (fun h => ?_) | refine clrd (may0 hI.w hn hoff hg) (fun _ _ => ?_) | refine clrd (there0 hI hf) (fun _ _ => ?_) | (refine sda ?_ ?_; (focus (first | rfl | exact of_decide_eq_true rfl | (simp; done)))) | refine sda ?_ ?_ | refine conk rfl ?_ | refine ldk rfl ?_ | refine mapk (fun x hx => ?_) | exact ⟨rfl, rfl⟩ | refine nilk (fun h => absurd h (of_decide_eq_false rfl)) ?_ | refine nilk (fun h => absurd h (List.cons_ne_nil _ _)) ?_ | refine nilk (fun h => ?_) ?_ | exact rfl | refine leftk1 rfl ?_ | refine bytk8 rfl ?_ | refine bytk rfl ?_ | exact leftk0 rfl | refine eqk rfl ?_ | refine fLm rfl ?_ | refine fLk (by assumption) ?_ | refine fVk ?_ | refine fLVk ?_ | refine fWk ?_ | intro hl))
    have qq : AppendB wi mi W s d e (.int .i64 9) s := by unfold AppendB; rw [if_pos hbig]; exact ⟨rfl, Did.refl hI⟩
    exact (fq0 hoff hg hf qq : FileQ wi mi W s nm (fun n => .int .i64 n) (AppendB wi mi W s d) _ _)
  · have hc : decide ((((bV d).length : Nat) : Int) > IntKind.i64.wrap (1048576 - ((e.l.length : Nat) : Int))) = false := decide_eq_false (by rw [hLF, hLB, w64 (by omega)]; omega)
    have e1 : (bV d).isEmpty = true := by rw [hX, hde]; rfl
    repeat' ((conv => whnf); (first | refine csp_f (hc) ?_ | refine csp_t (e1) ?_ | (rw [hf0]) | (rw [ha]) | refine pickk0 ?_ | refine csp (fun h => ?_) (fun h => ?_) | refine clrd (may0 hI.w hn hoff hg) (fun _ _ => ?_) | refine clrd (there0 hI hf) (fun _ _ => ?_) | (refine sda ?_ ?_; (focus (first | rfl | exact of_decide_eq_true rfl | (simp; done)))) | refine sda ?_ ?_ | refine conk rfl ?_ | refine ldk rfl ?_ | refine mapk (fun x hx => ?_) | exact ⟨rfl, rfl⟩ | refine nilk (fun h => absurd h (of_decide_eq_false rfl)) ?_ | refine nilk (fun h => absurd h (List.cons_ne_nil _ _)) ?_ | refine nilk (fun h => ?_) ?_ | exact rfl | refine leftk1 rfl ?_ | refine bytk8 rfl ?_ | refine bytk rfl ?_ | exact leftk0 rfl | refine eqk rfl ?_ | refine fLm rfl ?_ | refine fLk (by assumption) ?_ | refine fVk ?_ | refine fLVk ?_ | refine fWk ?_ | intro hl))
    conv => whnf
    refine fLset hf0 (fun s2 a2 b2 sv2 => ?_)
    have a2 : at? s2 e.p = some (.box true [cell e.a (e.l ++ d), .int .i64 e.sy]) := by
      rw [a2, hde, List.append_nil]
      rw [cell_ne hle]
      rfl
    have D12 := Did.file hI hj e.a (e.l ++ d) e.sy ⟨by rw [List.length_append]; omega, hll.2.1, by rw [List.length_append]; omega⟩ a2 (fun i o hi _ ho => by rw [b2 i hi]; exact ho) (by rw [hde, List.append_nil]; exact fun hq => by rw [b2 _ (hI.pa he he hq)]; exact hI.a e he hq) (by rw [hde, List.append_nil]; exact fun hq => .inr ⟨hq, rfl⟩)
    have hw2 := D12.1.w
    repeat' ((conv => whnf); (first | (rw [hw2]) | refine pickk0 ?_ | refine csp (fun h => ?_) (fun h => ?_) | (refine sda ?_ ?_; (focus (first | rfl | exact of_decide_eq_true rfl | (simp; done)))) | refine sda ?_ ?_ | refine conk rfl ?_ | refine ldk rfl ?_ | refine mapk (fun x hx => ?_) | exact ⟨rfl, rfl⟩ | refine nilk (fun h => absurd h (of_decide_eq_false rfl)) ?_ | refine nilk (fun h => absurd h (List.cons_ne_nil _ _)) ?_ | refine nilk (fun h => ?_) ?_ | exact rfl | refine leftk1 rfl ?_ | refine bytk8 rfl ?_ | refine bytk rfl ?_ | exact leftk0 rfl | refine eqk rfl ?_ | refine fLm rfl ?_ | refine fLk (by assumption) ?_ | refine fVk ?_ | refine fLVk ?_ | refine fWk ?_ | intro hl))
    conv => whnf
    refine fLset hw2 (fun s3 a3 b3 sv3 => ?_)
    have D3 := D12.trans (Did.box D12.1 W.off W.cut W.keep W.ops (IntKind.i64.wrap (W.wr + (((bV d).length : Nat) : Int))) hI.kk a3 b3)
    repeat' ((conv => whnf); (first | refine pickk0 ?_ | refine csp (fun h => ?_) (fun h => ?_) | (refine sda ?_ ?_; (focus (first | rfl | exact of_decide_eq_true rfl | (simp; done)))) | refine sda ?_ ?_ | refine conk rfl ?_ | refine ldk rfl ?_ | refine mapk (fun x hx => ?_) | exact ⟨rfl, rfl⟩ | refine nilk (fun h => absurd h (of_decide_eq_false rfl)) ?_ | refine nilk (fun h => absurd h (List.cons_ne_nil _ _)) ?_ | refine nilk (fun h => ?_) ?_ | exact rfl | refine leftk1 rfl ?_ | refine bytk8 rfl ?_ | refine bytk rfl ?_ | exact leftk0 rfl | refine eqk rfl ?_ | refine fLm rfl ?_ | refine fLk (by assumption) ?_ | refine fVk ?_ | refine fLVk ?_ | refine fWk ?_ | intro hl))
    conv => whnf
    refine clq (w_oper2 D3.1 D3 F_files_World_Append_1 [] _ fun s4 D4 => w_append1 D4.1) (fun r s5 q _ _ => ?_)
    have sv5 : Sv s5 := ⟨⟩
    repeat' ((conv => whnf); (first | refine pickk0 ?_ | refine csp (fun h => ?_) (fun h => ?_) | (refine sda ?_ ?_; (focus (first | rfl | exact of_decide_eq_true rfl | (simp; done)))) | refine sda ?_ ?_ | refine conk rfl ?_ | refine ldk rfl ?_ | refine mapk (fun x hx => ?_) | exact ⟨rfl, rfl⟩ | refine nilk (fun h => absurd h (of_decide_eq_false rfl)) ?_ | refine nilk (fun h => absurd h (List.cons_ne_nil _ _)) ?_ | refine nilk (fun h => ?_) ?_ | exact rfl | refine leftk1 rfl ?_ | refine bytk8 rfl ?_ | refine bytk rfl ?_ | exact leftk0 rfl | refine eqk rfl ?_ | refine fLm rfl ?_ | refine fLk (by assumption) ?_ | refine fVk ?_ | refine fLVk ?_ | refine fWk ?_ | intro hl))
    have qq : AppendB wi mi W s d e r s5 := by
      unfold AppendB
      rw [if_neg hbig]
      refine ⟨_, ?_, fun f => ?_, q⟩
      · show Hd.mk W.off W.cut W.keep W.ops (IntKind.i64.wrap (W.wr + (((bV d).length : Nat) : Int))) = _
        rw [hLB]
        rfl
      · exact fs_set (x := { e with a := e.a, l := e.l ++ d, sy := e.sy }) hI.nn hj rfl f
    exact (fq0 hoff hg hf qq : FileQ wi mi W s nm (fun n => .int .i64 n) (AppendB wi mi W s d) _ _)
set_option maxHeartbeats 4000000 in
theorem w_app_row_cons_cons (hI : IsW wi mi W s) (hn : nm.size ≤ 140737488355327) (hoff : W.off = false) (hg : gnm nm = true) {e : En} (hf : fnd W.es nm = some e) (d : List Int) (x : Bool) (hle : e.l ≠ []) (hde : d ≠ []) :
    RetQ Try.prog F_files_World_Append [.ptr wi 0, .str nm, .row x (bV d)] s (FileQ wi mi W s nm (fun n => .int .i64 n) (AppendB wi mi W s d)) := by
  refine rq_files_World_Append rfl fun _ _ => ?_
  have sv : Sv s := ⟨⟩
  have hX : bV d = bV d := rfl
  have he := (fnd_some hf).1
  have hll := hI.ll e he
  obtain ⟨j, hj⟩ := List.mem_iff_getElem?.1 he
  have hf0 := hI.f e he
  rw [cell_ne hle] at hf0
  have ha := hI.a e he hle
  have hLF : e.l.length = e.l.length := by rfl
  have hLB : (bV d).length = d.length := by rw [List.length_map]
  by_cases hbig : 1048576 < e.l.length + d.length
  · have hc : decide ((((bV d).length : Nat) : Int) > IntKind.i64.wrap (1048576 - ((e.l.length : Nat) : Int))) = true := decide_eq_true (by rw [hLF, hLB, w64 (by omega)]; omega)
    repeat' ((conv => whnf); (first | refine csp_t (hc) ?_ | (rw [hf0]) | (rw [ha]) | refine pickk0 ?_ | refine csp (fun h => ?_) (fun h => ?_) | refine clrd (may0 hI.w hn hoff hg) (fun _ _ => ?_) | refine clrd (there0 hI hf) (fun _ _ => ?_) | (refine sda ?_ ?_; (focus (first | rfl | exact of_decide_eq_true rfl | (simp; done)))) | refine sda ?_ ?_ | refine conk rfl ?_ | refine ldk rfl ?_ | refine mapk (fun x hx => ?_) | exact ⟨rfl, rfl⟩ | refine nilk (fun h => absurd h (of_decide_eq_false rfl)) ?_ | refine nilk (fun h => absurd h (List.cons_ne_nil _ _)) ?_ | refine nilk (fun h => ?_) ?_ | exact rfl | refine leftk1 rfl ?_ | refine bytk8 rfl ?_ | refine bytk rfl ?_ | exact leftk0 rfl | refine eqk rfl ?_ | refine fLm rfl ?_ | refine fLk (by assumption) ?_ | refine fVk ?_ | refine fLVk ?_ | refine fWk ?_ | intro hl))
    have qq : AppendB wi mi W s d e (.int .i64 9) s := by unfold AppendB; rw [if_pos hbig]; exact ⟨rfl, Did.refl hI⟩
    exact (fq0 hoff hg hf qq : FileQ wi mi W s nm (fun n => .int .i64 n) (AppendB wi mi W s d) _ _)
  · have hc : decide ((((bV d).length : Nat) : Int) > IntKind.i64.wrap (1048576 - ((e.l.length : Nat) : Int))) = false := decide_eq_false (by rw [hLF, hLB, w64 (by omega)]; omega)
    have e1 : (bV d).isEmpty = false := by rw [hX]; exact bV_ne hde
    have e2 : ∀ z ∈ bV d, z.length = 1 := by rw [hX]; exact bV_one d
    have e3 : ∀ z ∈ bV d, ∀ c ∈ z, leafV c = true := by rw [hX]; intro z hz c hc; obtain ⟨y, _, rfl⟩ := List.mem_map.1 hz; rw [List.mem_singleton.1 hc]; rfl
    have e4 : ((bV e.l).length + (bV d).length) * 2 ≤ 140737488355327 := by rw [hX]; simp only [List.length_map, List.length_nil]; omega
    have e5 : e.l.length = (bV e.l).length := by rw [List.length_map]
    repeat' ((conv => whnf); (first | refine csp_f (hc) ?_ | refine csp_f (e1) ?_ | refine sda (e2) ?_ | refine sda (e3) ?_ | refine sda (e4) ?_ | refine sda (e5) ?_ | (rw [hf0]) | (rw [ha]) | refine pickk0 ?_ | refine csp (fun h => ?_) (fun h => ?_) | refine clrd (may0 hI.w hn hoff hg) (fun _ _ => ?_) | refine clrd (there0 hI hf) (fun _ _ => ?_) | (refine sda ?_ ?_; (focus (first | rfl | exact of_decide_eq_true rfl | (simp; done)))) | refine sda ?_ ?_ | refine conk rfl ?_ | refine ldk rfl ?_ | refine mapk (fun x hx => ?_) | exact ⟨rfl, rfl⟩ | refine nilk (fun h => absurd h (of_decide_eq_false rfl)) ?_ | refine nilk (fun h => absurd h (List.cons_ne_nil _ _)) ?_ | refine nilk (fun h => ?_) ?_ | exact rfl | refine leftk1 rfl ?_ | refine bytk8 rfl ?_ | refine bytk rfl ?_ | exact leftk0 rfl | refine eqk rfl ?_ | refine fLm rfl ?_ | refine fLk (by assumption) ?_ | refine fVk ?_ | refine fLVk ?_ | refine fWk ?_ | intro hl))
    conv => whnf
    refine fLmove ha (fun s1 f1 o1 x1 sv1 => ?_)
    have hf1 := x1 _ _ (fun q => hI.pa he he hle q.symm) hf0
    generalize s.length = a' at f1 o1
    repeat' ((conv => whnf); (first | (rw [hf1]) | refine pickk0 ?_ | refine csp (fun h => ?_) (fun h => ?_) | (refine sda ?_ ?_; (focus (first | rfl | exact of_decide_eq_true rfl | (simp; done)))) | refine sda ?_ ?_ | refine conk rfl ?_ | refine ldk rfl ?_ | refine mapk (fun x hx => ?_) | exact ⟨rfl, rfl⟩ | refine nilk (fun h => absurd h (of_decide_eq_false rfl)) ?_ | refine nilk (fun h => absurd h (List.cons_ne_nil _ _)) ?_ | refine nilk (fun h => ?_) ?_ | exact rfl | refine leftk1 rfl ?_ | refine bytk8 rfl ?_ | refine bytk rfl ?_ | exact leftk0 rfl | refine eqk rfl ?_ | refine fLm rfl ?_ | refine fLk (by assumption) ?_ | refine fVk ?_ | refine fLVk ?_ | refine fWk ?_ | intro hl))
    conv => whnf
    refine fLset hf1 (fun s2 a2 b2 sv2 => ?_)
    have hne : e.l ++ d ≠ [] := fun q => hde (List.append_eq_nil_iff.1 q).2
    have a2 : at? s2 e.p = some (.box true [cell a' (e.l ++ d), .int .i64 e.sy]) := by
      rw [a2, cell_ne hne, List.length_append, ← hLF]
      show some (O.box true [V.sl a' 0 ((bV e.l).length + (bV d).length), .int .i64 e.sy]) = _
      rw [hX]
      simp only [List.length_map]
    have hpa : a' ≠ e.p := fun q => by rw [q, hI.f e he] at f1; cases f1
    have o2 : at? s2 a' = some (.arr true 1 (bV (e.l ++ d))) := by
      rw [b2 a' hpa, o1, hX, bV_app]
    have D12 := Did.file hI hj a' (e.l ++ d) e.sy ⟨by rw [List.length_append]; omega, hll.2.1, by rw [List.length_append]; omega⟩ a2 (fun i o hi hia ho => by rw [b2 i hi]; exact x1 i o (hia hle) ho) (fun _ => o2) (fun _ => .inl f1)
    have hw2 := D12.1.w
    repeat' ((conv => whnf); (first | (rw [hw2]) | refine pickk0 ?_ | refine csp (fun h => ?_) (fun h => ?_) | (refine sda ?_ ?_; (focus (first | rfl | exact of_decide_eq_true rfl | (simp; done)))) | refine sda ?_ ?_ | refine conk rfl ?_ | refine ldk rfl ?_ | refine mapk (fun x hx => ?_) | exact ⟨rfl, rfl⟩ | refine nilk (fun h => absurd h (of_decide_eq_false rfl)) ?_ | refine nilk (fun h => absurd h (List.cons_ne_nil _ _)) ?_ | refine nilk (fun h => ?_) ?_ | exact rfl | refine leftk1 rfl ?_ | refine bytk8 rfl ?_ | refine bytk rfl ?_ | exact leftk0 rfl | refine eqk rfl ?_ | refine fLm rfl ?_ | refine fLk (by assumption) ?_ | refine fVk ?_ | refine fLVk ?_ | refine fWk ?_ | intro hl))
    conv => whnf
    refine fLset hw2 (fun s3 a3 b3 sv3 => ?_)
    have D3 := D12.trans (Did.box D12.1 W.off W.cut W.keep W.ops (IntKind.i64.wrap (W.wr + (((bV d).length : Nat) : Int))) hI.kk a3 b3)
    repeat' ((conv => whnf); (first | refine pickk0 ?_ | refine csp (fun h => ?_) (fun h => ?_) | (refine sda ?_ ?_; (focus (first | rfl | exact of_decide_eq_true rfl | (simp; done)))) | refine sda ?_ ?_ | refine conk rfl ?_ | refine ldk rfl ?_ | refine mapk (fun x hx => ?_) | exact ⟨rfl, rfl⟩ | refine nilk (fun h => absurd h (of_decide_eq_false rfl)) ?_ | refine nilk (fun h => absurd h (List.cons_ne_nil _ _)) ?_ | refine nilk (fun h => ?_) ?_ | exact rfl | refine leftk1 rfl ?_ | refine bytk8 rfl ?_ | refine bytk rfl ?_ | exact leftk0 rfl | refine eqk rfl ?_ | refine fLm rfl ?_ | refine fLk (by assumption) ?_ | refine fVk ?_ | refine fLVk ?_ | refine fWk ?_ | intro hl))
    conv => whnf
    refine clq (w_oper2 D3.1 D3 F_files_World_Append_1 [] _ fun s4 D4 => w_append1 D4.1) (fun r s5 q _ _ => ?_)
    have sv5 : Sv s5 := ⟨⟩
    repeat' ((conv => whnf); (first | refine pickk0 ?_ | refine csp (fun h => ?_) (fun h => ?_) | (refine sda ?_ ?_; (focus (first | rfl | exact of_decide_eq_true rfl | (simp; done)))) | refine sda ?_ ?_ | refine conk rfl ?_ | refine ldk rfl ?_ | refine mapk (fun x hx => ?_) | exact ⟨rfl, rfl⟩ | refine nilk (fun h => absurd h (of_decide_eq_false rfl)) ?_ | refine nilk (fun h => absurd h (List.cons_ne_nil _ _)) ?_ | refine nilk (fun h => ?_) ?_ | exact rfl | refine leftk1 rfl ?_ | refine bytk8 rfl ?_ | refine bytk rfl ?_ | exact leftk0 rfl | refine eqk rfl ?_ | refine fLm rfl ?_ | refine fLk (by assumption) ?_ | refine fVk ?_ | refine fLVk ?_ | refine fWk ?_ | intro hl))
    have qq : AppendB wi mi W s d e r s5 := by
      unfold AppendB
      rw [if_neg hbig]
      refine ⟨_, ?_, fun f => ?_, q⟩
      · show Hd.mk W.off W.cut W.keep W.ops (IntKind.i64.wrap (W.wr + (((bV d).length : Nat) : Int))) = _
        rw [hLB]
        rfl
      · exact fs_set (x := { e with a := a', l := e.l ++ d, sy := e.sy }) hI.nn hj rfl f
    exact (fq0 hoff hg hf qq : FileQ wi mi W s nm (fun n => .int .i64 n) (AppendB wi mi W s d) _ _)
set_option maxHeartbeats 4000000 in
theorem w_app_sl_nil_nil (hI : IsW wi mi W s) (hn : nm.size ≤ 140737488355327) (hoff : W.off = false) (hg : gnm nm = true) {e : En} (hf : fnd W.es nm = some e) (d : List Int) (k off : Nat) (w : Bool) (els : List (List V)) (hk : at? s k = some (.arr w 1 els)) (hX : List.take d.length (List.drop off els) = bV d) (hle : e.l = []) (hde : d = []) :
    RetQ Try.prog F_files_World_Append [.ptr wi 0, .str nm, .sl k off d.length] s (FileQ wi mi W s nm (fun n => .int .i64 n) (AppendB wi mi W s d)) := by
  refine rq_files_World_Append rfl fun _ _ => ?_
  have sv : Sv s := ⟨⟩
  have he := (fnd_some hf).1
  have hll := hI.ll e he
  obtain ⟨j, hj⟩ := List.mem_iff_getElem?.1 he
  have hf0 := hI.f e he
  rw [hle] at hf0
  simp only [cell] at hf0
  have hLF : ([] : List (List V)).length = e.l.length := by rw [hle]; rfl
  have hLB : d.length = d.length := by rfl
  by_cases hbig : 1048576 < e.l.length + d.length
  · have hc : decide (((d.length : Nat) : Int) > IntKind.i64.wrap (1048576 - ((([] : List (List V)).length : Nat) : Int))) = true := decide_eq_true (by rw [hLF, hLB, w64 (by omega)]; omega)
    repeat' ((conv => whnf); (first | refine csp_t (hc) ?_ | (rw [hf0]) | (rw [hk]) | refine pickk0 ?_ | refine csp (fun h => ?_) (fun h => ?_) | refine clrd (may0 hI.w hn hoff hg) (fun _ _ => ?_) | refine clrd (there0 hI hf) (fun _ _ => ?_) | (refine sda ?_ ?_; (focus (first | rfl | exact of_decide_eq_true rfl | (simp; done)))) | refine sda ?_ ?_ | refine conk rfl ?_ | refine ldk rfl ?_ | refine mapk (fun x hx => ?_) | exact ⟨rfl, rfl⟩ | refine nilk (fun h => absurd h (of_decide_eq_false rfl)) ?_ | refine nilk (fun h => absurd h (List.cons_ne_nil _ _)) ?_ | refine nilk (fun h => ?_) ?_ | exact rfl | refine leftk1 rfl ?_ | refine bytk8 rfl ?_ | refine bytk rfl ?_ | exact leftk0 rfl | refine eqk rfl ?_ | refine fLm rfl ?_ | refine fLk (by assumption) ?_ | refine fVk ?_ | refine fLVk ?_ | refine fWk ?_ | intro hl))
    have qq : AppendB wi mi W s d e (.int .i64 9) s := by unfold AppendB; rw [if_pos hbig]; exact ⟨rfl, Did.refl hI⟩
    exact (fq0 hoff hg hf qq : FileQ wi mi W s nm (fun n => .int .i64 n) (AppendB wi mi W s d) _ _)
  · have hc : decide (((d.length : Nat) : Int) > IntKind.i64.wrap (1048576 - ((([] : List (List V)).length : Nat) : Int))) = false := decide_eq_false (by rw [hLF, hLB, w64 (by omega)]; omega)
    have e1 : (List.take d.length (List.drop off els)).isEmpty = true := by rw [hX, hde]; rfl
    repeat' ((conv => whnf); (first | refine csp_f (hc) ?_ | refine csp_t (e1) ?_ | (rw [hf0]) | (rw [hk]) | refine pickk0 ?_ | refine csp (fun h => ?_) (fun h => ?_) | refine clrd (may0 hI.w hn hoff hg) (fun _ _ => ?_) | refine clrd (there0 hI hf) (fun _ _ => ?_) | (refine sda ?_ ?_; (focus (first | rfl | exact of_decide_eq_true rfl | (simp; done)))) | refine sda ?_ ?_ | refine conk rfl ?_ | refine ldk rfl ?_ | refine mapk (fun x hx => ?_) | exact ⟨rfl, rfl⟩ | refine nilk (fun h => absurd h (of_decide_eq_false rfl)) ?_ | refine nilk (fun h => absurd h (List.cons_ne_nil _ _)) ?_ | refine nilk (fun h => ?_) ?_ | exact rfl | refine leftk1 rfl ?_ | refine bytk8 rfl ?_ | refine bytk rfl ?_ | exact leftk0 rfl | refine eqk rfl ?_ | refine fLm rfl ?_ | refine fLk (by assumption) ?_ | refine fVk ?_ | refine fLVk ?_ | refine fWk ?_ | intro hl))
    conv => whnf
    refine fLset hf0 (fun s2 a2 b2 sv2 => ?_)
    have a2 : at? s2 e.p = some (.box true [cell e.a (e.l ++ d), .int .i64 e.sy]) := by
      rw [a2, hde, List.append_nil]
      rw [hle]
      rfl
    have D12 := Did.file hI hj e.a (e.l ++ d) e.sy ⟨by rw [List.length_append]; omega, hll.2.1, by rw [List.length_append]; omega⟩ a2 (fun i o hi _ ho => by rw [b2 i hi]; exact ho) (by rw [hde, List.append_nil]; exact fun hq => by rw [b2 _ (hI.pa he he hq)]; exact hI.a e he hq) (by rw [hde, List.append_nil]; exact fun hq => .inr ⟨hq, rfl⟩)
    have hw2 := D12.1.w
    repeat' ((conv => whnf); (first | (rw [hw2]) | refine pickk0 ?_ | refine csp (fun h => ?_) (fun h => ?_) | (refine sda ?_ ?_; (focus (first | rfl | exact of_decide_eq_true rfl | (simp; done)))) | refine sda ?_ ?_ | refine conk rfl ?_ | refine ldk rfl ?_ | refine mapk (fun x hx => ?_) | exact ⟨rfl, rfl⟩ | refine nilk (fun h => absurd h (of_decide_eq_false rfl)) ?_ | refine nilk (fun h => absurd h (List.cons_ne_nil _ _)) ?_ | refine nilk (fun h => ?_) ?_ | exact rfl | refine leftk1 rfl ?_ | refine bytk8 rfl ?_ | refine bytk rfl ?_ | exact leftk0 rfl | refine eqk rfl ?_ | refine fLm rfl ?_ | refine fLk (by assumption) ?_ | refine fVk ?_ | refine fLVk ?_ | refine fWk ?_ | intro hl))
    conv => whnf
    refine fLset hw2 (fun s3 a3 b3 sv3 => ?_)
    have D3 := D12.trans (Did.box D12.1 W.off W.cut W.keep W.ops (IntKind.i64.wrap (W.wr + ((d.length : Nat) : Int))) hI.kk a3 b3)
    repeat' ((conv => whnf); (first | refine pickk0 ?_ | refine csp (fun h => ?_) (fun h => ?_) | (refine sda ?_ ?_; (focus (first | rfl | exact of_decide_eq_true rfl | (simp; done)))) | refine sda ?_ ?_ | refine conk rfl ?_ | refine ldk rfl ?_ | refine mapk (fun x hx => ?_) | exact ⟨rfl, rfl⟩ | refine nilk (fun h => absurd h (of_decide_eq_false rfl)) ?_ | refine nilk (fun h => absurd h (List.cons_ne_nil _ _)) ?_ | refine nilk (fun h => ?_) ?_ | exact rfl | refine leftk1 rfl ?_ | refine bytk8 rfl ?_ | refine bytk rfl ?_ | exact leftk0 rfl | refine eqk rfl ?_ | refine fLm rfl ?_ | refine fLk (by assumption) ?_ | refine fVk ?_ | refine fLVk ?_ | refine fWk ?_ | intro hl))
    conv => whnf
    refine clq (w_oper2 D3.1 D3 F_files_World_Append_1 [] _ fun s4 D4 => w_append1 D4.1) (fun r s5 q _ _ => ?_)
    have sv5 : Sv s5 := ⟨⟩
    repeat' ((conv => whnf); (first | refine pickk0 ?_ | refine csp (fun h => ?_) (fun h => ?_) | (refine sda ?_ ?_; (focus (first | rfl | exact of_decide_eq_true rfl | (simp; done)))) | refine sda ?_ ?_ | refine conk rfl ?_ | refine ldk rfl ?_ | refine mapk (fun x hx => ?_) | exact ⟨rfl, rfl⟩ | refine nilk (fun h => absurd h (of_decide_eq_false rfl)) ?_ | refine nilk (fun h => absurd h (List.cons_ne_nil _ _)) ?_ | refine nilk (fun h => ?_) ?_ | exact rfl | refine leftk1 rfl ?_ | refine bytk8 rfl ?_ | refine bytk rfl ?_ | exact leftk0 rfl | refine eqk rfl ?_ | refine fLm rfl ?_ | refine fLk (by assumption) ?_ | refine fVk ?_ | refine fLVk ?_ | refine fWk ?_ | intro hl))
    have qq : AppendB wi mi W s d e r s5 := by
      unfold AppendB
      rw [if_neg hbig]
      refine ⟨_, ?_, fun f => ?_, q⟩
      · show Hd.mk W.off W.cut W.keep W.ops (IntKind.i64.wrap (W.wr + ((d.length : Nat) : Int))) = _
        rw [hLB]
        rfl
      · exact fs_set (x := { e with a := e.a, l := e.l ++ d, sy := e.sy }) hI.nn hj rfl f
    exact (fq0 hoff hg hf qq : FileQ wi mi W s nm (fun n => .int .i64 n) (AppendB wi mi W s d) _ _)
set_option maxHeartbeats 4000000 in
theorem w_app_sl_nil_cons (hI : IsW wi mi W s) (hn : nm.size ≤ 140737488355327) (hoff : W.off = false) (hg : gnm nm = true) {e : En} (hf : fnd W.es nm = some e) (d : List Int) (k off : Nat) (w : Bool) (els : List (List V)) (hk : at? s k = some (.arr w 1 els)) (hX : List.take d.length (List.drop off els) = bV d) (hle : e.l = []) (hde : d ≠ []) :
    RetQ Try.prog F_files_World_Append [.ptr wi 0, .str nm, .sl k off d.length] s (FileQ wi mi W s nm (fun n => .int .i64 n) (AppendB wi mi W s d)) := by
  refine rq_files_World_Append rfl fun _ _ => ?_
  have sv : Sv s := ⟨⟩
  have he := (fnd_some hf).1
  have hll := hI.ll e he
  obtain ⟨j, hj⟩ := List.mem_iff_getElem?.1 he
  have hf0 := hI.f e he
  rw [hle] at hf0
  simp only [cell] at hf0
  have hLF : ([] : List (List V)).length = e.l.length := by rw [hle]; rfl
  have hLB : d.length = d.length := by rfl
  by_cases hbig : 1048576 < e.l.length + d.length
  · have hc : decide (((d.length : Nat) : Int) > IntKind.i64.wrap (1048576 - ((([] : List (List V)).length : Nat) : Int))) = true := decide_eq_true (by rw [hLF, hLB, w64 (by omega)]; omega)
    repeat' ((conv => whnf); (first | refine csp_t (hc) ?_ | (rw [hf0]) | (rw [hk]) | refine pickk0 ?_ | refine csp (fun h => ?_) (fun h => ?_) | refine clrd (may0 hI.w hn hoff hg) (fun _ _ => ?_) | refine clrd (there0 hI hf) (fun _ _ => ?_) | (refine sda ?_ ?_; (focus (first | rfl | exact of_decide_eq_true rfl | (simp; done)))) | refine sda ?_ ?_ | refine conk rfl ?_ | refine ldk rfl ?_ | refine mapk (fun x hx => ?_) | exact ⟨rfl, rfl⟩ | refine nilk (fun h => absurd h (of_decide_eq_false rfl)) ?_ | refine nilk (fun h => absurd h (List.cons_ne_nil _ _)) ?_ | refine nilk (fun h => ?_) ?_ | exact rfl | refine leftk1 rfl ?_ | refine bytk8 rfl ?_ | refine bytk rfl ?_ | exact leftk0 rfl | refine eqk rfl ?_ | refine fLm rfl ?_ | refine fLk (by assumption) ?_ | refine fVk ?_ | refine fLVk ?_ | refine fWk ?_ | intro hl))
    have qq : AppendB wi mi W s d e (.int .i64 9) s := by unfold AppendB; rw [if_pos hbig]; exact ⟨rfl, Did.refl hI⟩
    exact (fq0 hoff hg hf qq : FileQ wi mi W s nm (fun n => .int .i64 n) (AppendB wi mi W s d) _ _)
  · have hc : decide (((d.length : Nat) : Int) > IntKind.i64.wrap (1048576 - ((([] : List (List V)).length : Nat) : Int))) = false := decide_eq_false (by rw [hLF, hLB, w64 (by omega)]; omega)
    have e1 : (List.take d.length (List.drop off els)).isEmpty = false := by rw [hX]; exact bV_ne hde
    have e2 : ∀ z ∈ List.take d.length (List.drop off els), z.length = 1 := by rw [hX]; exact bV_one d
    have e3 : ∀ z ∈ List.take d.length (List.drop off els), ∀ c ∈ z, leafV c = true := by rw [hX]; intro z hz c hc; obtain ⟨y, _, rfl⟩ := List.mem_map.1 hz; rw [List.mem_singleton.1 hc]; rfl
    have e4 : (([] : List (List V)).length + (List.take d.length (List.drop off els)).length) * 2 ≤ 140737488355327 := by rw [hX]; simp only [List.length_map, List.length_nil]; omega
    repeat' ((conv => whnf); (first | refine csp_f (hc) ?_ | refine csp_f (e1) ?_ | refine sda (e2) ?_ | refine sda (e3) ?_ | refine sda (e4) ?_ | (rw [hf0]) | (rw [hk]) | refine pickk0 ?_ | refine csp (fun h => ?_) (fun h => ?_) | refine clrd (may0 hI.w hn hoff hg) (fun _ _ => ?_) | refine clrd (there0 hI hf) (fun _ _ => ?_) | (refine sda ?_ ?_; (focus (first | rfl | exact of_decide_eq_true rfl | (simp; done)))) | refine sda ?_ ?_ | refine conk rfl ?_ | refine ldk rfl ?_ | refine mapk (fun x hx => ?_) | exact ⟨rfl, rfl⟩ | refine nilk (fun h => absurd h (of_decide_eq_false rfl)) ?_ | refine nilk (fun h => absurd h (List.cons_ne_nil _ _)) ?_ | refine nilk (fun h => ?_) ?_ | exact rfl | refine leftk1 rfl ?_ | refine bytk8 rfl ?_ | refine bytk rfl ?_ | exact leftk0 rfl | refine eqk rfl ?_ | refine fLm rfl ?_ | refine fLk (by assumption) ?_ | refine fVk ?_ | refine fLVk ?_ | refine fWk ?_ | intro hl))
    conv => whnf
    refine fLnew (fun s1 x1 f1 o1 sv1 => ?_)
    have hf1 := x1 _ _ hf0
    generalize s.length = a' at f1 o1
    repeat' ((conv => whnf); (first | (rw [hf1]) | refine pickk0 ?_ | refine csp (fun h => ?_) (fun h => ?_) | (refine sda ?_ ?_; (focus (first | rfl | exact of_decide_eq_true rfl | (simp; done)))) | refine sda ?_ ?_ | refine conk rfl ?_ | refine ldk rfl ?_ | refine mapk (fun x hx => ?_) | exact ⟨rfl, rfl⟩ | refine nilk (fun h => absurd h (of_decide_eq_false rfl)) ?_ | refine nilk (fun h => absurd h (List.cons_ne_nil _ _)) ?_ | refine nilk (fun h => ?_) ?_ | exact rfl | refine leftk1 rfl ?_ | refine bytk8 rfl ?_ | refine bytk rfl ?_ | exact leftk0 rfl | refine eqk rfl ?_ | refine fLm rfl ?_ | refine fLk (by assumption) ?_ | refine fVk ?_ | refine fLVk ?_ | refine fWk ?_ | intro hl))
    conv => whnf
    refine fLset hf1 (fun s2 a2 b2 sv2 => ?_)
    have hne : e.l ++ d ≠ [] := fun q => hde (List.append_eq_nil_iff.1 q).2
    have a2 : at? s2 e.p = some (.box true [cell a' (e.l ++ d), .int .i64 e.sy]) := by
      rw [a2, cell_ne hne, List.length_append, ← hLF]
      show some (O.box true [V.sl a' 0 (([] : List (List V)).length + (List.take d.length (List.drop off els)).length), .int .i64 e.sy]) = _
      rw [hX]
      simp only [List.length_map]
    have hpa : a' ≠ e.p := fun q => by rw [q, hI.f e he] at f1; cases f1
    have o2 : at? s2 a' = some (.arr true 1 (bV (e.l ++ d))) := by
      rw [b2 a' hpa, o1, hX, bV_app]
      rw [hle]
      rfl
    have D12 := Did.file hI hj a' (e.l ++ d) e.sy ⟨by rw [List.length_append]; omega, hll.2.1, by rw [List.length_append]; omega⟩ a2 (fun i o hi hia ho => by rw [b2 i hi]; exact x1 i o ho) (fun _ => o2) (fun _ => .inl f1)
    have hw2 := D12.1.w
    repeat' ((conv => whnf); (first | (rw [hw2]) | refine pickk0 ?_ | refine csp (fun h => ?_) (fun h => ?_) | (refine sda ?_ ?_; (focus (first | rfl | exact of_decide_eq_true rfl | (simp; done)))) | refine sda ?_ ?_ | refine conk rfl ?_ | refine ldk rfl ?_ | refine mapk (fun x hx => ?_) | exact ⟨rfl, rfl⟩ | refine nilk (fun h => absurd h (of_decide_eq_false rfl)) ?_ | refine nilk (fun h => absurd h (List.cons_ne_nil _ _)) ?_ | refine nilk (fun h => ?_) ?_ | exact rfl | refine leftk1 rfl ?_ | refine bytk8 rfl ?_ | refine bytk rfl ?_ | exact leftk0 rfl | refine eqk rfl ?_ | refine fLm rfl ?_ | refine fLk (by assumption) ?_ | refine fVk ?_ | refine fLVk ?_ | refine fWk ?_ | intro hl))
    conv => whnf
    refine fLset hw2 (fun s3 a3 b3 sv3 => ?_)
    have D3 := D12.trans (Did.box D12.1 W.off W.cut W.keep W.ops (IntKind.i64.wrap (W.wr + ((d.length : Nat) : Int))) hI.kk a3 b3)
    repeat' ((conv => whnf); (first | refine pickk0 ?_ | refine csp (fun h => ?_) (fun h => ?_) | (refine sda ?_ ?_; (focus (first | rfl | exact of_decide_eq_true rfl | (simp; done)))) | refine sda ?_ ?_ | refine conk rfl ?_ | refine ldk rfl ?_ | refine mapk (fun x hx => ?_) | exact ⟨rfl, rfl⟩ | refine nilk (fun h => absurd h (of_decide_eq_false rfl)) ?_ | refine nilk (fun h => absurd h (List.cons_ne_nil _ _)) ?_ | refine nilk (fun h => ?_) ?_ | exact rfl | refine leftk1 rfl ?_ | refine bytk8 rfl ?_ | refine bytk rfl ?_ | exact leftk0 rfl | refine eqk rfl ?_ | refine fLm rfl ?_ | refine fLk (by assumption) ?_ | refine fVk ?_ | refine fLVk ?_ | refine fWk ?_ | intro hl))
    conv => whnf
    refine clq (w_oper2 D3.1 D3 F_files_World_Append_1 [] _ fun s4 D4 => w_append1 D4.1) (fun r s5 q _ _ => ?_)
    have sv5 : Sv s5 := ⟨⟩
    repeat' ((conv => whnf); (first | refine pickk0 ?_ | refine csp (fun h => ?_) (fun h => ?_) | (refine sda ?_ ?_; (focus (first | rfl | exact of_decide_eq_true rfl | (simp; done)))) | refine sda ?_ ?_ | refine conk rfl ?_ | refine ldk rfl ?_ | refine mapk (fun x hx => ?_) | exact ⟨rfl, rfl⟩ | refine nilk (fun h => absurd h (of_decide_eq_false rfl)) ?_ | refine nilk (fun h => absurd h (List.cons_ne_nil _ _)) ?_ | refine nilk (fun h => ?_) ?_ | exact rfl | refine leftk1 rfl ?_ | refine bytk8 rfl ?_ | refine bytk rfl ?_ | exact leftk0 rfl | refine eqk rfl ?_ | refine fLm rfl ?_ | refine fLk (by assumption) ?_ | refine fVk ?_ | refine fLVk ?_ | refine fWk ?_ | intro hl))
    have qq : AppendB wi mi W s d e r s5 := by
      unfold AppendB
      rw [if_neg hbig]
      refine ⟨_, ?_, fun f => ?_, q⟩
      · show Hd.mk W.off W.cut W.keep W.ops (IntKind.i64.wrap (W.wr + ((d.length : Nat) : Int))) = _
        rw [hLB]
        rfl
      · exact fs_set (x := { e with a := a', l := e.l ++ d, sy := e.sy }) hI.nn hj rfl f
    exact (fq0 hoff hg hf qq : FileQ wi mi W s nm (fun n => .int .i64 n) (AppendB wi mi W s d) _ _)
set_option maxHeartbeats 4000000 in
theorem w_app_sl_cons_nil (hI : IsW wi mi W s) (hn : nm.size ≤ 140737488355327) (hoff : W.off = false) (hg : gnm nm = true) {e : En} (hf : fnd W.es nm = some e) (d : List Int) (k off : Nat) (w : Bool) (els : List (List V)) (hk : at? s k = some (.arr w 1 els)) (hX : List.take d.length (List.drop off els) = bV d) (hle : e.l ≠ []) (hde : d = []) :
    RetQ Try.prog F_files_World_Append [.ptr wi 0, .str nm, .sl k off d.length] s (FileQ wi mi W s nm (fun n => .int .i64 n) (AppendB wi mi W s d)) := by
  refine rq_files_World_Append rfl fun _ _ => ?_
  have sv : Sv s := ⟨⟩
  have he := (fnd_some hf).1
  have hll := hI.ll e he
  obtain ⟨j, hj⟩ := List.mem_iff_getElem?.1 he
  have hf0 := hI.f e he
  rw [cell_ne hle] at hf0
  have ha := hI.a e he hle
  have hLF : e.l.length = e.l.length := by rfl
  have hLB : d.length = d.length := by rfl
  by_cases hbig : 1048576 < e.l.length + d.length
  · have hc : decide (((d.length : Nat) : Int) > IntKind.i64.wrap (1048576 - ((e.l.length : Nat) : Int))) = true := decide_eq_true (by rw [hLF, hLB, w64 (by omega)]; omega)
    repeat' ((conv => whnf); (first | refine csp_t (hc) ?_ | (rw [hf0]) | (rw [hk]) | (rw [ha]) | refine pickk0 ?_ | refine csp (fun h => ?_) (fun h => ?_) | refine clrd (may0 hI.w hn hoff hg) (fun _ _ => ?_) | refine clrd (there0 hI hf) (fun _ _ => ?_) | (refine sda ?_ ?_; (focus (first | rfl | exact of_decide_eq_true rfl | (simp; done)))) | refine sda ?_ ?_ | refine conk rfl ?_ | refine ldk rfl ?_ | refine mapk (fun x hx => ?_) | exact ⟨rfl, rfl⟩ | refine nilk (fun h => absurd h (of_decide_eq_false rfl)) ?_ | refine nilk (fun h => absurd h (List.cons_ne_nil _ _)) ?_ | refine nilk (fun h => ?_) ?_ | exact rfl | refine leftk1 rfl ?_ | refine bytk8 rfl ?_ | refine bytk rfl ?_ | exact leftk0 rfl | refine eqk rfl ?_ | refine fLm rfl ?_ | refine fLk (by assumption) ?_ | refine fVk ?_ | refine fLVk ?_ | refine fWk ?_ | intro hl))
    have qq : AppendB wi mi W s d e (.int .i64 9) s := by unfold AppendB; rw [if_pos hbig]; exact ⟨rfl, Did.refl hI⟩
    exact (fq0 hoff hg hf qq : FileQ wi mi W s nm (fun n => .int .i64 n) (AppendB wi mi W s d) _ _)
  · have hc : decide (((d.length : Nat) : Int) > IntKind.i64.wrap (1048576 - ((e.l.length : Nat) : Int))) = false := decide_eq_false (by rw [hLF, hLB, w64 (by omega)]; omega)
    have e1 : (List.take d.length (List.drop off els)).isEmpty = true := by rw [hX, hde]; rfl
    repeat' ((conv => whnf); (first | refine csp_f (hc) ?_ | refine csp_t (e1) ?_ | (rw [hf0]) | (rw [hk]) | (rw [ha]) | refine pickk0 ?_ | refine csp (fun h => ?_) (fun h => ?_) | refine clrd (may0 hI.w hn hoff hg) (fun _ _ => ?_) | refine clrd (there0 hI hf) (fun _ _ => ?_) | (refine sda ?_ ?_; (focus (first | rfl | exact of_decide_eq_true rfl | (simp; done)))) | refine sda ?_ ?_ | refine conk rfl ?_ | refine ldk rfl ?_ | refine mapk (fun x hx => ?_) | exact ⟨rfl, rfl⟩ | refine nilk (fun h => absurd h (of_decide_eq_false rfl)) ?_ | refine nilk (fun h => absurd h (List.cons_ne_nil _ _)) ?_ | refine nilk (fun h => ?_) ?_ | exact rfl | refine leftk1 rfl ?_ | refine bytk8 rfl ?_ | refine bytk rfl ?_ | exact leftk0 rfl | refine eqk rfl ?_ | refine fLm rfl ?_ | refine fLk (by assumption) ?_ | refine fVk ?_ | refine fLVk ?_ | refine fWk ?_ | intro hl))
    conv => whnf
    refine fLset hf0 (fun s2 a2 b2 sv2 => ?_)
    have a2 : at? s2 e.p = some (.box true [cell e.a (e.l ++ d), .int .i64 e.sy]) := by
      rw [a2, hde, List.append_nil]
      rw [cell_ne hle]
      rfl
    have D12 := Did.file hI hj e.a (e.l ++ d) e.sy ⟨by rw [List.length_append]; omega, hll.2.1, by rw [List.length_append]; omega⟩ a2 (fun i o hi _ ho => by rw [b2 i hi]; exact ho) (by rw [hde, List.append_nil]; exact fun hq => by rw [b2 _ (hI.pa he he hq)]; exact hI.a e he hq) (by rw [hde, List.append_nil]; exact fun hq => .inr ⟨hq, rfl⟩)
    have hw2 := D12.1.w
    repeat' ((conv => whnf); (first | (rw [hw2]) | refine pickk0 ?_ | refine csp (fun h => ?_) (fun h => ?_) | (refine sda ?_ ?_; (focus (first | rfl | exact of_decide_eq_true rfl | (simp; done)))) | refine sda ?_ ?_ | refine conk rfl ?_ | refine ldk rfl ?_ | refine mapk (fun x hx => ?_) | exact ⟨rfl, rfl⟩ | refine nilk (fun h => absurd h (of_decide_eq_false rfl)) ?_ | refine nilk (fun h => absurd h (List.cons_ne_nil _ _)) ?_ | refine nilk (fun h => ?_) ?_ | exact rfl | refine leftk1 rfl ?_ | refine bytk8 rfl ?_ | refine bytk rfl ?_ | exact leftk0 rfl | refine eqk rfl ?_ | refine fLm rfl ?_ | refine fLk (by assumption) ?_ | refine fVk ?_ | refine fLVk ?_ | refine fWk ?_ | intro hl))
    conv => whnf
    refine fLset hw2 (fun s3 a3 b3 sv3 => ?_)
    have D3 := D12.trans (Did.box D12.1 W.off W.cut W.keep W.ops (IntKind.i64.wrap (W.wr + ((d.length : Nat) : Int))) hI.kk a3 b3)
    repeat' ((conv => whnf); (first | refine pickk0 ?_ | refine csp (fun h => ?_) (fun h => ?_) | (refine sda ?_ ?_; (focus (first | rfl | exact of_decide_eq_true rfl | (simp; done)))) | refine sda ?_ ?_ | refine conk rfl ?_ | refine ldk rfl ?_ | refine mapk (fun x hx => ?_) | exact ⟨rfl, rfl⟩ | refine nilk (fun h => absurd h (of_decide_eq_false rfl)) ?_ | refine nilk (fun h => absurd h (List.cons_ne_nil _ _)) ?_ | refine nilk (fun h => ?_) ?_ | exact rfl | refine leftk1 rfl ?_ | refine bytk8 rfl ?_ | refine bytk rfl ?_ | exact leftk0 rfl | refine eqk rfl ?_ | refine fLm rfl ?_ | refine fLk (by assumption) ?_ | refine fVk ?_ | refine fLVk ?_ | refine fWk ?_ | intro hl))
    conv => whnf
    refine clq (w_oper2 D3.1 D3 F_files_World_Append_1 [] _ fun s4 D4 => w_append1 D4.1) (fun r s5 q _ _ => ?_)
    have sv5 : Sv s5 := ⟨⟩
    repeat' ((conv => whnf); (first | refine pickk0 ?_ | refine csp (fun h => ?_) (fun h => ?_) | (refine sda ?_ ?_; (focus (first | rfl | exact of_decide_eq_true rfl | (simp; done)))) | refine sda ?_ ?_ | refine conk rfl ?_ | refine ldk rfl ?_ | refine mapk (fun x hx => ?_) | exact ⟨rfl, rfl⟩ | refine nilk (fun h => absurd h (of_decide_eq_false rfl)) ?_ | refine nilk (fun h => absurd h (List.cons_ne_nil _ _)) ?_ | refine nilk (fun h => ?_) ?_ | exact rfl | refine leftk1 rfl ?_ | refine bytk8 rfl ?_ | refine bytk rfl ?_ | exact leftk0 rfl | refine eqk rfl ?_ | refine fLm rfl ?_ | refine fLk (by assumption) ?_ | refine fVk ?_ | refine fLVk ?_ | refine fWk ?_ | intro hl))
    have qq : AppendB wi mi W s d e r s5 := by
      unfold AppendB
      rw [if_neg hbig]
      refine ⟨_, ?_, fun f => ?_, q⟩
      · show Hd.mk W.off W.cut W.keep W.ops (IntKind.i64.wrap (W.wr + ((d.length : Nat) : Int))) = _
        rw [hLB]
        rfl
      · exact fs_set (x := { e with a := e.a, l := e.l ++ d, sy := e.sy }) hI.nn hj rfl f
    exact (fq0 hoff hg hf qq : FileQ wi mi W s nm (fun n => .int .i64 n) (AppendB wi mi W s d) _ _)
set_option maxHeartbeats 4000000 in
theorem w_app_sl_cons_cons (hI : IsW wi mi W s) (hn : nm.size ≤ 140737488355327) (hoff : W.off = false) (hg : gnm nm = true) {e : En} (hf : fnd W.es nm = some e) (d : List Int) (k off : Nat) (w : Bool) (els : List (List V)) (hk : at? s k = some (.arr w 1 els)) (hX : List.take d.length (List.drop off els) = bV d) (hle : e.l ≠ []) (hde : d ≠ []) :
    RetQ Try.prog F_files_World_Append [.ptr wi 0, .str nm, .sl k off d.length] s (FileQ wi mi W s nm (fun n => .int .i64 n) (AppendB wi mi W s d)) := by
  refine rq_files_World_Append rfl fun _ _ => ?_
  have sv : Sv s := ⟨⟩
  have he := (fnd_some hf).1
  have hll := hI.ll e he
  obtain ⟨j, hj⟩ := List.mem_iff_getElem?.1 he
  have hf0 := hI.f e he
  rw [cell_ne hle] at hf0
  have ha := hI.a e he hle
  have hLF : e.l.length = e.l.length := by rfl
  have hLB : d.length = d.length := by rfl
  by_cases hbig : 1048576 < e.l.length + d.length
  · have hc : decide (((d.length : Nat) : Int) > IntKind.i64.wrap (1048576 - ((e.l.length : Nat) : Int))) = true := decide_eq_true (by rw [hLF, hLB, w64 (by omega)]; omega)
    repeat' ((conv => whnf); (first | refine csp_t (hc) ?_ | (rw [hf0]) | (rw [hk]) | (rw [ha]) | refine pickk0 ?_ | refine csp (fun h => ?_) (fun h => ?_) | refine clrd (may0 hI.w hn hoff hg) (fun _ _ => ?_) | refine clrd (there0 hI hf) (fun _ _ => ?_) | (refine sda ?_ ?_; (focus (first | rfl | exact of_decide_eq_true rfl | (simp; done)))) | refine sda ?_ ?_ | refine conk rfl ?_ | refine ldk rfl ?_ | refine mapk (fun x hx => ?_) | exact ⟨rfl, rfl⟩ | refine nilk (fun h => absurd h (of_decide_eq_false rfl)) ?_ | refine nilk (fun h => absurd h (List.cons_ne_nil _ _)) ?_ | refine nilk (fun h => ?_) ?_ | exact rfl | refine leftk1 rfl ?_ | refine bytk8 rfl ?_ | refine bytk rfl ?_ | exact leftk0 rfl | refine eqk rfl ?_ | refine fLm rfl ?_ | refine fLk (by assumption) ?_ | refine fVk ?_ | refine fLVk ?_ | refine fWk ?_ | intro hl))
    have qq : AppendB wi mi W s d e (.int .i64 9) s := by unfold AppendB; rw [if_pos hbig]; exact ⟨rfl, Did.refl hI⟩
    exact (fq0 hoff hg hf qq : FileQ wi mi W s nm (fun n => .int .i64 n) (AppendB wi mi W s d) _ _)
  · have hc : decide (((d.length : Nat) : Int) > IntKind.i64.wrap (1048576 - ((e.l.length : Nat) : Int))) = false := decide_eq_false (by rw [hLF, hLB, w64 (by omega)]; omega)
    have e1 : (List.take d.length (List.drop off els)).isEmpty = false := by rw [hX]; exact bV_ne hde
    have e2 : ∀ z ∈ List.take d.length (List.drop off els), z.length = 1 := by rw [hX]; exact bV_one d
    have e3 : ∀ z ∈ List.take d.length (List.drop off els), ∀ c ∈ z, leafV c = true := by rw [hX]; intro z hz c hc; obtain ⟨y, _, rfl⟩ := List.mem_map.1 hz; rw [List.mem_singleton.1 hc]; rfl
    have e4 : ((bV e.l).length + (List.take d.length (List.drop off els)).length) * 2 ≤ 140737488355327 := by rw [hX]; simp only [List.length_map, List.length_nil]; omega
    have e5 : e.l.length = (bV e.l).length := by rw [List.length_map]
    repeat' ((conv => whnf); (first | refine csp_f (hc) ?_ | refine csp_f (e1) ?_ | refine sda (e2) ?_ | refine sda (e3) ?_ | refine sda (e4) ?_ | refine sda (e5) ?_ | (rw [hf0]) | (rw [hk]) | (rw [ha]) | refine pickk0 ?_ | refine csp (fun h => ?_) (fun h => ?_) | refine clrd (may0 hI.w hn hoff hg) (fun _ _ => ?_) | refine clrd (there0 hI hf) (fun _ _ => ?_) | (refine sda ?_ ?_; (focus (first | rfl | exact of_decide_eq_true rfl | (simp; done)))) | refine sda ?_ ?_ | refine conk rfl ?_ | refine ldk rfl ?_ | refine mapk (fun x hx => ?_) | exact ⟨rfl, rfl⟩ | refine nilk (fun h => absurd h (of_decide_eq_false rfl)) ?_ | refine nilk (fun h => absurd h (List.cons_ne_nil _ _)) ?_ | refine nilk (fun h => ?_) ?_ | exact rfl | refine leftk1 rfl ?_ | refine bytk8 rfl ?_ | refine bytk rfl ?_ | exact leftk0 rfl | refine eqk rfl ?_ | refine fLm rfl ?_ | refine fLk (by assumption) ?_ | refine fVk ?_ | refine fLVk ?_ | refine fWk ?_ | intro hl))
    conv => whnf
    refine fLmove ha (fun s1 f1 o1 x1 sv1 => ?_)
    have hf1 := x1 _ _ (fun q => hI.pa he he hle q.symm) hf0
    generalize s.length = a' at f1 o1
    repeat' ((conv => whnf); (first | (rw [hf1]) | refine pickk0 ?_ | refine csp (fun h => ?_) (fun h => ?_) | (refine sda ?_ ?_; (focus (first | rfl | exact of_decide_eq_true rfl | (simp; done)))) | refine sda ?_ ?_ | refine conk rfl ?_ | refine ldk rfl ?_ | refine mapk (fun x hx => ?_) | exact ⟨rfl, rfl⟩ | refine nilk (fun h => absurd h (of_decide_eq_false rfl)) ?_ | refine nilk (fun h => absurd h (List.cons_ne_nil _ _)) ?_ | refine nilk (fun h => ?_) ?_ | exact rfl | refine leftk1 rfl ?_ | refine bytk8 rfl ?_ | refine bytk rfl ?_ | exact leftk0 rfl | refine eqk rfl ?_ | refine fLm rfl ?_ | refine fLk (by assumption) ?_ | refine fVk ?_ | refine fLVk ?_ | refine fWk ?_ | intro hl))
    conv => whnf
    refine fLset hf1 (fun s2 a2 b2 sv2 => ?_)
    have hne : e.l ++ d ≠ [] := fun q => hde (List.append_eq_nil_iff.1 q).2
    have a2 : at? s2 e.p = some (.box true [cell a' (e.l ++ d), .int .i64 e.sy]) := by
      rw [a2, cell_ne hne, List.length_append, ← hLF]
      show some (O.box true [V.sl a' 0 ((bV e.l).length + (List.take d.length (List.drop off els)).length), .int .i64 e.sy]) = _
      rw [hX]
      simp only [List.length_map]
    have hpa : a' ≠ e.p := fun q => by rw [q, hI.f e he] at f1; cases f1
    have o2 : at? s2 a' = some (.arr true 1 (bV (e.l ++ d))) := by
      rw [b2 a' hpa, o1, hX, bV_app]
    have D12 := Did.file hI hj a' (e.l ++ d) e.sy ⟨by rw [List.length_append]; omega, hll.2.1, by rw [List.length_append]; omega⟩ a2 (fun i o hi hia ho => by rw [b2 i hi]; exact x1 i o (hia hle) ho) (fun _ => o2) (fun _ => .inl f1)
    have hw2 := D12.1.w
    repeat' ((conv => whnf); (first | (rw [hw2]) | refine pickk0 ?_ | refine csp (fun h => ?_) (fun h => ?_) | (refine sda ?_ ?_; (focus (first | rfl | exact of_decide_eq_true rfl | (simp; done)))) | refine sda ?_ ?_ | refine conk rfl ?_ | refine ldk rfl ?_ | refine mapk (fun x hx => ?_) | exact ⟨rfl, rfl⟩ | refine nilk (fun h => absurd h (of_decide_eq_false rfl)) ?_ | refine nilk (fun h => absurd h (List.cons_ne_nil _ _)) ?_ | refine nilk (fun h => ?_) ?_ | exact rfl | refine leftk1 rfl ?_ | refine bytk8 rfl ?_ | refine bytk rfl ?_ | exact leftk0 rfl | refine eqk rfl ?_ | refine fLm rfl ?_ | refine fLk (by assumption) ?_ | refine fVk ?_ | refine fLVk ?_ | refine fWk ?_ | intro hl))
    conv => whnf
    refine fLset hw2 (fun s3 a3 b3 sv3 => ?_)
    have D3 := D12.trans (Did.box D12.1 W.off W.cut W.keep W.ops (IntKind.i64.wrap (W.wr + ((d.length : Nat) : Int))) hI.kk a3 b3)
    repeat' ((conv => whnf); (first | refine pickk0 ?_ | refine csp (fun h => ?_) (fun h => ?_) | (refine sda ?_ ?_; (focus (first | rfl | exact of_decide_eq_true rfl | (simp; done)))) | refine sda ?_ ?_ | refine conk rfl ?_ | refine ldk rfl ?_ | refine mapk (fun x hx => ?_) | exact ⟨rfl, rfl⟩ | refine nilk (fun h => absurd h (of_decide_eq_false rfl)) ?_ | refine nilk (fun h => absurd h (List.cons_ne_nil _ _)) ?_ | refine nilk (fun h => ?_) ?_ | exact rfl | refine leftk1 rfl ?_ | refine bytk8 rfl ?_ | refine bytk rfl ?_ | exact leftk0 rfl | refine eqk rfl ?_ | refine fLm rfl ?_ | refine fLk (by assumption) ?_ | refine fVk ?_ | refine fLVk ?_ | refine fWk ?_ | intro hl))
    conv => whnf
    refine clq (w_oper2 D3.1 D3 F_files_World_Append_1 [] _ fun s4 D4 => w_append1 D4.1) (fun r s5 q _ _ => ?_)
    have sv5 : Sv s5 := ⟨⟩
    repeat' ((conv => whnf); (first | refine pickk0 ?_ | refine csp (fun h => ?_) (fun h => ?_) | (refine sda ?_ ?_; (focus (first | rfl | exact of_decide_eq_true rfl | (simp; done)))) | refine sda ?_ ?_ | refine conk rfl ?_ | refine ldk rfl ?_ | refine mapk (fun x hx => ?_) | exact ⟨rfl, rfl⟩ | refine nilk (fun h => absurd h (of_decide_eq_false rfl)) ?_ | refine nilk (fun h => absurd h (List.cons_ne_nil _ _)) ?_ | refine nilk (fun h => ?_) ?_ | exact rfl | refine leftk1 rfl ?_ | refine bytk8 rfl ?_ | refine bytk rfl ?_ | exact leftk0 rfl | refine eqk rfl ?_ | refine fLm rfl ?_ | refine fLk (by assumption) ?_ | refine fVk ?_ | refine fLVk ?_ | refine fWk ?_ | intro hl))
    have qq : AppendB wi mi W s d e r s5 := by
      unfold AppendB
      rw [if_neg hbig]
      refine ⟨_, ?_, fun f => ?_, q⟩
      · show Hd.mk W.off W.cut W.keep W.ops (IntKind.i64.wrap (W.wr + ((d.length : Nat) : Int))) = _
        rw [hLB]
        rfl
      · exact fs_set (x := { e with a := a', l := e.l ++ d, sy := e.sy }) hI.nn hj rfl f
    exact (fq0 hoff hg hf qq : FileQ wi mi W s nm (fun n => .int .i64 n) (AppendB wi mi W s d) _ _)
theorem w_Append (hI : IsW wi mi W s) (hn : nm.size ≤ 140737488355327) (bv : V) (d : List Int) (hb : Bytes s bv d) : RetQ Try.prog F_files_World_Append [.ptr wi 0, .str nm, bv] s (FileQ wi mi W s nm (fun n => .int .i64 n) (AppendB wi mi W s d)) := by
  cases hoff : W.off with
  | true => exact w_app_no hI hn bv d (.inl hoff)
  | false =>
    cases hg : gnm nm with
    | false => exact w_app_no hI hn bv d (.inr (.inl hg))
    | true =>
      cases hf : fnd W.es nm with
      | none => exact w_app_no hI hn bv d (.inr (.inr hf))
      | some e =>
        rcases hb with ⟨x, rfl⟩ | ⟨k, off, w, els, rfl, hk, hX⟩
        · by_cases hle : e.l = [] <;> by_cases hde : d = []
          · exact w_app_row_nil_nil hI hn hoff hg hf d x hle hde
          · exact w_app_row_nil_cons hI hn hoff hg hf d x hle hde
          · exact w_app_row_cons_nil hI hn hoff hg hf d x hle hde
          · exact w_app_row_cons_cons hI hn hoff hg hf d x hle hde
        · by_cases hle : e.l = [] <;> by_cases hde : d = []
          · exact w_app_sl_nil_nil hI hn hoff hg hf d k off w els hk hX hle hde
          · exact w_app_sl_nil_cons hI hn hoff hg hf d k off w els hk hX hle hde
          · exact w_app_sl_cons_nil hI hn hoff hg hf d k off w els hk hX hle hde
          · exact w_app_sl_cons_cons hI hn hoff hg hf d k off w els hk hX hle hde
end
end Go.Proofs.Ytlognebkifjfbaa

/- Worlds of one file. -/
set_option maxRecDepth 100000
set_option linter.all false
namespace Go.Proofs.Ytlognebkifjfbaa
open Ab R
theorem fnd_of {wi mi : Nat} {W : Wd} {s : List O} (h : IsW wi mi W s) {f : Fi} (hf : f ∈ W.fs) : ∃ e, fnd W.es f.nm = some e ∧ e ∈ W.es ∧ e.fi = f := by
  obtain ⟨e, he, rfl⟩ := List.mem_map.1 hf
  cases q : fnd W.es e.nm with
  | none => exact absurd rfl (fnd_none q e he)
  | some x =>
    have hx := fnd_some q
    refine ⟨x, q, hx.1, ?_⟩
    obtain ⟨i, hi⟩ := List.mem_iff_getElem?.1 he
    obtain ⟨k, hk⟩ := List.mem_iff_getElem?.1 hx.1
    by_cases hik : i = k
    · subst hik
      rw [hi] at hk
      rw [Option.some.inj hk]
    · exact absurd hx.2.symm (pair_get (ne_symm En.nm) h.nn hi hk hik)
theorem files_New {s : List O} : RetQ Try.prog F_files_New [] s fun r s' => ∃ wi mi, r = .ptr wi 0 ∧ IsW wi mi ⟨false, 0, 0, 0, 0, 0, []⟩ s' ∧ Ext s s' ∧ at? s wi = none ∧ at? s mi = none := by
  refine rq_files_New rfl fun _ _ => ?_
  have sv : Sv s := ⟨⟩
  repeat' ((conv => whnf); (first | refine pickk0 ?_ | refine csp (fun h => ?_) (fun h => ?_) | (refine sda ?_ ?_; (focus (first | rfl | exact of_decide_eq_true rfl | (simp; done)))) | refine sda ?_ ?_ | refine conk rfl ?_ | refine ldk rfl ?_ | refine mapk (fun x hx => ?_) | exact ⟨rfl, rfl⟩ | refine nilk (fun h => absurd h (of_decide_eq_false rfl)) ?_ | refine nilk (fun h => absurd h (List.cons_ne_nil _ _)) ?_ | refine nilk (fun h => ?_) ?_ | exact rfl | refine leftk1 rfl ?_ | refine bytk8 rfl ?_ | refine bytk rfl ?_ | exact leftk0 rfl | refine eqk rfl ?_ | refine fLm rfl ?_ | refine fLk (by assumption) ?_ | refine fVk ?_ | refine fLVk ?_ | refine fWk ?_ | intro hl))
  refine fLnew (fun s1 x1 f1 o1 sv1 => ?_)
  generalize s.length = n1 at f1 o1
  repeat' ((conv => whnf); (first | refine pickk0 ?_ | refine csp (fun h => ?_) (fun h => ?_) | (refine sda ?_ ?_; (focus (first | rfl | exact of_decide_eq_true rfl | (simp; done)))) | refine sda ?_ ?_ | refine conk rfl ?_ | refine ldk rfl ?_ | refine mapk (fun x hx => ?_) | exact ⟨rfl, rfl⟩ | refine nilk (fun h => absurd h (of_decide_eq_false rfl)) ?_ | refine nilk (fun h => absurd h (List.cons_ne_nil _ _)) ?_ | refine nilk (fun h => ?_) ?_ | exact rfl | refine leftk1 rfl ?_ | refine bytk8 rfl ?_ | refine bytk rfl ?_ | exact leftk0 rfl | refine eqk rfl ?_ | refine fLm rfl ?_ | refine fLk (by assumption) ?_ | refine fVk ?_ | refine fLVk ?_ | refine fWk ?_ | intro hl))
  refine fLnew (fun s2 x2 f2 o2 sv2 => ?_)
  have hn2 : at? s s1.length = none := by
    cases q : at? s s1.length with
    | none => rfl
    | some o => rw [x1 _ _ q] at f2; cases f2
  generalize s1.length = n2 at f2 o2 hn2
  repeat' ((conv => whnf); (first | refine pickk0 ?_ | refine csp (fun h => ?_) (fun h => ?_) | (refine sda ?_ ?_; (focus (first | rfl | exact of_decide_eq_true rfl | (simp; done)))) | refine sda ?_ ?_ | refine conk rfl ?_ | refine ldk rfl ?_ | refine mapk (fun x hx => ?_) | exact ⟨rfl, rfl⟩ | refine nilk (fun h => absurd h (of_decide_eq_false rfl)) ?_ | refine nilk (fun h => absurd h (List.cons_ne_nil _ _)) ?_ | refine nilk (fun h => ?_) ?_ | exact rfl | refine leftk1 rfl ?_ | refine bytk8 rfl ?_ | refine bytk rfl ?_ | exact leftk0 rfl | refine eqk rfl ?_ | refine fLm rfl ?_ | refine fLk (by assumption) ?_ | refine fVk ?_ | refine fLVk ?_ | refine fWk ?_ | intro hl))
  conv => whnf
  exact ⟨n2, n1, rfl, { w := o2, m := x2 _ _ o1, f := fun e he => absurd he List.not_mem_nil, a := fun e he => absurd he List.not_mem_nil, pp := List.Pairwise.nil, aa := List.Pairwise.nil, nn := List.Pairwise.nil, bb := List.Pairwise.nil, bk := fun e he => absurd he List.not_mem_nil, ll := fun e he => absurd he List.not_mem_nil, kk := Int.le_refl 0, en := by simp }, x1.trans x2, hn2, f1⟩
/-- A world of one file. -/
structure One (wi mi : Nat) (nm : ByteArray) (l : List Int) (sy : Int) (off : Bool) (cut keep : Int) (W : Wd) (s : List O) : Prop where
  is : IsW wi mi W s
  fs : ∀ f, f ∈ W.fs ↔ f = ⟨nm, l, sy⟩
  off : W.off = off
  cut : W.cut = cut
  keep : W.keep = keep
section
variable {wi mi : Nat} {nm : ByteArray} {l : List Int} {sy : Int} {cut keep : Int} {W : Wd} {s s' : List O} {r : V} {off : Bool}
theorem One.find (h : One wi mi nm l sy off cut keep W s) : ∃ e, fnd W.es nm = some e ∧ e.fi = ⟨nm, l, sy⟩ := by
  obtain ⟨e, h1, _, h2⟩ := fnd_of h.is ((h.fs _).2 rfl)
  exact ⟨e, h1, h2⟩
theorem hit0 (h : W.cut = 0) : W.hit = false ∧ W.op.h = { W.h with ops := W.op.ops } := by
  unfold Wd.hit Wd.op Wd.h
  rw [h]
  exact ⟨rfl, rfl⟩
theorem One.of0 {g : Fi → Prop} {W0 : Wd} {s0 : List O} (hoff : W.off = false) (hcut : W.cut = 0) (q : Done wi mi W0 s0 W g r s') (hg : ∀ f, g f ↔ f = ⟨nm, l, sy⟩) : r = .int .i64 0 ∧ ∃ W', One wi mi nm l sy false 0 W.keep W' s' := by
  unfold Done Aft at q
  rw [(hit0 hcut).1, if_neg (by decide)] at q
  obtain ⟨q0, W', D, q1, q2⟩ := q
  rw [(hit0 hcut).2] at q1
  refine ⟨q0, W', D.1, fun f => (q2 f).trans (hg f), ?_, ?_, ?_⟩
  · exact (congrArg Hd.off q1).trans hoff
  · exact (congrArg Hd.cut q1).trans hcut
  · exact congrArg Hd.keep q1
theorem one_create (hI : IsW wi mi ⟨false, 0, 0, 0, 0, 0, []⟩ s) (hg : gnm nm = true) (q : CreateQ wi mi ⟨false, 0, 0, 0, 0, 0, []⟩ s nm r s') : r = .int .i64 0 ∧ ∃ W', One wi mi nm [] 0 false 0 0 W' s' := by
  unfold CreateQ at q
  rw [if_neg (by decide), if_neg (by rw [hg]; decide), if_neg (by simp)] at q
  exact One.of0 rfl rfl q fun f => ⟨fun h => h.elim id fun h => absurd h.1 List.not_mem_nil, .inl⟩
theorem FileQ.out {err : Int → V} {body : En → V → List O → Prop} (h : One wi mi nm l sy false cut keep W s) (hg : gnm nm = true) (q : FileQ wi mi W s nm err body r s') : ∃ e, e.fi = ⟨nm, l, sy⟩ ∧ body e r s' := by
  unfold FileQ at q
  obtain ⟨e, h1, h2⟩ := h.find
  rw [if_neg (by rw [h.off]; decide), if_neg (by rw [hg]; decide), h1] at q
  exact ⟨e, h2, q⟩
theorem one_append (h : One wi mi nm l sy false 0 keep W s) (hg : gnm nm = true) {d : List Int} (hb : l.length + d.length ≤ 1048576) {err : Int → V} (q : FileQ wi mi W s nm err (AppendB wi mi W s d) r s') : r = .int .i64 0 ∧ ∃ W', One wi mi nm (l ++ d) sy false 0 keep W' s' := by
  obtain ⟨e, he, q⟩ := q.out h hg
  have h1 : e.l = l := congrArg Fi.l he
  have h2 : e.nm = nm := congrArg Fi.nm he
  have h3 : e.sy = sy := congrArg Fi.sy he
  unfold AppendB at q
  rw [if_neg (by rw [h1]; omega)] at q
  obtain ⟨W1, q1, q2, q3⟩ := q
  have k := One.of0 (nm := nm) (l := l ++ d) (sy := sy) ((congrArg Hd.off q1).trans h.off) ((congrArg Hd.cut q1).trans h.cut) q3 fun f => by
    rw [q2 f, h1, h2, h3, h.fs f]
    exact ⟨fun q => q.elim id fun q => absurd (by rw [q.1]) q.2, .inl⟩
  have : W1.keep = keep := (congrArg Hd.keep q1).trans h.keep
  rwa [this] at k
theorem one_sync (h : One wi mi nm l sy false 0 keep W s) (hg : gnm nm = true) {err : Int → V} (q : FileQ wi mi W s nm err (SyncB wi mi W s) r s') : r = .int .i64 0 ∧ ∃ W', One wi mi nm l l.length false 0 keep W' s' := by
  obtain ⟨e, he, q⟩ := q.out h hg
  have h1 : e.l = l := congrArg Fi.l he
  have h2 : e.nm = nm := congrArg Fi.nm he
  have k := One.of0 (nm := nm) (l := l) (sy := l.length) h.off h.cut q fun f => by
    rw [h1, h2, h.fs f]
    exact ⟨fun q => q.elim id fun q => absurd (by rw [q.1]) q.2, .inl⟩
  rwa [h.keep] at k
theorem one_fail (h : One wi mi nm l sy false 1 keep W s) (hg : gnm nm = true) {err : Int → V} (q : FileQ wi mi W s nm err (SyncB wi mi W s) r s') : r = .int .i64 13 ∧ ∃ W', One wi mi nm (l.take (Fi.upto keep ⟨nm, l, sy⟩)) (Fi.upto keep ⟨nm, l, sy⟩ : Nat) true 0 keep W' s' := by
  obtain ⟨e, he, q⟩ := q.out h hg
  unfold SyncB Done Aft at q
  have hh : W.hit = true := by unfold Wd.hit; rw [h.cut]; rfl
  rw [if_pos hh] at q
  obtain ⟨q0, W', D, q1, q2⟩ := q
  refine ⟨q0, W', D.1, fun f => ?_, ?_, ?_, ?_⟩
  · rw [q2, List.mem_map]
    constructor
    · rintro ⟨g, hg, rfl⟩
      rw [(h.fs g).1 hg, h.keep]
      rfl
    · rintro rfl
      exact ⟨_, (h.fs _).2 rfl, by rw [h.keep]; rfl⟩
  · exact congrArg Hd.off q1
  · have := congrArg Hd.cut q1
    simp only [Wd.h, Wd.op, h.cut] at this
    exact this
  · exact (congrArg Hd.keep q1).trans h.keep
theorem one_cut (h : One wi mi nm l sy false 0 keep W s) {k : Int} (hk : 0 ≤ k) (q : CutQ wi mi W s 1 k r s') : r = .int .i64 0 ∧ ∃ W', One wi mi nm l sy false 1 k W' s' := by
  unfold CutQ at q
  rw [if_neg (by rw [h.off]; decide), if_neg (by omega)] at q
  exact ⟨q.1, _, q.2.1, h.fs, h.off, rfl, rfl⟩
theorem one_cut_no (h : One wi mi nm l sy false 0 keep W s) {k : Int} (hk : k < 0) (q : CutQ wi mi W s 1 k r s') : r = .int .i64 2 ∧ s' = s := by
  unfold CutQ at q
  rwa [if_neg (by rw [h.off]; decide), if_pos (.inr hk)] at q
theorem one_power (h : One wi mi nm l sy true cut keep W s) (q : Did wi mi W s { W with off := false } s') : One wi mi nm l sy false cut keep { W with off := false } s' := ⟨q.1, h.fs, rfl, h.cut, h.keep⟩
theorem one_off {g : ByteArray} (h : One wi mi nm l sy true cut keep W s) (q : CreateQ wi mi W s g r s') : r = .int .i64 13 ∧ One wi mi nm l sy true cut keep W s' := by
  unfold CreateQ at q
  rw [if_pos h.off] at q
  exact ⟨q.1, q.2.1, h.fs, h.off, h.cut, h.keep⟩
end
theorem takeV (L : List Int) : List.take L.length (List.drop 0 (bV L)) = bV L := by
  have h : List.take (bV L).length (bV L) = bV L := List.take_length
  rw [List.length_map] at h
  rw [List.drop_zero]
  exact h
theorem frz_sl {s : List O} {id off len z : Nat} {w : Bool} {els : List (List V)} (h : at? s id = some (.arr w z els)) : frz 8 s (.sl id off len) = .row false ((els.drop off).take len) := by
  simp only [frz, h]
theorem same_sl {s : List O} {a b k m : Nat} {w w' : Bool} {e1 e2 : List (List V)} {L : List Int} (h1 : at? s a = some (.arr w 1 e1)) (h2 : at? s b = some (.arr w' 1 e2)) (q1 : (e1.drop 0).take k = bV L) (q2 : (e2.drop 0).take m = bV L) :
    Ret Try.prog F_octavoref01_Same [frz 8 s (.sl a 0 k), frz 8 s (.sl b 0 m)] (.bool true) := by
  rw [frz_sl h1, frz_sl h2, q1, q2]
  exact ref01_Same_t _ _ L (bytesV_id L) (bytesV_id L)
end Go.Proofs.Ytlognebkifjfbaa

/- FilesKeeps. -/
set_option maxRecDepth 100000
set_option linter.all false
namespace Go.Proofs.Ytlognebkifjfbaa
open Ab R
abbrev nf_ : ByteArray := ⟨#[102]⟩
abbrev ng_ : ByteArray := ⟨#[103]⟩
theorem keeps_big (fl : Ret Try.prog F_octavolaw01_lives [] (.bool true)) (kept rest : List Int) (keep : Int) (hbig : 1048576 < kept.length + rest.length) (hk : kept.length ≤ 140737488351232) (hr : rest.length ≤ 140737488351232) :
    Ret Try.prog F_octavolaw01_FilesKeeps [.row false (bV kept), .row false (bV rest), .int .i64 keep] (.bool true) := by
  have hc : decide (IntKind.i64.wrap (((bV kept).length : Int) + (bV rest).length) > 1048576) = true := decide_eq_true (by rw [w64 (by simp only [List.length_map]; omega)]; simp only [List.length_map]; omega)
  refine r_octavolaw01_FilesKeeps rfl fun hw => ?_
  clear hw
  repeat' ((conv => whnf); (first | refine csp_t (hc) ?_ | refine pickk0 ?_ | refine csp (fun h => ?_) (fun h => ?_) | (apply clll; apply rl_files_New rfl) | refine cllo (fl) (fun _ => ?_) | refine cll (fl) (fun _ => ?_) | (refine sda ?_ ?_; (focus (first | rfl | exact of_decide_eq_true rfl | (simp; done)))) | refine sda ?_ ?_ | refine conk rfl ?_ | refine ldk rfl ?_ | refine mapk (fun x hx => ?_) | exact ⟨rfl, rfl⟩ | refine nilk (fun h => absurd h (of_decide_eq_false rfl)) ?_ | refine nilk (fun h => absurd h (List.cons_ne_nil _ _)) ?_ | refine nilk (fun h => ?_) ?_ | exact rfl | refine leftk1 rfl ?_ | refine bytk8 rfl ?_ | refine bytk rfl ?_ | exact leftk0 rfl | refine eqk rfl ?_ | refine fLm rfl ?_ | refine fLk (by assumption) ?_ | refine fVk ?_ | refine fLVk ?_ | refine fWk ?_ | intro hl))
  all_goals conv => whnf
set_option maxHeartbeats 8000000 in
theorem keeps_main (fl : Ret Try.prog F_octavolaw01_lives [] (.bool true)) (kept rest : List Int) (keep : Int) (hb : kept.length + rest.length ≤ 1048576) :
    Ret Try.prog F_octavolaw01_FilesKeeps [.row false (bV kept), .row false (bV rest), .int .i64 keep] (.bool true) := by
  have hc : decide (IntKind.i64.wrap (((bV kept).length : Int) + (bV rest).length) > 1048576) = false := decide_eq_false (by rw [w64 (by simp only [List.length_map]; omega)]; simp only [List.length_map]; omega)
  have hnf : nf_.size ≤ 140737488355327 := by decide
  have hng : ng_.size ≤ 140737488355327 := by decide
  have gf : gnm nf_ = true := by decide
  have bk : ∀ s, Bytes s (.row false (bV kept)) kept := fun s => .inl ⟨_, rfl⟩
  have br : ∀ s, Bytes s (.row false (bV rest)) rest := fun s => .inl ⟨_, rfl⟩
  refine r_octavolaw01_FilesKeeps rfl fun hw => ?_
  clear hw
  conv => whnf
  refine clq (files_New) (fun r s1 q _ _ => ?_)
  obtain ⟨wi, mi, rfl, hI, _, _, _⟩ := q
  have sv1 : Sv s1 := ⟨⟩
  repeat' ((conv => whnf); (first | refine csp_f (hc) ?_ | refine pickk0 ?_ | refine csp (fun h => ?_) (fun h => ?_) | (refine sda ?_ ?_; (focus (first | rfl | exact of_decide_eq_true rfl | (simp; done)))) | refine sda ?_ ?_ | refine conk rfl ?_ | refine ldk rfl ?_ | refine mapk (fun x hx => ?_) | exact ⟨rfl, rfl⟩ | refine nilk (fun h => absurd h (of_decide_eq_false rfl)) ?_ | refine nilk (fun h => absurd h (List.cons_ne_nil _ _)) ?_ | refine nilk (fun h => ?_) ?_ | exact rfl | refine leftk1 rfl ?_ | refine bytk8 rfl ?_ | refine bytk rfl ?_ | exact leftk0 rfl | refine eqk rfl ?_ | refine fLm rfl ?_ | refine fLk (by assumption) ?_ | refine fVk ?_ | refine fLVk ?_ | refine fWk ?_ | intro hl))
  conv => whnf
  refine clq (w_Create hI nf_ hnf) (fun r s2 q _ _ => ?_)
  obtain ⟨rfl, W2, O2⟩ := one_create hI gf q
  have sv2 : Sv s2 := ⟨⟩
  repeat' ((conv => whnf); (first | refine pickk0 ?_ | refine csp (fun h => ?_) (fun h => ?_) | (refine sda ?_ ?_; (focus (first | rfl | exact of_decide_eq_true rfl | (simp; done)))) | refine sda ?_ ?_ | refine conk rfl ?_ | refine ldk rfl ?_ | refine mapk (fun x hx => ?_) | exact ⟨rfl, rfl⟩ | refine nilk (fun h => absurd h (of_decide_eq_false rfl)) ?_ | refine nilk (fun h => absurd h (List.cons_ne_nil _ _)) ?_ | refine nilk (fun h => ?_) ?_ | exact rfl | refine leftk1 rfl ?_ | refine bytk8 rfl ?_ | refine bytk rfl ?_ | exact leftk0 rfl | refine eqk rfl ?_ | refine fLm rfl ?_ | refine fLk (by assumption) ?_ | refine fVk ?_ | refine fLVk ?_ | refine fWk ?_ | intro hl))
  conv => whnf
  refine clq (w_Append O2.is hnf (.row false (bV kept)) kept (bk s2)) (fun r s3 q _ _ => ?_)
  obtain ⟨rfl, W3, O3⟩ := one_append O2 gf (by simp; omega) q
  have sv3 : Sv s3 := ⟨⟩
  repeat' ((conv => whnf); (first | refine pickk0 ?_ | refine csp (fun h => ?_) (fun h => ?_) | (refine sda ?_ ?_; (focus (first | rfl | exact of_decide_eq_true rfl | (simp; done)))) | refine sda ?_ ?_ | refine conk rfl ?_ | refine ldk rfl ?_ | refine mapk (fun x hx => ?_) | exact ⟨rfl, rfl⟩ | refine nilk (fun h => absurd h (of_decide_eq_false rfl)) ?_ | refine nilk (fun h => absurd h (List.cons_ne_nil _ _)) ?_ | refine nilk (fun h => ?_) ?_ | exact rfl | refine leftk1 rfl ?_ | refine bytk8 rfl ?_ | refine bytk rfl ?_ | exact leftk0 rfl | refine eqk rfl ?_ | refine fLm rfl ?_ | refine fLk (by assumption) ?_ | refine fVk ?_ | refine fLVk ?_ | refine fWk ?_ | intro hl))
  conv => whnf
  refine clq (w_Sync O3.is hnf) (fun r s4 q _ _ => ?_)
  obtain ⟨rfl, W4, O4⟩ := one_sync O3 gf q
  have sv4 : Sv s4 := ⟨⟩
  repeat' ((conv => whnf); (first | refine pickk0 ?_ | refine csp (fun h => ?_) (fun h => ?_) | (refine sda ?_ ?_; (focus (first | rfl | exact of_decide_eq_true rfl | (simp; done)))) | refine sda ?_ ?_ | refine conk rfl ?_ | refine ldk rfl ?_ | refine mapk (fun x hx => ?_) | exact ⟨rfl, rfl⟩ | refine nilk (fun h => absurd h (of_decide_eq_false rfl)) ?_ | refine nilk (fun h => absurd h (List.cons_ne_nil _ _)) ?_ | refine nilk (fun h => ?_) ?_ | exact rfl | refine leftk1 rfl ?_ | refine bytk8 rfl ?_ | refine bytk rfl ?_ | exact leftk0 rfl | refine eqk rfl ?_ | refine fLm rfl ?_ | refine fLk (by assumption) ?_ | refine fVk ?_ | refine fLVk ?_ | refine fWk ?_ | intro hl))
  conv => whnf
  refine clq (w_Append O4.is hnf (.row false (bV rest)) rest (br s4)) (fun r s5 q _ _ => ?_)
  obtain ⟨rfl, W5, O5⟩ := one_append O4 gf (by simp; omega) q
  have sv5 : Sv s5 := ⟨⟩
  by_cases hk : keep < 0
  · have h1 : decide (keep < 0) = true := decide_eq_true hk
    repeat' ((conv => whnf); (first | refine csp_t (h1) ?_ | refine pickk0 ?_ | refine csp (fun h => ?_) (fun h => ?_) | (refine sda ?_ ?_; (focus (first | rfl | exact of_decide_eq_true rfl | (simp; done)))) | refine sda ?_ ?_ | refine conk rfl ?_ | refine ldk rfl ?_ | refine mapk (fun x hx => ?_) | exact ⟨rfl, rfl⟩ | refine nilk (fun h => absurd h (of_decide_eq_false rfl)) ?_ | refine nilk (fun h => absurd h (List.cons_ne_nil _ _)) ?_ | refine nilk (fun h => ?_) ?_ | exact rfl | refine leftk1 rfl ?_ | refine bytk8 rfl ?_ | refine bytk rfl ?_ | exact leftk0 rfl | refine eqk rfl ?_ | refine fLm rfl ?_ | refine fLk (by assumption) ?_ | refine fVk ?_ | refine fLVk ?_ | refine fWk ?_ | intro hl))
    conv => whnf
    refine clq (w_Cut O5.is 1 keep) (fun r s6 q _ _ => ?_)
    obtain ⟨rfl, rfl⟩ := one_cut_no O5 hk q
    repeat' ((conv => whnf); (first | refine pickk0 ?_ | refine csp (fun h => ?_) (fun h => ?_) | refine cllo (fl) (fun _ => ?_) | refine cll (fl) (fun _ => ?_) | refine fLk ⟨⟩ ?_ | (refine sda ?_ ?_; (focus (first | rfl | exact of_decide_eq_true rfl | (simp; done)))) | refine sda ?_ ?_ | refine conk rfl ?_ | refine ldk rfl ?_ | refine mapk (fun x hx => ?_) | exact ⟨rfl, rfl⟩ | refine nilk (fun h => absurd h (of_decide_eq_false rfl)) ?_ | refine nilk (fun h => absurd h (List.cons_ne_nil _ _)) ?_ | refine nilk (fun h => ?_) ?_ | exact rfl | refine leftk1 rfl ?_ | refine bytk8 rfl ?_ | refine bytk rfl ?_ | exact leftk0 rfl | refine eqk rfl ?_ | refine fLm rfl ?_ | refine fLk (by assumption) ?_ | refine fVk ?_ | refine fLVk ?_ | refine fWk ?_ | intro hl))
    all_goals conv => whnf
  · have h1 : decide (keep < 0) = false := decide_eq_false hk
    repeat' ((conv => whnf); (first | refine csp_f (h1) ?_ | refine pickk0 ?_ | refine csp (fun h => ?_) (fun h => ?_) | (refine sda ?_ ?_; (focus (first | rfl | exact of_decide_eq_true rfl | (simp; done)))) | refine sda ?_ ?_ | refine conk rfl ?_ | refine ldk rfl ?_ | refine mapk (fun x hx => ?_) | exact ⟨rfl, rfl⟩ | refine nilk (fun h => absurd h (of_decide_eq_false rfl)) ?_ | refine nilk (fun h => absurd h (List.cons_ne_nil _ _)) ?_ | refine nilk (fun h => ?_) ?_ | exact rfl | refine leftk1 rfl ?_ | refine bytk8 rfl ?_ | refine bytk rfl ?_ | exact leftk0 rfl | refine eqk rfl ?_ | refine fLm rfl ?_ | refine fLk (by assumption) ?_ | refine fVk ?_ | refine fLVk ?_ | refine fWk ?_ | intro hl))
    conv => whnf
    refine clq (w_Cut O5.is 1 keep) (fun r s6 q _ _ => ?_)
    obtain ⟨rfl, W6, O6⟩ := one_cut O5 (by omega) q
    have sv6 : Sv s6 := ⟨⟩
    repeat' ((conv => whnf); (first | refine pickk0 ?_ | refine csp (fun h => ?_) (fun h => ?_) | (refine sda ?_ ?_; (focus (first | rfl | exact of_decide_eq_true rfl | (simp; done)))) | refine sda ?_ ?_ | refine conk rfl ?_ | refine ldk rfl ?_ | refine mapk (fun x hx => ?_) | exact ⟨rfl, rfl⟩ | refine nilk (fun h => absurd h (of_decide_eq_false rfl)) ?_ | refine nilk (fun h => absurd h (List.cons_ne_nil _ _)) ?_ | refine nilk (fun h => ?_) ?_ | exact rfl | refine leftk1 rfl ?_ | refine bytk8 rfl ?_ | refine bytk rfl ?_ | exact leftk0 rfl | refine eqk rfl ?_ | refine fLm rfl ?_ | refine fLk (by assumption) ?_ | refine fVk ?_ | refine fLVk ?_ | refine fWk ?_ | intro hl))
    conv => whnf
    refine clq (w_Sync O6.is hnf) (fun r s7 q _ _ => ?_)
    obtain ⟨rfl, W7, O7⟩ := one_fail O6 gf q
    have sv7 : Sv s7 := ⟨⟩
    repeat' ((conv => whnf); (first | refine pickk0 ?_ | refine csp (fun h => ?_) (fun h => ?_) | (refine sda ?_ ?_; (focus (first | rfl | exact of_decide_eq_true rfl | (simp; done)))) | refine sda ?_ ?_ | refine conk rfl ?_ | refine ldk rfl ?_ | refine mapk (fun x hx => ?_) | exact ⟨rfl, rfl⟩ | refine nilk (fun h => absurd h (of_decide_eq_false rfl)) ?_ | refine nilk (fun h => absurd h (List.cons_ne_nil _ _)) ?_ | refine nilk (fun h => ?_) ?_ | exact rfl | refine leftk1 rfl ?_ | refine bytk8 rfl ?_ | refine bytk rfl ?_ | exact leftk0 rfl | refine eqk rfl ?_ | refine fLm rfl ?_ | refine fLk (by assumption) ?_ | refine fVk ?_ | refine fLVk ?_ | refine fWk ?_ | intro hl))
    conv => whnf
    have hon := w_On O7.is.w
    rw [O7.off] at hon
    repeat' ((conv => whnf); (first | refine pickk0 ?_ | refine csp (fun h => ?_) (fun h => ?_) | refine clrd (hon) (fun _ _ => ?_) | (refine sda ?_ ?_; (focus (first | rfl | exact of_decide_eq_true rfl | (simp; done)))) | refine sda ?_ ?_ | refine conk rfl ?_ | refine ldk rfl ?_ | refine mapk (fun x hx => ?_) | exact ⟨rfl, rfl⟩ | refine nilk (fun h => absurd h (of_decide_eq_false rfl)) ?_ | refine nilk (fun h => absurd h (List.cons_ne_nil _ _)) ?_ | refine nilk (fun h => ?_) ?_ | exact rfl | refine leftk1 rfl ?_ | refine bytk8 rfl ?_ | refine bytk rfl ?_ | exact leftk0 rfl | refine eqk rfl ?_ | refine fLm rfl ?_ | refine fLk (by assumption) ?_ | refine fVk ?_ | refine fLVk ?_ | refine fWk ?_ | intro hl))
    conv => whnf
    refine clq (w_Create O7.is ng_ hng) (fun r s8 q _ _ => ?_)
    obtain ⟨rfl, O8⟩ := one_off O7 q
    have sv8 : Sv s8 := ⟨⟩
    repeat' ((conv => whnf); (first | refine pickk0 ?_ | refine csp (fun h => ?_) (fun h => ?_) | (refine sda ?_ ?_; (focus (first | rfl | exact of_decide_eq_true rfl | (simp; done)))) | refine sda ?_ ?_ | refine conk rfl ?_ | refine ldk rfl ?_ | refine mapk (fun x hx => ?_) | exact ⟨rfl, rfl⟩ | refine nilk (fun h => absurd h (of_decide_eq_false rfl)) ?_ | refine nilk (fun h => absurd h (List.cons_ne_nil _ _)) ?_ | refine nilk (fun h => ?_) ?_ | exact rfl | refine leftk1 rfl ?_ | refine bytk8 rfl ?_ | refine bytk rfl ?_ | exact leftk0 rfl | refine eqk rfl ?_ | refine fLm rfl ?_ | refine fLk (by assumption) ?_ | refine fVk ?_ | refine fLVk ?_ | refine fWk ?_ | intro hl))
    conv => whnf
    refine clq (w_Power O8.is) (fun r s9 q _ _ => ?_)
    have O9 := one_power O8 q
    have sv9 : Sv s9 := ⟨⟩
    -- TAIL
    have hu : Fi.upto keep ⟨nf_, kept ++ rest, kept.length⟩ = kept.length + min keep.toNat rest.length := by
      unfold Fi.upto
      simp only [List.length_append]
      omega
    have hL : (kept ++ rest).take (Fi.upto keep ⟨nf_, kept ++ rest, kept.length⟩) = kept ++ rest.take (min keep.toNat rest.length) := by
      rw [hu, List.take_length_add_append]
    have k1 : ∀ z ∈ bV rest, z.length = 1 := bV_one rest
    have k2 : ∀ z ∈ bV kept, z.length = 1 := bV_one kept
    have k3 := bV_few (l := kept) (by omega)
    repeat' ((conv => whnf); (first | refine pickk0 ?_ | refine csp (fun h => ?_) (fun h => ?_) | (refine sda ?_ ?_; (focus (first | rfl | exact of_decide_eq_true rfl | (simp; done)))) | refine sda ?_ ?_ | refine conk rfl ?_ | refine ldk rfl ?_ | refine mapk (fun x hx => ?_) | exact ⟨rfl, rfl⟩ | refine nilk (fun h => absurd h (of_decide_eq_false rfl)) ?_ | refine nilk (fun h => absurd h (List.cons_ne_nil _ _)) ?_ | refine nilk (fun h => ?_) ?_ | exact rfl | refine leftk1 rfl ?_ | refine bytk8 rfl ?_ | refine bytk rfl ?_ | exact leftk0 rfl | refine eqk rfl ?_ | refine fLm rfl ?_ | refine fLk (by assumption) ?_ | refine fVk ?_ | refine fLVk ?_ | refine fWk ?_ | intro hl))
    · conv => whnf
      refine clq (w_Read O9.is hnf) (fun r s10 q _ _ => ?_)
      obtain ⟨e, he, b, rfl, hm, D⟩ := q.out O9 gf
      have sv10 : Sv s10 := ⟨⟩
      have hel : e.l = kept ++ rest.take (min keep.toNat rest.length) := (congrArg Fi.l he).trans (by
        have : ∀ l : List Int, l = [] ++ l := fun l => rfl
        exact hL)
      rw [hel] at hm
      have hZ := of_decide_eq_true h
      have hX : List.take (keep - 0).toNat (List.drop (Int.toNat 0) (bV rest)) = bV (rest.take (min keep.toNat rest.length)) := by
        rw [show (keep - 0).toNat = min keep.toNat rest.length by (simp only [List.length_map] at hZ; omega), Int.toNat_zero, List.drop_zero]; exact List.map_take.symm
      have hbd : 0 ≤ (0 : Int) ∧ 0 ≤ keep ∧ keep ≤ ((bV rest).length : Int) := by simp only [List.length_map] at hZ ⊢; omega
      generalize hn : rest.take (min keep.toNat rest.length) = T at *
      have hT : T.length ≤ rest.length := by rw [← hn, List.length_take]; omega
      have g1 : ∀ z ∈ List.take (keep - 0).toNat (List.drop (Int.toNat 0) (bV rest)), z.length = 1 := by rw [hX]; exact bV_one T
      have g2 : ∀ z ∈ List.take (keep - 0).toNat (List.drop (Int.toNat 0) (bV rest)), ∀ c ∈ z, leafV c = true := by rw [hX]; intro z hz c hc; obtain ⟨y, _, rfl⟩ := List.mem_map.1 hz; rw [List.mem_singleton.1 hc]; rfl
      by_cases hk0 : kept = []
      · have c1 : (bV kept).isEmpty = true := by rw [hk0]; rfl
        by_cases hT0 : T = []
        · have c2 : (List.take (keep - 0).toNat (List.drop (Int.toNat 0) (bV rest))).isEmpty = true := by rw [hX, hT0]; rfl
          obtain ⟨x10, ⟨_, rfl⟩ | ⟨a', h1', _⟩⟩ := hm.split
          · repeat' ((conv => whnf); (first | refine csp_t (c1) ?_ | refine csp_t (c2) ?_ | refine sda (hbd) ?_ | refine sda (k1) ?_ | refine pickk0 ?_ | refine csp (fun h => ?_) (fun h => ?_) | refine cllo (ref01_Same_t [] [] [] rfl rfl) (fun _ => ?_) | refine cll (ref01_Same_t [] [] [] rfl rfl) (fun _ => ?_) | refine cllo (fl) (fun _ => ?_) | refine cll (fl) (fun _ => ?_) | refine fLk ⟨⟩ ?_ | (refine sda ?_ ?_; (focus (first | rfl | exact of_decide_eq_true rfl | (simp; done)))) | refine sda ?_ ?_ | refine conk rfl ?_ | refine ldk rfl ?_ | refine mapk (fun x hx => ?_) | exact ⟨rfl, rfl⟩ | refine nilk (fun h => absurd h (of_decide_eq_false rfl)) ?_ | refine nilk (fun h => absurd h (List.cons_ne_nil _ _)) ?_ | refine nilk (fun h => ?_) ?_ | exact rfl | refine leftk1 rfl ?_ | refine bytk8 rfl ?_ | refine bytk rfl ?_ | exact leftk0 rfl | refine eqk rfl ?_ | refine fLm rfl ?_ | refine fLk (by assumption) ?_ | refine fVk ?_ | refine fLVk ?_ | refine fWk ?_ | intro hl))
            all_goals conv => whnf
          · exact absurd (by rw [hk0, hT0]; rfl) h1'
        · have c2 : (List.take (keep - 0).toNat (List.drop (Int.toNat 0) (bV rest))).isEmpty = false := by rw [hX]; exact bV_ne hT0
          have c3 : (([] : List (List V)).length + (List.take (keep - 0).toNat (List.drop (Int.toNat 0) (bV rest))).length) * 2 ≤ 140737488355327 := by rw [hX]; exact bV_few (by omega)
          obtain ⟨x10, ⟨h1', _⟩ | ⟨a', h1', rfl, h2', h3'⟩⟩ := hm.split
          · exact absurd (List.append_eq_nil_iff.1 h1').2 hT0
          · repeat' ((conv => whnf); (first | refine csp_t (c1) ?_ | refine csp_f (c2) ?_ | refine sda (hbd) ?_ | refine sda (k1) ?_ | refine sda (g1) ?_ | refine sda (c3) ?_ | refine pickk0 ?_ | refine csp (fun h => ?_) (fun h => ?_) | (refine sda ?_ ?_; (focus (first | rfl | exact of_decide_eq_true rfl | (simp; done)))) | refine sda ?_ ?_ | refine conk rfl ?_ | refine ldk rfl ?_ | refine mapk (fun x hx => ?_) | exact ⟨rfl, rfl⟩ | refine nilk (fun h => absurd h (of_decide_eq_false rfl)) ?_ | refine nilk (fun h => absurd h (List.cons_ne_nil _ _)) ?_ | refine nilk (fun h => ?_) ?_ | exact rfl | refine leftk1 rfl ?_ | refine bytk8 rfl ?_ | refine bytk rfl ?_ | exact leftk0 rfl | refine eqk rfl ?_ | refine fLm rfl ?_ | refine fLk (by assumption) ?_ | refine fVk ?_ | refine fLVk ?_ | refine fWk ?_ | intro hl))
            refine fLnew (fun s11 x11 f11 o11 sv11 => ?_)
            have hs := same_sl (x11 _ _ h3') o11 (k := (kept ++ T).length) (m := ([] : List (List V)).length + (List.take (keep - 0).toNat (List.drop (Int.toNat 0) (bV rest))).length) (L := kept ++ T) (takeV _) (by rw [hX, bV_take, hk0]; rfl)
            repeat' ((conv => whnf); (first | refine pickk0 ?_ | refine csp (fun h => ?_) (fun h => ?_) | refine cllo (hs) (fun _ => ?_) | refine cll (hs) (fun _ => ?_) | refine cllo (fl) (fun _ => ?_) | refine cll (fl) (fun _ => ?_) | refine fLk ⟨⟩ ?_ | (refine sda ?_ ?_; (focus (first | rfl | exact of_decide_eq_true rfl | (simp; done)))) | refine sda ?_ ?_ | refine conk rfl ?_ | refine ldk rfl ?_ | refine mapk (fun x hx => ?_) | exact ⟨rfl, rfl⟩ | refine nilk (fun h => absurd h (of_decide_eq_false rfl)) ?_ | refine nilk (fun h => absurd h (List.cons_ne_nil _ _)) ?_ | refine nilk (fun h => ?_) ?_ | exact rfl | refine leftk1 rfl ?_ | refine bytk8 rfl ?_ | refine bytk rfl ?_ | exact leftk0 rfl | refine eqk rfl ?_ | refine fLm rfl ?_ | refine fLk (by assumption) ?_ | refine fVk ?_ | refine fLVk ?_ | refine fWk ?_ | intro hl))
            all_goals conv => whnf
      · have c1 : (bV kept).isEmpty = false := bV_ne hk0
        obtain ⟨x10, ⟨h1', _⟩ | ⟨a', h1', rfl, h2', h3'⟩⟩ := hm.split
        · exact absurd (List.append_eq_nil_iff.1 h1').1 hk0
        by_cases hT0 : T = []
        · have c2 : (List.take (keep - 0).toNat (List.drop (Int.toNat 0) (bV rest))).isEmpty = true := by rw [hX, hT0]; rfl
          repeat' ((conv => whnf); (first | refine csp_f (c1) ?_ | refine sda (k2) ?_ | refine sda (k3) ?_ | refine pickk0 ?_ | refine csp (fun h => ?_) (fun h => ?_) | (refine sda ?_ ?_; (focus (first | rfl | exact of_decide_eq_true rfl | (simp; done)))) | refine sda ?_ ?_ | refine conk rfl ?_ | refine ldk rfl ?_ | refine mapk (fun x hx => ?_) | exact ⟨rfl, rfl⟩ | refine nilk (fun h => absurd h (of_decide_eq_false rfl)) ?_ | refine nilk (fun h => absurd h (List.cons_ne_nil _ _)) ?_ | refine nilk (fun h => ?_) ?_ | exact rfl | refine leftk1 rfl ?_ | refine bytk8 rfl ?_ | refine bytk rfl ?_ | exact leftk0 rfl | refine eqk rfl ?_ | refine fLm rfl ?_ | refine fLk (by assumption) ?_ | refine fVk ?_ | refine fLVk ?_ | refine fWk ?_ | intro hl))
          refine fLnew (fun s11 x11 f11 o11 sv11 => ?_)
          have hs := same_sl (x11 _ _ h3') o11 (k := (kept ++ T).length) (m := ([] : List (List V)).length + (bV kept).length) (L := kept ++ T) (takeV _) (by rw [bV_take, hT0, List.append_nil])
          repeat' ((conv => whnf); (first | refine csp_t (c2) ?_ | refine sda (hbd) ?_ | refine sda (k1) ?_ | (rw [o11]) | refine pickk0 ?_ | refine csp (fun h => ?_) (fun h => ?_) | refine cllo (hs) (fun _ => ?_) | refine cll (hs) (fun _ => ?_) | refine cllo (fl) (fun _ => ?_) | refine cll (fl) (fun _ => ?_) | refine fLk ⟨⟩ ?_ | (refine sda ?_ ?_; (focus (first | rfl | exact of_decide_eq_true rfl | (simp; done)))) | refine sda ?_ ?_ | refine conk rfl ?_ | refine ldk rfl ?_ | refine mapk (fun x hx => ?_) | exact ⟨rfl, rfl⟩ | refine nilk (fun h => absurd h (of_decide_eq_false rfl)) ?_ | refine nilk (fun h => absurd h (List.cons_ne_nil _ _)) ?_ | refine nilk (fun h => ?_) ?_ | exact rfl | refine leftk1 rfl ?_ | refine bytk8 rfl ?_ | refine bytk rfl ?_ | exact leftk0 rfl | refine eqk rfl ?_ | refine fLm rfl ?_ | refine fLk (by assumption) ?_ | refine fVk ?_ | refine fLVk ?_ | refine fWk ?_ | intro hl))
          all_goals conv => whnf
        · have c2 : (List.take (keep - 0).toNat (List.drop (Int.toNat 0) (bV rest))).isEmpty = false := by rw [hX]; exact bV_ne hT0
          have c4 : (([] ++ bV kept).length + (List.take (keep - 0).toNat (List.drop (Int.toNat 0) (bV rest))).length) * 2 ≤ 140737488355327 := by rw [hX]; simp only [List.nil_append, List.length_map]; omega
          have c5 : ([] : List (List V)).length + (bV kept).length = ([] ++ bV kept).length := by simp
          repeat' ((conv => whnf); (first | refine csp_f (c1) ?_ | refine sda (k2) ?_ | refine sda (k3) ?_ | refine pickk0 ?_ | refine csp (fun h => ?_) (fun h => ?_) | (refine sda ?_ ?_; (focus (first | rfl | exact of_decide_eq_true rfl | (simp; done)))) | refine sda ?_ ?_ | refine conk rfl ?_ | refine ldk rfl ?_ | refine mapk (fun x hx => ?_) | exact ⟨rfl, rfl⟩ | refine nilk (fun h => absurd h (of_decide_eq_false rfl)) ?_ | refine nilk (fun h => absurd h (List.cons_ne_nil _ _)) ?_ | refine nilk (fun h => ?_) ?_ | exact rfl | refine leftk1 rfl ?_ | refine bytk8 rfl ?_ | refine bytk rfl ?_ | exact leftk0 rfl | refine eqk rfl ?_ | refine fLm rfl ?_ | refine fLk (by assumption) ?_ | refine fVk ?_ | refine fLVk ?_ | refine fWk ?_ | intro hl))
          refine fLnew (fun s11 x11 f11 o11 sv11 => ?_)
          repeat' ((conv => whnf); (first | refine csp_f (c2) ?_ | refine sda (hbd) ?_ | refine sda (k1) ?_ | refine sda (g1) ?_ | refine sda (g2) ?_ | refine sda (c5) ?_ | refine sda (c4) ?_ | (rw [o11]) | refine pickk0 ?_ | refine csp (fun h => ?_) (fun h => ?_) | (refine sda ?_ ?_; (focus (first | rfl | exact of_decide_eq_true rfl | (simp; done)))) | refine sda ?_ ?_ | refine conk rfl ?_ | refine ldk rfl ?_ | refine mapk (fun x hx => ?_) | exact ⟨rfl, rfl⟩ | refine nilk (fun h => absurd h (of_decide_eq_false rfl)) ?_ | refine nilk (fun h => absurd h (List.cons_ne_nil _ _)) ?_ | refine nilk (fun h => ?_) ?_ | exact rfl | refine leftk1 rfl ?_ | refine bytk8 rfl ?_ | refine bytk rfl ?_ | exact leftk0 rfl | refine eqk rfl ?_ | refine fLm rfl ?_ | refine fLk (by assumption) ?_ | refine fVk ?_ | refine fLVk ?_ | refine fWk ?_ | intro hl))
          refine fLmove o11 (fun s12 f12 o12 x12 sv12 => ?_)
          have hne : a' ≠ s10.length := fun q => by rw [q] at h3'; rw [h3'] at f11; cases f11
          have hs := same_sl (x12 _ _ hne (x11 _ _ h3')) o12 (k := (kept ++ T).length) (m := ([] ++ bV kept).length + (List.take (keep - 0).toNat (List.drop (Int.toNat 0) (bV rest))).length) (L := kept ++ T) (takeV _) (by rw [hX, List.drop_zero, ← List.length_append, List.take_length, List.nil_append, bV_app])
          repeat' ((conv => whnf); (first | refine pickk0 ?_ | refine csp (fun h => ?_) (fun h => ?_) | refine cllo (hs) (fun _ => ?_) | refine cll (hs) (fun _ => ?_) | refine cllo (fl) (fun _ => ?_) | refine cll (fl) (fun _ => ?_) | refine fLk ⟨⟩ ?_ | (refine sda ?_ ?_; (focus (first | rfl | exact of_decide_eq_true rfl | (simp; done)))) | refine sda ?_ ?_ | refine conk rfl ?_ | refine ldk rfl ?_ | refine mapk (fun x hx => ?_) | exact ⟨rfl, rfl⟩ | refine nilk (fun h => absurd h (of_decide_eq_false rfl)) ?_ | refine nilk (fun h => absurd h (List.cons_ne_nil _ _)) ?_ | refine nilk (fun h => ?_) ?_ | exact rfl | refine leftk1 rfl ?_ | refine bytk8 rfl ?_ | refine bytk rfl ?_ | exact leftk0 rfl | refine eqk rfl ?_ | refine fLm rfl ?_ | refine fLk (by assumption) ?_ | refine fVk ?_ | refine fLVk ?_ | refine fWk ?_ | intro hl))
          all_goals conv => whnf
    · conv => whnf
      refine clq (w_Read O9.is hnf) (fun r s10 q _ _ => ?_)
      obtain ⟨e, he, b, rfl, hm, D⟩ := q.out O9 gf
      have sv10 : Sv s10 := ⟨⟩
      have hel : e.l = kept ++ rest.take (min keep.toNat rest.length) := (congrArg Fi.l he).trans (by
        have : ∀ l : List Int, l = [] ++ l := fun l => rfl
        exact hL)
      rw [hel] at hm
      have hZ := of_decide_eq_false h
      have hX : List.take (((bV rest).length : Int) - 0).toNat (List.drop (Int.toNat 0) (bV rest)) = bV (rest.take (min keep.toNat rest.length)) := by
        rw [show (((bV rest).length : Int) - 0).toNat = min keep.toNat rest.length by (simp only [List.length_map] at hZ ⊢; omega), Int.toNat_zero, List.drop_zero]; exact List.map_take.symm
      have hbd : 0 ≤ (0 : Int) ∧ 0 ≤ ((bV rest).length : Int) ∧ ((bV rest).length : Int) ≤ ((bV rest).length : Int) := by simp only [List.length_map] at hZ ⊢; omega
      generalize hn : rest.take (min keep.toNat rest.length) = T at *
      have hT : T.length ≤ rest.length := by rw [← hn, List.length_take]; omega
      have g1 : ∀ z ∈ List.take (((bV rest).length : Int) - 0).toNat (List.drop (Int.toNat 0) (bV rest)), z.length = 1 := by rw [hX]; exact bV_one T
      have g2 : ∀ z ∈ List.take (((bV rest).length : Int) - 0).toNat (List.drop (Int.toNat 0) (bV rest)), ∀ c ∈ z, leafV c = true := by rw [hX]; intro z hz c hc; obtain ⟨y, _, rfl⟩ := List.mem_map.1 hz; rw [List.mem_singleton.1 hc]; rfl
      by_cases hk0 : kept = []
      · have c1 : (bV kept).isEmpty = true := by rw [hk0]; rfl
        by_cases hT0 : T = []
        · have c2 : (List.take (((bV rest).length : Int) - 0).toNat (List.drop (Int.toNat 0) (bV rest))).isEmpty = true := by rw [hX, hT0]; rfl
          obtain ⟨x10, ⟨_, rfl⟩ | ⟨a', h1', _⟩⟩ := hm.split
          · repeat' ((conv => whnf); (first | refine csp_t (c1) ?_ | refine csp_t (c2) ?_ | refine sda (hbd) ?_ | refine sda (k1) ?_ | refine pickk0 ?_ | refine csp (fun h => ?_) (fun h => ?_) | refine cllo (ref01_Same_t [] [] [] rfl rfl) (fun _ => ?_) | refine cll (ref01_Same_t [] [] [] rfl rfl) (fun _ => ?_) | refine cllo (fl) (fun _ => ?_) | refine cll (fl) (fun _ => ?_) | refine fLk ⟨⟩ ?_ | (refine sda ?_ ?_; (focus (first | rfl | exact of_decide_eq_true rfl | (simp; done)))) | refine sda ?_ ?_ | refine conk rfl ?_ | refine ldk rfl ?_ | refine mapk (fun x hx => ?_) | exact ⟨rfl, rfl⟩ | refine nilk (fun h => absurd h (of_decide_eq_false rfl)) ?_ | refine nilk (fun h => absurd h (List.cons_ne_nil _ _)) ?_ | refine nilk (fun h => ?_) ?_ | exact rfl | refine leftk1 rfl ?_ | refine bytk8 rfl ?_ | refine bytk rfl ?_ | exact leftk0 rfl | refine eqk rfl ?_ | refine fLm rfl ?_ | refine fLk (by assumption) ?_ | refine fVk ?_ | refine fLVk ?_ | refine fWk ?_ | intro hl))
            all_goals conv => whnf
          · exact absurd (by rw [hk0, hT0]; rfl) h1'
        · have c2 : (List.take (((bV rest).length : Int) - 0).toNat (List.drop (Int.toNat 0) (bV rest))).isEmpty = false := by rw [hX]; exact bV_ne hT0
          have c3 : (([] : List (List V)).length + (List.take (((bV rest).length : Int) - 0).toNat (List.drop (Int.toNat 0) (bV rest))).length) * 2 ≤ 140737488355327 := by rw [hX]; exact bV_few (by omega)
          obtain ⟨x10, ⟨h1', _⟩ | ⟨a', h1', rfl, h2', h3'⟩⟩ := hm.split
          · exact absurd (List.append_eq_nil_iff.1 h1').2 hT0
          · repeat' ((conv => whnf); (first | refine csp_t (c1) ?_ | refine csp_f (c2) ?_ | refine sda (hbd) ?_ | refine sda (k1) ?_ | refine sda (g1) ?_ | refine sda (c3) ?_ | refine pickk0 ?_ | refine csp (fun h => ?_) (fun h => ?_) | (refine sda ?_ ?_; (focus (first | rfl | exact of_decide_eq_true rfl | (simp; done)))) | refine sda ?_ ?_ | refine conk rfl ?_ | refine ldk rfl ?_ | refine mapk (fun x hx => ?_) | exact ⟨rfl, rfl⟩ | refine nilk (fun h => absurd h (of_decide_eq_false rfl)) ?_ | refine nilk (fun h => absurd h (List.cons_ne_nil _ _)) ?_ | refine nilk (fun h => ?_) ?_ | exact rfl | refine leftk1 rfl ?_ | refine bytk8 rfl ?_ | refine bytk rfl ?_ | exact leftk0 rfl | refine eqk rfl ?_ | refine fLm rfl ?_ | refine fLk (by assumption) ?_ | refine fVk ?_ | refine fLVk ?_ | refine fWk ?_ | intro hl))
            refine fLnew (fun s11 x11 f11 o11 sv11 => ?_)
            have hs := same_sl (x11 _ _ h3') o11 (k := (kept ++ T).length) (m := ([] : List (List V)).length + (List.take (((bV rest).length : Int) - 0).toNat (List.drop (Int.toNat 0) (bV rest))).length) (L := kept ++ T) (takeV _) (by rw [hX, bV_take, hk0]; rfl)
            repeat' ((conv => whnf); (first | refine pickk0 ?_ | refine csp (fun h => ?_) (fun h => ?_) | refine cllo (hs) (fun _ => ?_) | refine cll (hs) (fun _ => ?_) | refine cllo (fl) (fun _ => ?_) | refine cll (fl) (fun _ => ?_) | refine fLk ⟨⟩ ?_ | (refine sda ?_ ?_; (focus (first | rfl | exact of_decide_eq_true rfl | (simp; done)))) | refine sda ?_ ?_ | refine conk rfl ?_ | refine ldk rfl ?_ | refine mapk (fun x hx => ?_) | exact ⟨rfl, rfl⟩ | refine nilk (fun h => absurd h (of_decide_eq_false rfl)) ?_ | refine nilk (fun h => absurd h (List.cons_ne_nil _ _)) ?_ | refine nilk (fun h => ?_) ?_ | exact rfl | refine leftk1 rfl ?_ | refine bytk8 rfl ?_ | refine bytk rfl ?_ | exact leftk0 rfl | refine eqk rfl ?_ | refine fLm rfl ?_ | refine fLk (by assumption) ?_ | refine fVk ?_ | refine fLVk ?_ | refine fWk ?_ | intro hl))
            all_goals conv => whnf
      · have c1 : (bV kept).isEmpty = false := bV_ne hk0
        obtain ⟨x10, ⟨h1', _⟩ | ⟨a', h1', rfl, h2', h3'⟩⟩ := hm.split
        · exact absurd (List.append_eq_nil_iff.1 h1').1 hk0
        by_cases hT0 : T = []
        · have c2 : (List.take (((bV rest).length : Int) - 0).toNat (List.drop (Int.toNat 0) (bV rest))).isEmpty = true := by rw [hX, hT0]; rfl
          repeat' ((conv => whnf); (first | refine csp_f (c1) ?_ | refine sda (k2) ?_ | refine sda (k3) ?_ | refine pickk0 ?_ | refine csp (fun h => ?_) (fun h => ?_) | (refine sda ?_ ?_; (focus (first | rfl | exact of_decide_eq_true rfl | (simp; done)))) | refine sda ?_ ?_ | refine conk rfl ?_ | refine ldk rfl ?_ | refine mapk (fun x hx => ?_) | exact ⟨rfl, rfl⟩ | refine nilk (fun h => absurd h (of_decide_eq_false rfl)) ?_ | refine nilk (fun h => absurd h (List.cons_ne_nil _ _)) ?_ | refine nilk (fun h => ?_) ?_ | exact rfl | refine leftk1 rfl ?_ | refine bytk8 rfl ?_ | refine bytk rfl ?_ | exact leftk0 rfl | refine eqk rfl ?_ | refine fLm rfl ?_ | refine fLk (by assumption) ?_ | refine fVk ?_ | refine fLVk ?_ | refine fWk ?_ | intro hl))
          refine fLnew (fun s11 x11 f11 o11 sv11 => ?_)
          have hs := same_sl (x11 _ _ h3') o11 (k := (kept ++ T).length) (m := ([] : List (List V)).length + (bV kept).length) (L := kept ++ T) (takeV _) (by rw [bV_take, hT0, List.append_nil])
          repeat' ((conv => whnf); (first | refine csp_t (c2) ?_ | refine sda (hbd) ?_ | refine sda (k1) ?_ | (rw [o11]) | refine pickk0 ?_ | refine csp (fun h => ?_) (fun h => ?_) | refine cllo (hs) (fun _ => ?_) | refine cll (hs) (fun _ => ?_) | refine cllo (fl) (fun _ => ?_) | refine cll (fl) (fun _ => ?_) | refine fLk ⟨⟩ ?_ | (refine sda ?_ ?_; (focus (first | rfl | exact of_decide_eq_true rfl | (simp; done)))) | refine sda ?_ ?_ | refine conk rfl ?_ | refine ldk rfl ?_ | refine mapk (fun x hx => ?_) | exact ⟨rfl, rfl⟩ | refine nilk (fun h => absurd h (of_decide_eq_false rfl)) ?_ | refine nilk (fun h => absurd h (List.cons_ne_nil _ _)) ?_ | refine nilk (fun h => ?_) ?_ | exact rfl | refine leftk1 rfl ?_ | refine bytk8 rfl ?_ | refine bytk rfl ?_ | exact leftk0 rfl | refine eqk rfl ?_ | refine fLm rfl ?_ | refine fLk (by assumption) ?_ | refine fVk ?_ | refine fLVk ?_ | refine fWk ?_ | intro hl))
          all_goals conv => whnf
        · have c2 : (List.take (((bV rest).length : Int) - 0).toNat (List.drop (Int.toNat 0) (bV rest))).isEmpty = false := by rw [hX]; exact bV_ne hT0
          have c4 : (([] ++ bV kept).length + (List.take (((bV rest).length : Int) - 0).toNat (List.drop (Int.toNat 0) (bV rest))).length) * 2 ≤ 140737488355327 := by rw [hX]; simp only [List.nil_append, List.length_map]; omega
          have c5 : ([] : List (List V)).length + (bV kept).length = ([] ++ bV kept).length := by simp
          repeat' ((conv => whnf); (first | refine csp_f (c1) ?_ | refine sda (k2) ?_ | refine sda (k3) ?_ | refine pickk0 ?_ | refine csp (fun h => ?_) (fun h => ?_) | (refine sda ?_ ?_; (focus (first | rfl | exact of_decide_eq_true rfl | (simp; done)))) | refine sda ?_ ?_ | refine conk rfl ?_ | refine ldk rfl ?_ | refine mapk (fun x hx => ?_) | exact ⟨rfl, rfl⟩ | refine nilk (fun h => absurd h (of_decide_eq_false rfl)) ?_ | refine nilk (fun h => absurd h (List.cons_ne_nil _ _)) ?_ | refine nilk (fun h => ?_) ?_ | exact rfl | refine leftk1 rfl ?_ | refine bytk8 rfl ?_ | refine bytk rfl ?_ | exact leftk0 rfl | refine eqk rfl ?_ | refine fLm rfl ?_ | refine fLk (by assumption) ?_ | refine fVk ?_ | refine fLVk ?_ | refine fWk ?_ | intro hl))
          refine fLnew (fun s11 x11 f11 o11 sv11 => ?_)
          repeat' ((conv => whnf); (first | refine csp_f (c2) ?_ | refine sda (hbd) ?_ | refine sda (k1) ?_ | refine sda (g1) ?_ | refine sda (g2) ?_ | refine sda (c5) ?_ | refine sda (c4) ?_ | (rw [o11]) | refine pickk0 ?_ | refine csp (fun h => ?_) (fun h => ?_) | (refine sda ?_ ?_; (focus (first | rfl | exact of_decide_eq_true rfl | (simp; done)))) | refine sda ?_ ?_ | refine conk rfl ?_ | refine ldk rfl ?_ | refine mapk (fun x hx => ?_) | exact ⟨rfl, rfl⟩ | refine nilk (fun h => absurd h (of_decide_eq_false rfl)) ?_ | refine nilk (fun h => absurd h (List.cons_ne_nil _ _)) ?_ | refine nilk (fun h => ?_) ?_ | exact rfl | refine leftk1 rfl ?_ | refine bytk8 rfl ?_ | refine bytk rfl ?_ | exact leftk0 rfl | refine eqk rfl ?_ | refine fLm rfl ?_ | refine fLk (by assumption) ?_ | refine fVk ?_ | refine fLVk ?_ | refine fWk ?_ | intro hl))
          refine fLmove o11 (fun s12 f12 o12 x12 sv12 => ?_)
          have hne : a' ≠ s10.length := fun q => by rw [q] at h3'; rw [h3'] at f11; cases f11
          have hs := same_sl (x12 _ _ hne (x11 _ _ h3')) o12 (k := (kept ++ T).length) (m := ([] ++ bV kept).length + (List.take (((bV rest).length : Int) - 0).toNat (List.drop (Int.toNat 0) (bV rest))).length) (L := kept ++ T) (takeV _) (by rw [hX, List.drop_zero, ← List.length_append, List.take_length, List.nil_append, bV_app])
          repeat' ((conv => whnf); (first | refine pickk0 ?_ | refine csp (fun h => ?_) (fun h => ?_) | refine cllo (hs) (fun _ => ?_) | refine cll (hs) (fun _ => ?_) | refine cllo (fl) (fun _ => ?_) | refine cll (fl) (fun _ => ?_) | refine fLk ⟨⟩ ?_ | (refine sda ?_ ?_; (focus (first | rfl | exact of_decide_eq_true rfl | (simp; done)))) | refine sda ?_ ?_ | refine conk rfl ?_ | refine ldk rfl ?_ | refine mapk (fun x hx => ?_) | exact ⟨rfl, rfl⟩ | refine nilk (fun h => absurd h (of_decide_eq_false rfl)) ?_ | refine nilk (fun h => absurd h (List.cons_ne_nil _ _)) ?_ | refine nilk (fun h => ?_) ?_ | exact rfl | refine leftk1 rfl ?_ | refine bytk8 rfl ?_ | refine bytk rfl ?_ | exact leftk0 rfl | refine eqk rfl ?_ | refine fLm rfl ?_ | refine fLk (by assumption) ?_ | refine fVk ?_ | refine fLVk ?_ | refine fWk ?_ | intro hl))
          all_goals conv => whnf
theorem filesKeeps_ret (kept rest : List Int) (keep : Int) (hk : kept.length * 1 ≤ 140737488351232 ∧ kept.length ≤ 9223372036854775807 ∧ ∀ x ∈ kept, IntKind.u8.wrap x = x) (hr : rest.length * 1 ≤ 140737488351232 ∧ rest.length ≤ 9223372036854775807 ∧ ∀ x ∈ rest, IntKind.u8.wrap x = x) (h3 : IntKind.i64.wrap keep = keep) :
    Ret Try.prog F_octavolaw01_FilesKeeps [.row false (bV kept), .row false (bV rest), .int .i64 keep] (.bool true) := by
  by_cases hb : 1048576 < kept.length + rest.length
  · exact keeps_big files_lives kept rest keep hb (by omega) (by omega)
  · exact keeps_main files_lives kept rest keep (by omega)
end Go.Proofs.Ytlognebkifjfbaa
