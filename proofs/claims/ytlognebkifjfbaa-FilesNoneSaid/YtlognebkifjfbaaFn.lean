/- What the functions answer, and the law. -/
import Derived.Test.YtlognebkifjfbaaR
/- Values and areas as the program holds them; what the functions of layers 5, 6 and 17 answer of them. -/
set_option maxRecDepth 100000
set_option linter.all false
namespace Go.Proofs.Ytlognebkifjfbaa
open Ab R
theorem cll {P : Program} {g : FuncId} {args : List V} {r : V} {K : V → Prop} (h : Ret P g args r) (k : wfV 8 r → K r) : ∃ r, Ret P g args r ∧ (wfV 8 r → K r) := ⟨r, h, k⟩
theorem cllo {P : Program} {g : FuncId} {args : List V} {r : V} {K : V → Prop} {B : Prop} (h : Ret P g args r) (k : wfV 8 r → K r) : (∃ r, Ret P g args r ∧ (wfV 8 r → K r)) ∨ B := .inl ⟨r, h, k⟩
theorem clll {P : Program} {g : FuncId} {args : List V} {s s' : List O} {r : V} {K : V → List O → Prop} {A : Prop} (h : RetL P g args s r s') (k : wfV 8 r → wfL s' → K r s') : A ∨ ∃ r s', RetL P g args s r s' ∧ (wfV 8 r → wfL s' → K r s') := .inr ⟨r, s', h, k⟩
theorem nilk {p A B : Prop} (a : p → A) (b : B) : (p → A) ∧ B := ⟨a, b⟩
theorem sda {p q : Prop} (h : p) (k : q) : Sd p ∧ q := ⟨⟨h⟩, k⟩
theorem conk {els : List (List V)} {i : Nat} {c : List V} {K : List V → Prop} (h : els[i]? = some c) (k : K c) : ∀ cs, els[i]? = some cs → K cs := fun cs hcs => by
  rw [h] at hcs
  rw [← Option.some.inj hcs]
  exact k
theorem ldk {o : Option V} {w : V} {K : V → Prop} (h : o = some w) (k : K w) : ∀ v, o = some v → K v := fun v hv => by
  rw [h] at hv
  rw [← Option.some.inj hv]
  exact k
theorem mapk {α : Type} {l : List α} {f : α → List V} {i : Nat} {K : List V → Prop} (h : ∀ x, l[i]? = some x → K (f x)) : ∀ cs, (l.map f)[i]? = some cs → K cs := fun cs hcs => by
  rw [List.getElem?_map] at hcs
  cases hx : l[i]? with
  | none => rw [hx] at hcs; cases hcs
  | some x => rw [hx] at hcs; obtain rfl := Option.some.inj hcs; exact h x hx
theorem eqk {α : Type} {o : Option α} {w : α} {K : α → Prop} (h : o = some w) (k : K w) : ∀ v, o = some v → K v := fun v hv => by
  rw [h] at hv
  rw [← Option.some.inj hv]
  exact k
theorem leftk1 {es : List (Nat × V × V)} {seen : List Nat} {a : Nat × V × V} {K : Nat × V × V → Prop} (h : leftM es seen = [a]) (k : K a) : ∀ y, y ∈ leftM es seen → K y := fun y hy => by
  rw [h, List.mem_singleton] at hy
  rw [hy]
  exact k
theorem leftk0 {es : List (Nat × V × V)} {seen : List Nat} {K : Nat × V × V → Prop} (h : leftM es seen = []) : ∀ y, y ∈ leftM es seen → K y := fun y hy => by
  rw [h] at hy
  cases hy
theorem bytk {els : List (List V)} {l : List Int} {K : List Int → Prop} (h : bytesV els = some l) (k : K l) : (∀ l, bytesV els = some l → K l) ∧ Sd ((bytesV els).isSome = true) := by
  refine ⟨fun l' hl => ?_, ⟨by rw [h]; rfl⟩⟩
  rw [h] at hl
  rw [← Option.some.inj hl]
  exact k
theorem bytk8 {els : List (List V)} {c : List UInt8} {K : List Int → Prop} (h : els = c.map fun c => [V.int .u8 c.toNat]) (k : K (c.map fun c => (c.toNat : Int))) : (∀ l, bytesV els = some l → K l) ∧ Sd ((bytesV els).isSome = true) :=
  bytk (h ▸ bytesV_map (fun c : UInt8 => (c.toNat : Int)) c) k
theorem w64 {n : Int} (h : -9223372036854775808 ≤ n ∧ n ≤ 9223372036854775807) : IntKind.i64.wrap n = n := (wrap_iff .i64 n).2 (by simp only [kLo, kHi]; omega)
end Go.Proofs.Ytlognebkifjfbaa

/- Files: names, and worlds of them. -/
set_option maxRecDepth 100000
set_option linter.all false
namespace Go.Proofs.Ytlognebkifjfbaa
open Ab R
def okB (c : UInt8) : Bool := decide (33 ≤ c.toNat) && decide (c.toNat ≤ 126)
/-- Which names are good. -/
def gnm (s : ByteArray) : Bool := s.data.toList.all okB && (decide (1 ≤ s.size) && decide (s.size ≤ 24))
theorem gnm_no {s : ByteArray} {i : Nat} {c : UInt8} (h : s.data.toList[i]? = some c) (hc : okB c = false) : gnm s = false := by
  unfold gnm
  have : s.data.toList.all okB = false := by
    rw [List.all_eq_false]
    exact ⟨c, List.mem_of_getElem? h, by simp [hc]⟩
  rw [this]
  rfl
theorem size_pos (s : ByteArray) : (s = ⟨#[]⟩) = (s.size = 0) := by
  rw [eq_iff_iff]
  constructor
  · rintro rfl; rfl
  · intro h
    cases s with
    | mk d => congr 1; exact Array.eq_empty_of_size_eq_zero h
theorem files_Good (s : ByteArray) (hs : s.size ≤ 140737488355327) : Ret Try.prog F_files_Good [.str s] (.bool (gnm s)) := by
  refine r_files_Good rfl fun hw => ?_
  clear hw
  repeat' ((conv => whnf); (first | refine csp (fun h => ?_) (fun h => ?_) | (refine sda ?_ ?_; (focus (first | rfl | (simp; done)))) | refine sda ?_ ?_ | refine conk rfl ?_ | refine ldk rfl ?_ | refine mapk (fun x hx => ?_) | exact ⟨rfl, rfl⟩ | refine nilk (fun h => ?_) ?_ | intro hl))
  · exact hs
  have hlen : s.data.toList.length = s.size := Array.length_toList
  rw [← hlen]
  refine .inl ⟨Nat, [0, 6, 7, 8], [0], fun i => [(0, .str s), (6, .sl 0 0 s.data.toList.length), (7, .int .i64 s.data.toList.length), (8, .int .i64 i)], fun _ => [.arr true 1 (s.data.toList.map fun c => [.int .u8 c.toNat])], fun i => i ≤ s.data.toList.length ∧ (s.data.toList.take i).all okB = true, fun i => s.data.toList.length - i, rfl, ?_, fun i hi => ?_⟩
  · exact ⟨0, rfl, rfl, Nat.zero_le _, rfl⟩
  · obtain ⟨hi, h2⟩ := hi
    repeat' ((conv => whnf); (first | refine csp (fun h => ?_) (fun h => ?_) | (refine sda ?_ ?_; (focus (first | rfl | (simp; done)))) | refine sda ?_ ?_ | refine conk rfl ?_ | refine ldk rfl ?_ | refine mapk (fun x hx => ?_) | exact ⟨rfl, rfl⟩ | refine nilk (fun h => ?_) ?_ | intro hl))
    all_goals conv => whnf
    all_goals try simp only [decide_eq_true_eq, decide_eq_false_iff_not, Bool.not_eq_true', Bool.not_eq_false', List.length_map, Int.not_lt, Int.not_le, Decidable.not_not, gt_iff_lt, ge_iff_le] at *
    · omega
    · simp; omega
    · rw [gnm_no (i := i) (c := x) (by simpa using hx) (by simp [okB]; omega)]
    · rw [gnm_no (i := i) (c := x) (by simpa using hx) (by simp [okB]; omega)]
    · refine ⟨i + 1, ?_, by trivial, ⟨by have := (List.getElem?_eq_some_iff.1 hx).1; omega, ?_⟩, by have := (List.getElem?_eq_some_iff.1 hx).1; omega⟩
      · rw [w64 (n := (i : Int) + 1) (by omega)]
        rfl
      · rw [List.take_add_one, show s.data.toList[i]? = some x by simpa using hx]
        simp [h2, okB]
        omega
    · have h1 : s.data.toList.take i = s.data.toList := List.take_of_length_le (by omega)
      rw [h1] at h2
      rw [size_pos] at h
      congr 1
      simp only [gnm, h2, Bool.true_and]
      have : decide (1 ≤ s.size) = true := decide_eq_true (by omega)
      rw [this, Bool.true_and]
      rw [Bool.eq_iff_iff]
      simp
      omega
    · rw [size_pos] at h
      congr 1
      simp only [gnm]
      rw [h]
      simp
end Go.Proofs.Ytlognebkifjfbaa

/- FilesNone. -/
set_option maxRecDepth 100000
set_option linter.all false
namespace Go.Proofs.Ytlognebkifjfbaa
open Ab R
structure Act where
  kind : Int
  a : ByteArray
  b : ByteArray
  n : Int
  m : Int
  data : List Int
abbrev bV (l : List Int) : List (List V) := l.map fun n => [.int .u8 n]
abbrev cAct (x : Act) : List V := [.int .i64 x.kind, .str x.a, .str x.b, .int .i64 x.n, .int .i64 x.m, .row false (bV x.data)]
abbrev eAct (x : Act) : V := .agg (cAct x)
theorem sort0 : Ret Try.prog F_slices_Sort_string_string [.row false []] (.tup []) := by
  refine r_slices_Sort_string_string rfl fun hw => ?_
  clear hw
  repeat' ((conv => whnf); (first | refine csp (fun h => ?_) (fun h => ?_) | (apply clll; apply rl_slices_pdqsortOrdered_string rfl) | (apply clll; apply rl_slices_insertionSortOrdered_string rfl) | (apply clll; apply rl_bits_Len rfl) | (apply clll; apply rl_bits_Len64 rfl) | refine Or.inr ⟨1, ?_⟩ | (refine sda ?_ ?_; (focus (first | rfl | decide | (simp; done)))) | refine sda ?_ ?_ | refine conk rfl ?_ | refine ldk rfl ?_ | refine mapk (fun x hx => ?_) | exact ⟨rfl, rfl⟩ | refine nilk (fun h => absurd h (by decide)) ?_ | refine nilk (fun h => absurd h (List.cons_ne_nil _ _)) ?_ | refine nilk (fun h => ?_) ?_ | exact rfl | refine leftk1 rfl ?_ | refine bytk8 rfl ?_ | refine bytk rfl ?_ | exact leftk0 rfl | refine eqk rfl ?_ | intro hl))
  all_goals conv => whnf
end Go.Proofs.Ytlognebkifjfbaa

/- Files: the examples. -/
set_option maxRecDepth 100000
set_option linter.all false
namespace Go.Proofs.Ytlognebkifjfbaa
open Ab R
set_option maxHeartbeats 4000000 in
theorem files_lives : Ret Try.prog F_octavolaw01_lives [] (.bool true) := by
  refine r_octavolaw01_lives rfl fun hw => ?_
  clear hw
  repeat' ((conv => whnf); (first | refine csp (fun h => ?_) (fun h => ?_) | refine cllo (files_Good _ (by decide)) (fun _ => ?_) | refine cll (files_Good _ (by decide)) (fun _ => ?_) | (apply clll; apply rl_files_New rfl) | (apply clll; apply rl_files_World_Create rfl) | (apply clll; apply rl_files_World_Append rfl) | (apply clll; apply rl_files_World_Sync rfl) | (apply clll; apply rl_files_World_Cut rfl) | (apply clll; apply rl_files_World_Power rfl) | (apply clll; apply rl_files_World_Read rfl) | (apply clll; apply rl_files_World_Ops rfl) | (apply clll; apply rl_files_World_may rfl) | (apply clll; apply rl_files_World_made rfl) | (apply clll; apply rl_files_World_there rfl) | (apply clll; apply rl_files_World_operation rfl) | (apply clll; apply rl_files_World_Create_1 rfl) | (apply clll; apply rl_files_World_Append_1 rfl) | (apply clll; apply rl_files_World_Sync_1 rfl) | (apply clll; apply rl_files_World_fail rfl) | (apply clll; apply rl_slices_Clone_byte_byte rfl) | refine Or.inr ⟨9, ?_⟩ | (refine sda ?_ ?_; (focus (first | rfl | decide | (simp; done)))) | refine sda ?_ ?_ | refine conk rfl ?_ | refine ldk rfl ?_ | refine mapk (fun x hx => ?_) | exact ⟨rfl, rfl⟩ | refine nilk (fun h => absurd h (by decide)) ?_ | refine nilk (fun h => absurd h (List.cons_ne_nil _ _)) ?_ | refine nilk (fun h => ?_) ?_ | exact rfl | refine leftk1 rfl ?_ | refine bytk8 rfl ?_ | refine bytk rfl ?_ | exact leftk0 rfl | refine eqk rfl ?_ | intro hl))
end Go.Proofs.Ytlognebkifjfbaa

/- FilesNone. -/
set_option maxRecDepth 100000
set_option linter.all false
namespace Go.Proofs.Ytlognebkifjfbaa
open Ab R
set_option maxHeartbeats 4000000 in
theorem filesNone_ret (x : Act) : Ret Try.prog F_octavolaw01_FilesNone [eAct x] (.bool true) := by
  refine r_octavolaw01_FilesNone rfl fun hw => ?_
  clear hw
  repeat' ((conv => whnf); (first | refine csp (fun h => ?_) (fun h => ?_) | (apply clll; apply rl_files_World_Create rfl) | (apply clll; apply rl_files_World_Append rfl) | (apply clll; apply rl_files_World_Sync rfl) | (apply clll; apply rl_files_World_Cut rfl) | (apply clll; apply rl_files_World_Power rfl) | (apply clll; apply rl_files_World_Read rfl) | (apply clll; apply rl_files_World_Ops rfl) | (apply clll; apply rl_files_World_may rfl) | (apply clll; apply rl_files_World_made rfl) | (apply clll; apply rl_files_World_Rename rfl) | (apply clll; apply rl_files_World_Remove rfl) | (apply clll; apply rl_files_World_Place rfl) | (apply clll; apply rl_files_World_Synced rfl) | (apply clll; apply rl_files_World_On rfl) | (apply clll; apply rl_files_World_Written rfl) | (apply clll; apply rl_files_World_Names rfl) | refine cllo (sort0) (fun _ => ?_) | refine cll (sort0) (fun _ => ?_) | refine cllo (files_lives) (fun _ => ?_) | refine cll (files_lives) (fun _ => ?_) | refine Or.inr ⟨3, ?_⟩ | (refine sda ?_ ?_; (focus (first | rfl | decide | (simp; done)))) | refine sda ?_ ?_ | refine conk rfl ?_ | refine ldk rfl ?_ | refine mapk (fun x hx => ?_) | exact ⟨rfl, rfl⟩ | refine nilk (fun h => absurd h (by decide)) ?_ | refine nilk (fun h => absurd h (List.cons_ne_nil _ _)) ?_ | refine nilk (fun h => ?_) ?_ | exact rfl | refine leftk1 rfl ?_ | refine bytk8 rfl ?_ | refine bytk rfl ?_ | exact leftk0 rfl | refine eqk rfl ?_ | intro hl))
  all_goals conv => whnf
end Go.Proofs.Ytlognebkifjfbaa
