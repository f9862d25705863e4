/- What the functions answer, and the law. -/
import Derived.Test.YtlognebkifjfbaaR
/- Values and areas as the program holds them; what the functions of layers 5, 6 and 17 answer of them. -/
set_option maxRecDepth 100000
set_option linter.all false
namespace Go.Proofs.Ytlognebkifjfbaa
open Ab R
theorem cll {P : Program} {g : FuncId} {args : List V} {r : V} {K : V → Prop} (h : Ret P g args r) (k : wfV 8 r → K r) : ∃ r, Ret P g args r ∧ (wfV 8 r → K r) := ⟨r, h, k⟩
theorem cllo {P : Program} {g : FuncId} {args : List V} {r : V} {K : V → Prop} {B : Prop} (h : Ret P g args r) (k : wfV 8 r → K r) : (∃ r, Ret P g args r ∧ (wfV 8 r → K r)) ∨ B := .inl ⟨r, h, k⟩
theorem clll {P : Program} {g : FuncId} {args : List V} {s s' : List O} {r : V} {K : V → List O → Prop} {A C : Prop} (h : RetL P g args s r s') (k : wfV 8 r → wfL s' → K r s') : A ∨ (∃ r s', RetL P g args s r s' ∧ (wfV 8 r → wfL s' → K r s')) ∨ C := .inr (.inl ⟨r, s', h, k⟩)
theorem fVk {n : Nat} {v : V} {K : V → Prop} (h : K v) : fV n v K := by rw [fV_eq]; exact h
theorem fWk {n : Nat} {v : V} {K : V → Prop} (h : K v) : fW n v K := by rw [fW_eq]; exact h
theorem pickk : ∀ {cs : List Nat} {n : Nat} {K : Nat → Prop}, K n → pickN cs n K
  | [], _, _, h => h
  | c :: cs, n, K, h => by
    simp only [pickN]
    cases q : Nat.beq c n
    · exact pickk h
    · rw [Nat.eq_of_beq_eq_true q]; exact h
theorem pickk0 {cs : List Nat} {c n : Nat} {K : Nat → Prop} (h : K n) : pickN (c :: cs) n K := pickk h
theorem fLk {s : List O} {K : List O → Prop} (h : K s) : fL fO s K := by rw [fL_eq fO_eq]; exact h
theorem nilk {p A B : Prop} (a : p → A) (b : B) : (p → A) ∧ B := ⟨a, b⟩
theorem sda {p q : Prop} (h : p) (k : q) : Sd p ∧ q := ⟨⟨h⟩, k⟩
theorem conk {els : List (List V)} {i : Nat} {c : List V} {K : List V → Prop} (h : els[i]? = some c) (k : K c) : ∀ cs, els[i]? = some cs → K cs := fun cs hcs => by
  rw [h] at hcs
  rw [← Option.some.inj hcs]
  exact k
theorem ldk {o : Option V} {w : V} {K : V → Prop} (h : o = some w) (k : K w) : ∀ v, o = some v → K v := fun v hv => by
  rw [h] at hv
  rw [← Option.some.inj hv]
  exact k
theorem mapk {α : Type} {l : List α} {f : α → List V} {i : Nat} {K : List V → Prop} (h : ∀ x, l[i]? = some x → K (f x)) : ∀ cs, (l.map f)[i]? = some cs → K cs := fun cs hcs => by
  rw [List.getElem?_map] at hcs
  cases hx : l[i]? with
  | none => rw [hx] at hcs; cases hcs
  | some x => rw [hx] at hcs; obtain rfl := Option.some.inj hcs; exact h x hx
theorem eqk {α : Type} {o : Option α} {w : α} {K : α → Prop} (h : o = some w) (k : K w) : ∀ v, o = some v → K v := fun v hv => by
  rw [h] at hv
  rw [← Option.some.inj hv]
  exact k
theorem leftk1 {es : List (Nat × V × V)} {seen : List Nat} {a : Nat × V × V} {K : Nat × V × V → Prop} (h : leftM es seen = [a]) (k : K a) : ∀ y, y ∈ leftM es seen → K y := fun y hy => by
  rw [h, List.mem_singleton] at hy
  rw [hy]
  exact k
theorem leftk0 {es : List (Nat × V × V)} {seen : List Nat} {K : Nat × V × V → Prop} (h : leftM es seen = []) : ∀ y, y ∈ leftM es seen → K y := fun y hy => by
  rw [h] at hy
  cases hy
theorem bytk {els : List (List V)} {l : List Int} {K : List Int → Prop} (h : bytesV els = some l) (k : K l) : (∀ l, bytesV els = some l → K l) ∧ Sd ((bytesV els).isSome = true) := by
  refine ⟨fun l' hl => ?_, ⟨by rw [h]; rfl⟩⟩
  rw [h] at hl
  rw [← Option.some.inj hl]
  exact k
theorem bytk8 {els : List (List V)} {c : List UInt8} {K : List Int → Prop} (h : els = c.map fun c => [V.int .u8 c.toNat]) (k : K (c.map fun c => (c.toNat : Int))) : (∀ l, bytesV els = some l → K l) ∧ Sd ((bytesV els).isSome = true) :=
  bytk (h ▸ bytesV_map (fun c : UInt8 => (c.toNat : Int)) c) k
theorem w64 {n : Int} (h : -9223372036854775808 ≤ n ∧ n ≤ 9223372036854775807) : IntKind.i64.wrap n = n := (wrap_iff .i64 n).2 (by simp only [kLo, kHi]; omega)
end Go.Proofs.Ytlognebkifjfbaa

/- Files: names, and worlds of them. -/
set_option maxRecDepth 100000
set_option linter.all false
namespace Go.Proofs.Ytlognebkifjfbaa
open Ab R
def okB (c : UInt8) : Bool := decide (33 ≤ c.toNat) && decide (c.toNat ≤ 126)
/-- Which names are good. -/
def gnm (s : ByteArray) : Bool := s.data.toList.all okB && (decide (1 ≤ s.size) && decide (s.size ≤ 24))
theorem gnm_no {s : ByteArray} {i : Nat} {c : UInt8} (h : s.data.toList[i]? = some c) (hc : okB c = false) : gnm s = false := by
  unfold gnm
  have : s.data.toList.all okB = false := by
    rw [List.all_eq_false]
    exact ⟨c, List.mem_of_getElem? h, by simp [hc]⟩
  rw [this]
  rfl
theorem size_pos (s : ByteArray) : (s = ⟨#[]⟩) = (s.size = 0) := by
  rw [eq_iff_iff]
  constructor
  · rintro rfl; rfl
  · intro h
    cases s with
    | mk d => congr 1; exact Array.eq_empty_of_size_eq_zero h
theorem files_Good (s : ByteArray) (hs : s.size ≤ 140737488355327) : Ret Try.prog F_files_Good [.str s] (.bool (gnm s)) := by
  refine r_files_Good rfl fun hw => ?_
  clear hw
  repeat' ((conv => whnf); (first | refine csp (fun h => ?_) (fun h => ?_) | (refine sda ?_ ?_; (focus (first | rfl | (simp; done)))) | refine sda ?_ ?_ | refine conk rfl ?_ | refine ldk rfl ?_ | refine mapk (fun x hx => ?_) | exact ⟨rfl, rfl⟩ | refine nilk (fun h => ?_) ?_ | intro hl))
  · exact hs
  have hlen : s.data.toList.length = s.size := Array.length_toList
  rw [← hlen]
  refine .inl ⟨Nat, [0, 6, 7, 8], [0], fun i => [(0, .str s), (6, .sl 0 0 s.data.toList.length), (7, .int .i64 s.data.toList.length), (8, .int .i64 i)], fun _ => [.arr true 1 (s.data.toList.map fun c => [.int .u8 c.toNat])], fun i => i ≤ s.data.toList.length ∧ (s.data.toList.take i).all okB = true, fun i => s.data.toList.length - i, rfl, ?_, fun i hi => ?_⟩
  · exact ⟨0, rfl, rfl, Nat.zero_le _, rfl⟩
  · obtain ⟨hi, h2⟩ := hi
    repeat' ((conv => whnf); (first | refine csp (fun h => ?_) (fun h => ?_) | (refine sda ?_ ?_; (focus (first | rfl | (simp; done)))) | refine sda ?_ ?_ | refine conk rfl ?_ | refine ldk rfl ?_ | refine mapk (fun x hx => ?_) | exact ⟨rfl, rfl⟩ | refine nilk (fun h => ?_) ?_ | intro hl))
    all_goals conv => whnf
    all_goals try simp only [decide_eq_true_eq, decide_eq_false_iff_not, Bool.not_eq_true', Bool.not_eq_false', List.length_map, Int.not_lt, Int.not_le, Decidable.not_not, gt_iff_lt, ge_iff_le] at *
    · omega
    · simp; omega
    · rw [gnm_no (i := i) (c := x) (by simpa using hx) (by simp [okB]; omega)]
    · rw [gnm_no (i := i) (c := x) (by simpa using hx) (by simp [okB]; omega)]
    · refine ⟨i + 1, ?_, by trivial, ⟨by have := (List.getElem?_eq_some_iff.1 hx).1; omega, ?_⟩, by have := (List.getElem?_eq_some_iff.1 hx).1; omega⟩
      · rw [w64 (n := (i : Int) + 1) (by omega)]
        rfl
      · rw [List.take_add_one, show s.data.toList[i]? = some x by simpa using hx]
        simp [h2, okB]
        omega
    · have h1 : s.data.toList.take i = s.data.toList := List.take_of_length_le (by omega)
      rw [h1] at h2
      rw [size_pos] at h
      congr 1
      simp only [gnm, h2, Bool.true_and]
      have : decide (1 ≤ s.size) = true := decide_eq_true (by omega)
      rw [this, Bool.true_and]
      rw [Bool.eq_iff_iff]
      simp
      omega
    · rw [size_pos] at h
      congr 1
      simp only [gnm]
      rw [h]
      simp
end Go.Proofs.Ytlognebkifjfbaa

/- FilesNone. -/
set_option maxRecDepth 100000
set_option linter.all false
namespace Go.Proofs.Ytlognebkifjfbaa
open Ab R
abbrev bV (l : List Int) : List (List V) := l.map fun n => [.int .u8 n]
theorem len1 : Ret Try.prog F_bits_Len [.int .u64 1] (.int .i64 1) := by
  refine r_bits_Len rfl fun hw => ?_
  clear hw
  repeat' ((conv => whnf); (first | refine csp (fun h => ?_) (fun h => ?_) | (apply clll; apply rl_bits_Len64 rfl) | (refine sda ?_ ?_; (focus (first | rfl | exact of_decide_eq_true rfl | (simp; done)))) | refine sda ?_ ?_ | refine conk rfl ?_ | refine ldk rfl ?_ | refine mapk (fun x hx => ?_) | exact ⟨rfl, rfl⟩ | refine nilk (fun h => absurd h (of_decide_eq_false rfl)) ?_ | refine nilk (fun h => absurd h (List.cons_ne_nil _ _)) ?_ | refine nilk (fun h => ?_) ?_ | exact rfl | refine leftk1 rfl ?_ | refine bytk8 rfl ?_ | refine bytk rfl ?_ | exact leftk0 rfl | refine eqk rfl ?_ | refine fLk ?_ | refine fVk ?_ | refine fWk ?_ | refine pickk0 ?_ | intro hl))
  all_goals exact of_decide_eq_true (by kernel_rfl)
theorem sort1 (s : ByteArray) : Ret Try.prog F_slices_Sort_string_string [.row false [[.str s]]] (.tup []) := by
  refine r_slices_Sort_string_string rfl fun hw => ?_
  clear hw
  repeat' ((conv => whnf); (first | refine csp (fun h => ?_) (fun h => ?_) | (apply clll; apply rl_slices_pdqsortOrdered_string rfl) | (apply clll; apply rl_slices_insertionSortOrdered_string rfl) | refine cllo (len1) (fun _ => ?_) | refine cll (len1) (fun _ => ?_) | refine Or.inr (Or.inl ⟨1, ?_⟩) | (refine sda ?_ ?_; (focus (first | rfl | exact of_decide_eq_true rfl | (simp; done)))) | refine sda ?_ ?_ | refine conk rfl ?_ | refine ldk rfl ?_ | refine mapk (fun x hx => ?_) | exact ⟨rfl, rfl⟩ | refine nilk (fun h => absurd h (of_decide_eq_false rfl)) ?_ | refine nilk (fun h => absurd h (List.cons_ne_nil _ _)) ?_ | refine nilk (fun h => ?_) ?_ | exact rfl | refine leftk1 rfl ?_ | refine bytk8 rfl ?_ | refine bytk rfl ?_ | exact leftk0 rfl | refine eqk rfl ?_ | refine fLk ?_ | refine fVk ?_ | refine fWk ?_ | refine pickk0 ?_ | intro hl))
  all_goals conv => whnf
theorem ref01_Same_t (e1 e2 : List (List V)) (l : List Int) (h1 : bytesV e1 = some l) (h2 : bytesV e2 = some l) : Ret Try.prog F_octavoref01_Same [.row false e1, .row false e2] (.bool true) := by
  refine r_octavoref01_Same rfl fun hw => ?_
  clear hw
  repeat' ((conv => whnf); (first | refine cllo () (fun _ => ?_) | refine cll () (fun _ => ?_) | refine csp (fun h => ?_) (fun h => ?_) | (refine sda ?_ ?_; (focus (first | rfl | exact of_decide_eq_true rfl | (simp; done)))) | refine sda ?_ ?_ | refine conk rfl ?_ | refine ldk rfl ?_ | refine mapk (fun x hx => ?_) | exact ⟨rfl, rfl⟩ | refine nilk (fun h => absurd h (of_decide_eq_false rfl)) ?_ | refine nilk (fun h => absurd h (List.cons_ne_nil _ _)) ?_ | refine nilk (fun h => ?_) ?_ | exact rfl | refine leftk1 rfl ?_ | refine bytk8 rfl ?_ | refine bytk rfl ?_ | exact leftk0 rfl | refine eqk rfl ?_ | refine fLk ?_ | refine fVk ?_ | refine fWk ?_ | refine pickk0 ?_ | intro hl))
  refine bytk h1 ?_
  repeat' ((conv => whnf); (first | refine cllo () (fun _ => ?_) | refine cll () (fun _ => ?_) | refine csp (fun h => ?_) (fun h => ?_) | (refine sda ?_ ?_; (focus (first | rfl | exact of_decide_eq_true rfl | (simp; done)))) | refine sda ?_ ?_ | refine conk rfl ?_ | refine ldk rfl ?_ | refine mapk (fun x hx => ?_) | exact ⟨rfl, rfl⟩ | refine nilk (fun h => absurd h (of_decide_eq_false rfl)) ?_ | refine nilk (fun h => absurd h (List.cons_ne_nil _ _)) ?_ | refine nilk (fun h => ?_) ?_ | exact rfl | refine leftk1 rfl ?_ | refine bytk8 rfl ?_ | refine bytk rfl ?_ | exact leftk0 rfl | refine eqk rfl ?_ | refine fLk ?_ | refine fVk ?_ | refine fWk ?_ | refine pickk0 ?_ | intro hl))
  refine bytk h2 ?_
  repeat' ((conv => whnf); (first | refine cllo () (fun _ => ?_) | refine cll () (fun _ => ?_) | refine csp (fun h => ?_) (fun h => ?_) | (refine sda ?_ ?_; (focus (first | rfl | exact of_decide_eq_true rfl | (simp; done)))) | refine sda ?_ ?_ | refine conk rfl ?_ | refine ldk rfl ?_ | refine mapk (fun x hx => ?_) | exact ⟨rfl, rfl⟩ | refine nilk (fun h => absurd h (of_decide_eq_false rfl)) ?_ | refine nilk (fun h => absurd h (List.cons_ne_nil _ _)) ?_ | refine nilk (fun h => ?_) ?_ | exact rfl | refine leftk1 rfl ?_ | refine bytk8 rfl ?_ | refine bytk rfl ?_ | exact leftk0 rfl | refine eqk rfl ?_ | refine fLk ?_ | refine fVk ?_ | refine fWk ?_ | refine pickk0 ?_ | intro hl))
  all_goals conv => whnf
  all_goals simp
theorem bytesV_id (l : List Int) : bytesV (bV l) = some l := by
  have := bytesV_map (fun n : Int => n) l
  rwa [List.map_id'] at this
/-- Facts about bytes as the walks spell them. -/
theorem bV_take (l : List Int) : List.take (([] : List (List V)).length + (bV l).length) (List.drop 0 ([] ++ bV l)) = bV l := by
  rw [List.nil_append, List.drop_zero, List.length_nil, Nat.zero_add, List.take_length]
theorem bV_ne {l : List Int} (h : l ≠ []) : (bV l).isEmpty = false := by
  cases l with
  | nil => exact absurd rfl h
  | cons a l => rfl
theorem bV_one (l : List Int) : ∀ e ∈ bV l, e.length = 1 := fun e he => by obtain ⟨x, _, rfl⟩ := List.mem_map.1 he; rfl
theorem bV_few {l : List Int} (h : l.length ≤ 1048576) : (([] : List (List V)).length + (bV l).length) * 2 ≤ 140737488355327 := by
  rw [List.length_map, List.length_nil]
  omega
theorem bV_pos {l : List Int} (h : l ≠ []) : ¬ ([] : List (List V)).length + (bV l).length = 0 := by
  cases l with
  | nil => exact absurd rfl h
  | cons a l => simp
end Go.Proofs.Ytlognebkifjfbaa

/- Files: the examples. -/
set_option maxRecDepth 100000
set_option linter.all false
namespace Go.Proofs.Ytlognebkifjfbaa
open Ab R
set_option maxHeartbeats 4000000 in
theorem files_lives : Ret Try.prog F_octavolaw01_lives [] (.bool true) := by
  refine r_octavolaw01_lives rfl fun hw => ?_
  clear hw
  repeat' ((conv => whnf); (first | refine csp (fun h => ?_) (fun h => ?_) | refine cllo (files_Good _ (by decide)) (fun _ => ?_) | refine cll (files_Good _ (by decide)) (fun _ => ?_) | (apply clll; apply rl_files_New rfl) | (apply clll; apply rl_files_World_Create rfl) | (apply clll; apply rl_files_World_Append rfl) | (apply clll; apply rl_files_World_Sync rfl) | (apply clll; apply rl_files_World_Cut rfl) | (apply clll; apply rl_files_World_Power rfl) | (apply clll; apply rl_files_World_Read rfl) | (apply clll; apply rl_files_World_Ops rfl) | (apply clll; apply rl_files_World_may rfl) | (apply clll; apply rl_files_World_made rfl) | (apply clll; apply rl_files_World_there rfl) | (apply clll; apply rl_files_World_operation rfl) | (apply clll; apply rl_files_World_Create_1 rfl) | (apply clll; apply rl_files_World_Append_1 rfl) | (apply clll; apply rl_files_World_Sync_1 rfl) | (apply clll; apply rl_files_World_fail rfl) | (apply clll; apply rl_slices_Clone_byte_byte rfl) | refine Or.inr (Or.inl ⟨9, ?_⟩) | (refine sda ?_ ?_; (focus (first | rfl | exact of_decide_eq_true rfl | (simp; done)))) | refine sda ?_ ?_ | refine conk rfl ?_ | refine ldk rfl ?_ | refine mapk (fun x hx => ?_) | exact ⟨rfl, rfl⟩ | refine nilk (fun h => absurd h (of_decide_eq_false rfl)) ?_ | refine nilk (fun h => absurd h (List.cons_ne_nil _ _)) ?_ | refine nilk (fun h => ?_) ?_ | exact rfl | refine leftk1 rfl ?_ | refine bytk8 rfl ?_ | refine bytk rfl ?_ | exact leftk0 rfl | refine eqk rfl ?_ | refine fLk ?_ | refine fVk ?_ | refine fWk ?_ | refine pickk0 ?_ | intro hl))
end Go.Proofs.Ytlognebkifjfbaa

/- FilesMoves. -/
set_option maxRecDepth 100000
set_option linter.all false
namespace Go.Proofs.Ytlognebkifjfbaa
open Ab R
set_option maxHeartbeats 4000000 in
theorem moves_bad (fl : Ret Try.prog F_octavolaw01_lives [] (.bool true)) (a b : ByteArray) (ha : a.size ≤ 140737488351232) (hb : b.size ≤ 140737488351232) (data : List Int) (hg : gnm a = false) : Ret Try.prog F_octavolaw01_FilesMoves [.str a, .str b, .row false (bV data)] (.bool true) := by
  have hA := files_Good a (by omega)
  rw [hg] at hA
  refine r_octavolaw01_FilesMoves rfl fun hw => ?_
  clear hw
  repeat' ((conv => whnf); (first | refine csp (fun h => ?_) (fun h => ?_) | refine cllo (hA) (fun _ => ?_) | refine cll (hA) (fun _ => ?_) | (apply clll; apply rl_files_New rfl) | (apply clll; apply rl_files_World_Rename rfl) | (apply clll; apply rl_files_World_may rfl) | (apply clll; apply rl_files_World_made rfl) | refine cllo (fl) (fun _ => ?_) | refine cll (fl) (fun _ => ?_) | refine Or.inr (Or.inl ⟨3, ?_⟩) | (refine sda ?_ ?_; (focus (first | rfl | exact of_decide_eq_true rfl | (simp; done)))) | refine sda ?_ ?_ | refine conk rfl ?_ | refine ldk rfl ?_ | refine mapk (fun x hx => ?_) | exact ⟨rfl, rfl⟩ | refine nilk (fun h => absurd h (of_decide_eq_false rfl)) ?_ | refine nilk (fun h => absurd h (List.cons_ne_nil _ _)) ?_ | refine nilk (fun h => ?_) ?_ | exact rfl | refine leftk1 rfl ?_ | refine bytk8 rfl ?_ | refine bytk rfl ?_ | exact leftk0 rfl | refine eqk rfl ?_ | refine fLk ?_ | refine fVk ?_ | refine fWk ?_ | refine pickk0 ?_ | intro hl))
  all_goals conv => whnf
set_option maxHeartbeats 4000000 in
theorem moves_bad2 (fl : Ret Try.prog F_octavolaw01_lives [] (.bool true)) (a b : ByteArray) (ha : a.size ≤ 140737488351232) (hb : b.size ≤ 140737488351232) (data : List Int) (hg : gnm a = true) (hg2 : gnm b = false) : Ret Try.prog F_octavolaw01_FilesMoves [.str a, .str b, .row false (bV data)] (.bool true) := by
  have hA := files_Good a (by omega)
  rw [hg] at hA
  have hB := files_Good b (by omega)
  rw [hg2] at hB
  refine r_octavolaw01_FilesMoves rfl fun hw => ?_
  clear hw
  repeat' ((conv => whnf); (first | refine csp (fun h => ?_) (fun h => ?_) | refine cllo (hA) (fun _ => ?_) | refine cll (hA) (fun _ => ?_) | refine cllo (hB) (fun _ => ?_) | refine cll (hB) (fun _ => ?_) | (apply clll; apply rl_files_New rfl) | (apply clll; apply rl_files_World_Rename rfl) | (apply clll; apply rl_files_World_may rfl) | (apply clll; apply rl_files_World_made rfl) | refine cllo (fl) (fun _ => ?_) | refine cll (fl) (fun _ => ?_) | refine Or.inr (Or.inl ⟨3, ?_⟩) | (refine sda ?_ ?_; (focus (first | rfl | exact of_decide_eq_true rfl | (simp; done)))) | refine sda ?_ ?_ | refine conk rfl ?_ | refine ldk rfl ?_ | refine mapk (fun x hx => ?_) | exact ⟨rfl, rfl⟩ | refine nilk (fun h => absurd h (of_decide_eq_false rfl)) ?_ | refine nilk (fun h => absurd h (List.cons_ne_nil _ _)) ?_ | refine nilk (fun h => ?_) ?_ | exact rfl | refine leftk1 rfl ?_ | refine bytk8 rfl ?_ | refine bytk rfl ?_ | exact leftk0 rfl | refine eqk rfl ?_ | refine fLk ?_ | refine fVk ?_ | refine fWk ?_ | refine pickk0 ?_ | intro hl))
  all_goals conv => whnf
set_option maxHeartbeats 4000000 in
theorem moves_big (fl : Ret Try.prog F_octavolaw01_lives [] (.bool true)) (a b : ByteArray) (ha : a.size ≤ 140737488351232) (hb : b.size ≤ 140737488351232) (data : List Int) (hg : gnm a = true) (hg2 : gnm b = true) (hd : 1048576 < data.length) : Ret Try.prog F_octavolaw01_FilesMoves [.str a, .str b, .row false (bV data)] (.bool true) := by
  have hA := files_Good a (by omega)
  rw [hg] at hA
  have hB := files_Good b (by omega)
  rw [hg2] at hB
  have h1 : decide (((bV data).length : Int) > 1048576) = true := decide_eq_true (by simp; omega)
  refine r_octavolaw01_FilesMoves rfl fun hw => ?_
  clear hw
  repeat' ((conv => whnf); (first | refine csp_t (h1) ?_ | refine csp (fun h => ?_) (fun h => ?_) | refine cllo (hA) (fun _ => ?_) | refine cll (hA) (fun _ => ?_) | refine cllo (hB) (fun _ => ?_) | refine cll (hB) (fun _ => ?_) | (apply clll; apply rl_files_New rfl) | (apply clll; apply rl_files_World_Rename rfl) | (apply clll; apply rl_files_World_may rfl) | (apply clll; apply rl_files_World_made rfl) | (apply clll; apply rl_files_World_there rfl) | refine cllo (fl) (fun _ => ?_) | refine cll (fl) (fun _ => ?_) | refine Or.inr (Or.inl ⟨3, ?_⟩) | (refine sda ?_ ?_; (focus (first | rfl | exact of_decide_eq_true rfl | (simp; done)))) | refine sda ?_ ?_ | refine conk rfl ?_ | refine ldk rfl ?_ | refine mapk (fun x hx => ?_) | exact ⟨rfl, rfl⟩ | refine nilk (fun h => absurd h (of_decide_eq_false rfl)) ?_ | refine nilk (fun h => absurd h (List.cons_ne_nil _ _)) ?_ | refine nilk (fun h => ?_) ?_ | exact rfl | refine leftk1 rfl ?_ | refine bytk8 rfl ?_ | refine bytk rfl ?_ | exact leftk0 rfl | refine eqk rfl ?_ | refine fLk ?_ | refine fVk ?_ | refine fWk ?_ | refine pickk0 ?_ | intro hl))
  all_goals conv => whnf
end Go.Proofs.Ytlognebkifjfbaa

/- FilesMoves. -/
set_option maxRecDepth 100000
set_option linter.all false
namespace Go.Proofs.Ytlognebkifjfbaa
open Ab R
set_option maxHeartbeats 8000000 in
theorem moves_nil (fl : Ret Try.prog F_octavolaw01_lives [] (.bool true)) (a b : ByteArray) (ha : a.size ≤ 140737488351232) (hb : b.size ≤ 140737488351232) (hg : gnm a = true) (hg2 : gnm b = true) (hab : ¬ a = b) : Ret Try.prog F_octavolaw01_FilesMoves [.str a, .str b, .row false (bV [])] (.bool true) := by
  have hA := files_Good a (by omega)
  rw [hg] at hA
  have hB := files_Good b (by omega)
  rw [hg2] at hB
  have h3 := decide_eq_false hab
  have hs := ref01_Same_t [] [] [] rfl rfl
  refine r_octavolaw01_FilesMoves rfl fun hw => ?_
  clear hw
  repeat' ((conv => whnf); (first | refine csp_f (h3) ?_ | refine csp_t (decide_eq_true rfl) ?_ | refine csp (fun h => ?_) (fun h => ?_) | refine cllo (hA) (fun _ => ?_) | refine cll (hA) (fun _ => ?_) | refine cllo (hB) (fun _ => ?_) | refine cll (hB) (fun _ => ?_) | (apply clll; apply rl_files_New rfl) | (apply clll; apply rl_files_World_Create rfl) | (apply clll; apply rl_files_World_Append rfl) | (apply clll; apply rl_files_World_operation rfl) | (apply clll; apply rl_files_World_Create_1 rfl) | (apply clll; apply rl_files_World_Append_1 rfl) | (apply clll; apply rl_files_World_Rename rfl) | (apply clll; apply rl_files_World_Rename_1 rfl) | (apply clll; apply rl_files_World_Read rfl) | (apply clll; apply rl_files_World_Names rfl) | (apply clll; apply rl_files_World_may rfl) | (apply clll; apply rl_files_World_made rfl) | (apply clll; apply rl_files_World_there rfl) | (apply clll; apply rl_slices_Clone_byte_byte rfl) | refine cllo (sort1 _) (fun _ => ?_) | refine cll (sort1 _) (fun _ => ?_) | refine cllo (hs) (fun _ => ?_) | refine cll (hs) (fun _ => ?_) | refine cllo (fl) (fun _ => ?_) | refine cll (fl) (fun _ => ?_) | refine Or.inr (Or.inl ⟨3, ?_⟩) | (refine sda ?_ ?_; (focus (first | rfl | exact of_decide_eq_true rfl | (simp; done)))) | refine sda ?_ ?_ | refine conk rfl ?_ | refine ldk rfl ?_ | refine mapk (fun x hx => ?_) | exact ⟨rfl, rfl⟩ | refine nilk (fun h => absurd h (of_decide_eq_false rfl)) ?_ | refine nilk (fun h => absurd h (List.cons_ne_nil _ _)) ?_ | refine nilk (fun h => ?_) ?_ | exact rfl | refine leftk1 rfl ?_ | refine bytk8 rfl ?_ | refine bytk rfl ?_ | exact leftk0 rfl | refine eqk rfl ?_ | refine fLk ?_ | refine fVk ?_ | refine fWk ?_ | refine pickk0 ?_ | intro hl))
  all_goals conv => whnf
set_option maxHeartbeats 8000000 in
theorem moves_cons (fl : Ret Try.prog F_octavolaw01_lives [] (.bool true)) (a b : ByteArray) (ha : a.size ≤ 140737488351232) (hb : b.size ≤ 140737488351232) (data : List Int) (hg : gnm a = true) (hg2 : gnm b = true) (hd : data.length ≤ 1048576) (hne : data ≠ []) (hab : ¬ a = b) : Ret Try.prog F_octavolaw01_FilesMoves [.str a, .str b, .row false (bV data)] (.bool true) := by
  have hA := files_Good a (by omega)
  rw [hg] at hA
  have hB := files_Good b (by omega)
  rw [hg2] at hB
  have h3 := decide_eq_false hab
  have h1 : decide (((bV data).length : Int) > 1048576) = false := decide_eq_false (by rw [List.length_map]; omega)
  have h2 : decide (((bV data).length : Int) > IntKind.i64.wrap (1048576 - (([] : List (List V)).length : Int))) = false := decide_eq_false (by rw [List.length_map]; show ¬ ((data.length : Int) > 1048576); omega)
  have h4 := bV_ne hne
  have h5 := bV_one data
  have h6 := bV_few hd
  have h7 := bV_pos hne
  have h8 : (List.take (([] : List (List V)).length + (bV data).length) (List.drop 0 ([] ++ bV data))).isEmpty = false := by rw [bV_take]; exact h4
  have h9 : ∀ e ∈ List.take (([] : List (List V)).length + (bV data).length) (List.drop 0 ([] ++ bV data)), e.length = 1 := by rw [bV_take]; exact h5
  have h10 : (([] : List (List V)).length + (List.take (([] : List (List V)).length + (bV data).length) (List.drop 0 ([] ++ bV data))).length) * 2 ≤ 140737488355327 := by rw [bV_take]; exact h6
  have hs := ref01_Same_t (List.take (([] : List (List V)).length + (List.take (([] : List (List V)).length + (bV data).length) (List.drop 0 ([] ++ bV data))).length) (List.drop 0 ([] ++ List.take (([] : List (List V)).length + (bV data).length) (List.drop 0 ([] ++ bV data))))) (bV data) data (by rw [bV_take, bV_take]; exact bytesV_id data) (bytesV_id data)
  refine r_octavolaw01_FilesMoves rfl fun hw => ?_
  clear hw
  repeat' ((conv => whnf); (first | refine csp_f (h3) ?_ | refine csp_f (h1) ?_ | refine csp_f (h2) ?_ | refine csp_f (h4) ?_ | refine sda (h5) ?_ | refine sda (h6) ?_ | refine nilk (fun h => absurd h (h7)) ?_ | refine csp_f (h8) ?_ | refine sda (h9) ?_ | refine sda (h10) ?_ | refine csp_t (decide_eq_true rfl) ?_ | refine csp (fun h => ?_) (fun h => ?_) | refine cllo (hA) (fun _ => ?_) | refine cll (hA) (fun _ => ?_) | refine cllo (hB) (fun _ => ?_) | refine cll (hB) (fun _ => ?_) | (apply clll; apply rl_files_New rfl) | (apply clll; apply rl_files_World_Create rfl) | (apply clll; apply rl_files_World_Append rfl) | (apply clll; apply rl_files_World_operation rfl) | (apply clll; apply rl_files_World_Create_1 rfl) | (apply clll; apply rl_files_World_Append_1 rfl) | (apply clll; apply rl_files_World_Rename rfl) | (apply clll; apply rl_files_World_Rename_1 rfl) | (apply clll; apply rl_files_World_Read rfl) | (apply clll; apply rl_files_World_Names rfl) | (apply clll; apply rl_files_World_may rfl) | (apply clll; apply rl_files_World_made rfl) | (apply clll; apply rl_files_World_there rfl) | (apply clll; apply rl_slices_Clone_byte_byte rfl) | refine cllo (sort1 _) (fun _ => ?_) | refine cll (sort1 _) (fun _ => ?_) | refine cllo (hs) (fun _ => ?_) | refine cll (hs) (fun _ => ?_) | refine cllo (fl) (fun _ => ?_) | refine cll (fl) (fun _ => ?_) | refine Or.inr (Or.inl ⟨3, ?_⟩) | (refine sda ?_ ?_; (focus (first | rfl | exact of_decide_eq_true rfl | (simp; done)))) | refine sda ?_ ?_ | refine conk rfl ?_ | refine ldk rfl ?_ | refine mapk (fun x hx => ?_) | exact ⟨rfl, rfl⟩ | refine nilk (fun h => absurd h (of_decide_eq_false rfl)) ?_ | refine nilk (fun h => absurd h (List.cons_ne_nil _ _)) ?_ | refine nilk (fun h => ?_) ?_ | exact rfl | refine leftk1 rfl ?_ | refine bytk8 rfl ?_ | refine bytk rfl ?_ | exact leftk0 rfl | refine eqk rfl ?_ | refine fLk ?_ | refine fVk ?_ | refine fWk ?_ | refine pickk0 ?_ | intro hl))
  all_goals conv => whnf
set_option maxHeartbeats 8000000 in
theorem moves_nil1 (fl : Ret Try.prog F_octavolaw01_lives [] (.bool true)) (a : ByteArray) (ha : a.size ≤ 140737488351232) (hg : gnm a = true) : Ret Try.prog F_octavolaw01_FilesMoves [.str a, .str a, .row false (bV [])] (.bool true) := by
  have hA := files_Good a (by omega)
  rw [hg] at hA
  have hs := ref01_Same_t [] [] [] rfl rfl
  refine r_octavolaw01_FilesMoves rfl fun hw => ?_
  clear hw
  repeat' ((conv => whnf); (first | refine csp_t (decide_eq_true rfl) ?_ | refine csp (fun h => ?_) (fun h => ?_) | refine cllo (hA) (fun _ => ?_) | refine cll (hA) (fun _ => ?_) | (apply clll; apply rl_files_New rfl) | (apply clll; apply rl_files_World_Create rfl) | (apply clll; apply rl_files_World_Append rfl) | (apply clll; apply rl_files_World_operation rfl) | (apply clll; apply rl_files_World_Create_1 rfl) | (apply clll; apply rl_files_World_Append_1 rfl) | (apply clll; apply rl_files_World_Rename rfl) | (apply clll; apply rl_files_World_Rename_1 rfl) | (apply clll; apply rl_files_World_Read rfl) | (apply clll; apply rl_files_World_Names rfl) | (apply clll; apply rl_files_World_may rfl) | (apply clll; apply rl_files_World_made rfl) | (apply clll; apply rl_files_World_there rfl) | (apply clll; apply rl_slices_Clone_byte_byte rfl) | refine cllo (sort1 _) (fun _ => ?_) | refine cll (sort1 _) (fun _ => ?_) | refine cllo (hs) (fun _ => ?_) | refine cll (hs) (fun _ => ?_) | refine cllo (fl) (fun _ => ?_) | refine cll (fl) (fun _ => ?_) | refine Or.inr (Or.inl ⟨3, ?_⟩) | (refine sda ?_ ?_; (focus (first | rfl | exact of_decide_eq_true rfl | (simp; done)))) | refine sda ?_ ?_ | refine conk rfl ?_ | refine ldk rfl ?_ | refine mapk (fun x hx => ?_) | exact ⟨rfl, rfl⟩ | refine nilk (fun h => absurd h (of_decide_eq_false rfl)) ?_ | refine nilk (fun h => absurd h (List.cons_ne_nil _ _)) ?_ | refine nilk (fun h => ?_) ?_ | exact rfl | refine leftk1 rfl ?_ | refine bytk8 rfl ?_ | refine bytk rfl ?_ | exact leftk0 rfl | refine eqk rfl ?_ | refine fLk ?_ | refine fVk ?_ | refine fWk ?_ | refine pickk0 ?_ | intro hl))
  all_goals conv => whnf
set_option maxHeartbeats 8000000 in
theorem moves_cons1 (fl : Ret Try.prog F_octavolaw01_lives [] (.bool true)) (a : ByteArray) (ha : a.size ≤ 140737488351232) (data : List Int) (hg : gnm a = true) (hd : data.length ≤ 1048576) (hne : data ≠ []) : Ret Try.prog F_octavolaw01_FilesMoves [.str a, .str a, .row false (bV data)] (.bool true) := by
  have hA := files_Good a (by omega)
  rw [hg] at hA
  have h1 : decide (((bV data).length : Int) > 1048576) = false := decide_eq_false (by rw [List.length_map]; omega)
  have h2 : decide (((bV data).length : Int) > IntKind.i64.wrap (1048576 - (([] : List (List V)).length : Int))) = false := decide_eq_false (by rw [List.length_map]; show ¬ ((data.length : Int) > 1048576); omega)
  have h4 := bV_ne hne
  have h5 := bV_one data
  have h6 := bV_few hd
  have h7 := bV_pos hne
  have h8 : (List.take (([] : List (List V)).length + (bV data).length) (List.drop 0 ([] ++ bV data))).isEmpty = false := by rw [bV_take]; exact h4
  have h9 : ∀ e ∈ List.take (([] : List (List V)).length + (bV data).length) (List.drop 0 ([] ++ bV data)), e.length = 1 := by rw [bV_take]; exact h5
  have h10 : (([] : List (List V)).length + (List.take (([] : List (List V)).length + (bV data).length) (List.drop 0 ([] ++ bV data))).length) * 2 ≤ 140737488355327 := by rw [bV_take]; exact h6
  have hs := ref01_Same_t (List.take (([] : List (List V)).length + (List.take (([] : List (List V)).length + (bV data).length) (List.drop 0 ([] ++ bV data))).length) (List.drop 0 ([] ++ List.take (([] : List (List V)).length + (bV data).length) (List.drop 0 ([] ++ bV data))))) (bV data) data (by rw [bV_take, bV_take]; exact bytesV_id data) (bytesV_id data)
  refine r_octavolaw01_FilesMoves rfl fun hw => ?_
  clear hw
  repeat' ((conv => whnf); (first | refine csp_f (h1) ?_ | refine csp_f (h2) ?_ | refine csp_f (h4) ?_ | refine sda (h5) ?_ | refine sda (h6) ?_ | refine nilk (fun h => absurd h (h7)) ?_ | refine csp_f (h8) ?_ | refine sda (h9) ?_ | refine sda (h10) ?_ | refine csp_t (decide_eq_true rfl) ?_ | refine csp (fun h => ?_) (fun h => ?_) | refine cllo (hA) (fun _ => ?_) | refine cll (hA) (fun _ => ?_) | (apply clll; apply rl_files_New rfl) | (apply clll; apply rl_files_World_Create rfl) | (apply clll; apply rl_files_World_Append rfl) | (apply clll; apply rl_files_World_operation rfl) | (apply clll; apply rl_files_World_Create_1 rfl) | (apply clll; apply rl_files_World_Append_1 rfl) | (apply clll; apply rl_files_World_Rename rfl) | (apply clll; apply rl_files_World_Rename_1 rfl) | (apply clll; apply rl_files_World_Read rfl) | (apply clll; apply rl_files_World_Names rfl) | (apply clll; apply rl_files_World_may rfl) | (apply clll; apply rl_files_World_made rfl) | (apply clll; apply rl_files_World_there rfl) | (apply clll; apply rl_slices_Clone_byte_byte rfl) | refine cllo (sort1 _) (fun _ => ?_) | refine cll (sort1 _) (fun _ => ?_) | refine cllo (hs) (fun _ => ?_) | refine cll (hs) (fun _ => ?_) | refine cllo (fl) (fun _ => ?_) | refine cll (fl) (fun _ => ?_) | refine Or.inr (Or.inl ⟨3, ?_⟩) | (refine sda ?_ ?_; (focus (first | rfl | exact of_decide_eq_true rfl | (simp; done)))) | refine sda ?_ ?_ | refine conk rfl ?_ | refine ldk rfl ?_ | refine mapk (fun x hx => ?_) | exact ⟨rfl, rfl⟩ | refine nilk (fun h => absurd h (of_decide_eq_false rfl)) ?_ | refine nilk (fun h => absurd h (List.cons_ne_nil _ _)) ?_ | refine nilk (fun h => ?_) ?_ | exact rfl | refine leftk1 rfl ?_ | refine bytk8 rfl ?_ | refine bytk rfl ?_ | exact leftk0 rfl | refine eqk rfl ?_ | refine fLk ?_ | refine fVk ?_ | refine fWk ?_ | refine pickk0 ?_ | intro hl))
  all_goals conv => whnf
end Go.Proofs.Ytlognebkifjfbaa

/- FilesMoves, whole. -/
set_option maxRecDepth 100000
set_option linter.all false
namespace Go.Proofs.Ytlognebkifjfbaa
open Ab R
theorem filesMoves_ret (a b : ByteArray) (data : List Int) (ha : a.size ≤ 140737488351232) (hb : b.size ≤ 140737488351232) (hd : data.length * 1 ≤ 140737488351232 ∧ data.length ≤ 9223372036854775807 ∧ ∀ x ∈ data, IntKind.u8.wrap x = x) :
    Ret Try.prog F_octavolaw01_FilesMoves [.str a, .str b, .row false (bV data)] (.bool true) := by
  cases hg : gnm a with
  | false => exact moves_bad files_lives a b ha hb data hg
  | true =>
    cases hg2 : gnm b with
    | false => exact moves_bad2 files_lives a b ha hb data hg hg2
    | true =>
      by_cases hbig : 1048576 < data.length
      · exact moves_big files_lives a b ha hb data hg hg2 hbig
      · by_cases hab : a = b
        · subst hab
          by_cases hn : data = []
          · subst hn
            exact moves_nil1 files_lives a ha hg
          · exact moves_cons1 files_lives a ha data hg (by omega) hn
        · by_cases hn : data = []
          · subst hn
            exact moves_nil files_lives a b ha hb hg hg2 hab
          · exact moves_cons files_lives a b ha hb data hg hg2 (by omega) hn hab
end Go.Proofs.Ytlognebkifjfbaa
