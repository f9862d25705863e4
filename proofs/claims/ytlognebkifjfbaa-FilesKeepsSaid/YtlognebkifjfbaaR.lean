/- Each function of the program: what is kept behind each of its pieces, and its own form of the rule. -/
import Derived.Test.YtlognebkifjfbaaCore1
import Derived.Test.YtlognebkifjfbaaProg
namespace Go.Proofs.Ytlognebkifjfbaa.R
open Go.Proofs.Ytlognebkifjfbaa.Ab
set_option maxRecDepth 20000
theorem mixed : Try.prog.follows .mixedOrders = true := by kernel_rfl

/-! ### octavo/octavolaw01.FilesKeeps: function 4 -/
/-- no loop -/
def h4 : List (List Nat) := [[0, 1, 2], [0, 1, 2, 7], [0, 1, 2, 7, 21], [6], [0, 1, 2, 7], [0, 1, 2, 7, 43], [6], [0, 1, 2, 7, 45], [6], [0, 1, 2, 7, 70], [6], [0, 1, 2, 7], [0, 1, 2, 7, 8], [0, 1, 2, 7, 8, 77], [0, 1, 7, 8], [0, 1, 8, 9, 10], [6]]
theorem rl4 {args : List V} {r : V} {s1 s2 : List O} (hn : args.length = 3) (hk : (∀ a ∈ args, wfV 8 a) → wfL s1 → awp s1.length Try.prog (at? h4) [(16, [], [(6, 9)])] (Try.f4.body.getD .skip) (finL Try.prog Try.f4.results.toList r s2 (keepG s1.length) true s1.length) (env0 args) s1) : RetL Try.prog 4 args s1 r s2 :=
  RetL.of mixed (at? h4) [(16, [], [(6, 9)])] Try.func4 rfl Try.call4 (by kernel_rfl) (by rw [hn]; exact of_decide_eq_true (by kernel_rfl)) (keepG s1.length) true hk
theorem rq4 {args : List V} {s1 : List O} {Q : V → List O → Prop} (hn : args.length = 3) (hk : (∀ a ∈ args, wfV 8 a) → wfL s1 → awp s1.length Try.prog (at? h4) [(16, [], [(6, 9)])] (Try.f4.body.getD .skip) (finQ Try.prog Try.f4.results.toList Q) (env0 args) s1) : RetQ Try.prog 4 args s1 Q :=
  RetQ.of mixed (at? h4) [(16, [], [(6, 9)])] Try.func4 rfl Try.call4 (by kernel_rfl) (by rw [hn]; exact of_decide_eq_true (by kernel_rfl)) hk
theorem r4 {args : List V} {r : V} (hn : args.length = 3) (hk : (∀ a ∈ args, wfV 8 a) → awp 0 Try.prog (at? h4) [(16, [], [(6, 9)])] (Try.f4.body.getD .skip) (finK Try.prog Try.f4.results.toList r) (env0 args) []) : Ret Try.prog 4 args r :=
  Ret.of mixed (at? h4) [(16, [], [(6, 9)])] Try.func4 rfl Try.call4 (by kernel_rfl) (by rw [hn]; exact of_decide_eq_true (by kernel_rfl)) hk

/-! ### octavo/files.Good: function 9 -/
/-- loop [0, 6, 7, 8] -/
def h9 : List (List Nat) := [[0], [0, 6, 7, 8], [0, 6, 7, 8, 9], [0, 4, 6, 7, 8], [0, 6, 7, 8, 17], [2], [0, 6, 7, 8], [2]]
theorem rl9 {args : List V} {r : V} {s1 s2 : List O} (hn : args.length = 1) (hk : (∀ a ∈ args, wfV 8 a) → wfL s1 → awp s1.length Try.prog (at? h9) [] (Try.f9.body.getD .skip) (finL Try.prog Try.f9.results.toList r s2 (keepG s1.length) true s1.length) (env0 args) s1) : RetL Try.prog 9 args s1 r s2 :=
  RetL.of mixed (at? h9) [] Try.func9 rfl Try.call9 (by kernel_rfl) (by rw [hn]; exact of_decide_eq_true (by kernel_rfl)) (keepG s1.length) true hk
theorem rq9 {args : List V} {s1 : List O} {Q : V → List O → Prop} (hn : args.length = 1) (hk : (∀ a ∈ args, wfV 8 a) → wfL s1 → awp s1.length Try.prog (at? h9) [] (Try.f9.body.getD .skip) (finQ Try.prog Try.f9.results.toList Q) (env0 args) s1) : RetQ Try.prog 9 args s1 Q :=
  RetQ.of mixed (at? h9) [] Try.func9 rfl Try.call9 (by kernel_rfl) (by rw [hn]; exact of_decide_eq_true (by kernel_rfl)) hk
theorem r9 {args : List V} {r : V} (hn : args.length = 1) (hk : (∀ a ∈ args, wfV 8 a) → awp 0 Try.prog (at? h9) [] (Try.f9.body.getD .skip) (finK Try.prog Try.f9.results.toList r) (env0 args) []) : Ret Try.prog 9 args r :=
  Ret.of mixed (at? h9) [] Try.func9 rfl Try.call9 (by kernel_rfl) (by rw [hn]; exact of_decide_eq_true (by kernel_rfl)) hk

/-! ### octavo/octavolaw01.lives: function 11 -/
/-- no loop -/
def h11 : List (List Nat) := [[], [1], [1, 24], [0], [1], [1], [1, 2], [1, 2], [1, 2, 3, 4], [0]]
theorem rl11 {args : List V} {r : V} {s1 s2 : List O} (hn : args.length = 0) (hk : (∀ a ∈ args, wfV 8 a) → wfL s1 → awp s1.length Try.prog (at? h11) [] (Try.f11.body.getD .skip) (finL Try.prog Try.f11.results.toList r s2 (keepG s1.length) true s1.length) (env0 args) s1) : RetL Try.prog 11 args s1 r s2 :=
  RetL.of mixed (at? h11) [] Try.func11 rfl Try.call11 (by kernel_rfl) (by rw [hn]; exact of_decide_eq_true (by kernel_rfl)) (keepG s1.length) true hk
theorem rq11 {args : List V} {s1 : List O} {Q : V → List O → Prop} (hn : args.length = 0) (hk : (∀ a ∈ args, wfV 8 a) → wfL s1 → awp s1.length Try.prog (at? h11) [] (Try.f11.body.getD .skip) (finQ Try.prog Try.f11.results.toList Q) (env0 args) s1) : RetQ Try.prog 11 args s1 Q :=
  RetQ.of mixed (at? h11) [] Try.func11 rfl Try.call11 (by kernel_rfl) (by rw [hn]; exact of_decide_eq_true (by kernel_rfl)) hk
theorem r11 {args : List V} {r : V} (hn : args.length = 0) (hk : (∀ a ∈ args, wfV 8 a) → awp 0 Try.prog (at? h11) [] (Try.f11.body.getD .skip) (finK Try.prog Try.f11.results.toList r) (env0 args) []) : Ret Try.prog 11 args r :=
  Ret.of mixed (at? h11) [] Try.func11 rfl Try.call11 (by kernel_rfl) (by rw [hn]; exact of_decide_eq_true (by kernel_rfl)) hk

/-! ### octavo/files.New: function 12 -/
/-- no loop -/
def h12 : List (List Nat) := [[], [0]]
theorem rl12 {args : List V} {r : V} {s1 s2 : List O} (hn : args.length = 0) (hk : (∀ a ∈ args, wfV 8 a) → wfL s1 → awp s1.length Try.prog (at? h12) [] (Try.f12.body.getD .skip) (finL Try.prog Try.f12.results.toList r s2 (keepG s1.length) true s1.length) (env0 args) s1) : RetL Try.prog 12 args s1 r s2 :=
  RetL.of mixed (at? h12) [] Try.func12 rfl Try.call12 (by kernel_rfl) (by rw [hn]; exact of_decide_eq_true (by kernel_rfl)) (keepG s1.length) true hk
theorem rq12 {args : List V} {s1 : List O} {Q : V → List O → Prop} (hn : args.length = 0) (hk : (∀ a ∈ args, wfV 8 a) → wfL s1 → awp s1.length Try.prog (at? h12) [] (Try.f12.body.getD .skip) (finQ Try.prog Try.f12.results.toList Q) (env0 args) s1) : RetQ Try.prog 12 args s1 Q :=
  RetQ.of mixed (at? h12) [] Try.func12 rfl Try.call12 (by kernel_rfl) (by rw [hn]; exact of_decide_eq_true (by kernel_rfl)) hk
theorem r12 {args : List V} {r : V} (hn : args.length = 0) (hk : (∀ a ∈ args, wfV 8 a) → awp 0 Try.prog (at? h12) [] (Try.f12.body.getD .skip) (finK Try.prog Try.f12.results.toList r) (env0 args) []) : Ret Try.prog 12 args r :=
  Ret.of mixed (at? h12) [] Try.func12 rfl Try.call12 (by kernel_rfl) (by rw [hn]; exact of_decide_eq_true (by kernel_rfl)) hk

/-! ### (*octavo/files.World).Create: function 13 -/
/-- no loop -/
def h13 : List (List Nat) := [[2, 3], [2, 3, 5], [2, 3, 5, 11], [4], [2, 3, 27], [4], [4]]
theorem rl13 {args : List V} {r : V} {s1 s2 : List O} (hn : args.length = 2) (hk : (∀ a ∈ args, wfV 8 a) → wfL s1 → awp s1.length Try.prog (at? h13) [] (Try.f13.body.getD .skip) (finL Try.prog Try.f13.results.toList r s2 (keepG s1.length) true s1.length) (env0 args) s1) : RetL Try.prog 13 args s1 r s2 :=
  RetL.of mixed (at? h13) [] Try.func13 rfl Try.call13 (by kernel_rfl) (by rw [hn]; exact of_decide_eq_true (by kernel_rfl)) (keepG s1.length) true hk
theorem rq13 {args : List V} {s1 : List O} {Q : V → List O → Prop} (hn : args.length = 2) (hk : (∀ a ∈ args, wfV 8 a) → wfL s1 → awp s1.length Try.prog (at? h13) [] (Try.f13.body.getD .skip) (finQ Try.prog Try.f13.results.toList Q) (env0 args) s1) : RetQ Try.prog 13 args s1 Q :=
  RetQ.of mixed (at? h13) [] Try.func13 rfl Try.call13 (by kernel_rfl) (by rw [hn]; exact of_decide_eq_true (by kernel_rfl)) hk
theorem r13 {args : List V} {r : V} (hn : args.length = 2) (hk : (∀ a ∈ args, wfV 8 a) → awp 0 Try.prog (at? h13) [] (Try.f13.body.getD .skip) (finK Try.prog Try.f13.results.toList r) (env0 args) []) : Ret Try.prog 13 args r :=
  Ret.of mixed (at? h13) [] Try.func13 rfl Try.call13 (by kernel_rfl) (by rw [hn]; exact of_decide_eq_true (by kernel_rfl)) hk

/-! ### (*octavo/files.World).Append: function 14 -/
/-- no loop -/
def h14 : List (List Nat) := [[0, 1, 2], [0, 1, 2, 7], [0, 1, 2, 7, 15], [6], [0, 2, 8, 9], [0, 2, 8, 9, 23], [6], [0, 2, 8, 27], [6], [0, 2], [0], [6]]
theorem rl14 {args : List V} {r : V} {s1 s2 : List O} (hn : args.length = 3) (hk : (∀ a ∈ args, wfV 8 a) → wfL s1 → awp s1.length Try.prog (at? h14) [] (Try.f14.body.getD .skip) (finL Try.prog Try.f14.results.toList r s2 (keepG s1.length) true s1.length) (env0 args) s1) : RetL Try.prog 14 args s1 r s2 :=
  RetL.of mixed (at? h14) [] Try.func14 rfl Try.call14 (by kernel_rfl) (by rw [hn]; exact of_decide_eq_true (by kernel_rfl)) (keepG s1.length) true hk
theorem rq14 {args : List V} {s1 : List O} {Q : V → List O → Prop} (hn : args.length = 3) (hk : (∀ a ∈ args, wfV 8 a) → wfL s1 → awp s1.length Try.prog (at? h14) [] (Try.f14.body.getD .skip) (finQ Try.prog Try.f14.results.toList Q) (env0 args) s1) : RetQ Try.prog 14 args s1 Q :=
  RetQ.of mixed (at? h14) [] Try.func14 rfl Try.call14 (by kernel_rfl) (by rw [hn]; exact of_decide_eq_true (by kernel_rfl)) hk
theorem r14 {args : List V} {r : V} (hn : args.length = 3) (hk : (∀ a ∈ args, wfV 8 a) → awp 0 Try.prog (at? h14) [] (Try.f14.body.getD .skip) (finK Try.prog Try.f14.results.toList r) (env0 args) []) : Ret Try.prog 14 args r :=
  Ret.of mixed (at? h14) [] Try.func14 rfl Try.call14 (by kernel_rfl) (by rw [hn]; exact of_decide_eq_true (by kernel_rfl)) hk

/-! ### (*octavo/files.World).Sync: function 15 -/
/-- no loop -/
def h15 : List (List Nat) := [[0, 1], [0, 1, 5], [0, 1, 5, 13], [4], [0, 6, 7], [0, 6, 7, 22], [4], [4]]
theorem rl15 {args : List V} {r : V} {s1 s2 : List O} (hn : args.length = 2) (hk : (∀ a ∈ args, wfV 8 a) → wfL s1 → awp s1.length Try.prog (at? h15) [] (Try.f15.body.getD .skip) (finL Try.prog Try.f15.results.toList r s2 (keepG s1.length) true s1.length) (env0 args) s1) : RetL Try.prog 15 args s1 r s2 :=
  RetL.of mixed (at? h15) [] Try.func15 rfl Try.call15 (by kernel_rfl) (by rw [hn]; exact of_decide_eq_true (by kernel_rfl)) (keepG s1.length) true hk
theorem rq15 {args : List V} {s1 : List O} {Q : V → List O → Prop} (hn : args.length = 2) (hk : (∀ a ∈ args, wfV 8 a) → wfL s1 → awp s1.length Try.prog (at? h15) [] (Try.f15.body.getD .skip) (finQ Try.prog Try.f15.results.toList Q) (env0 args) s1) : RetQ Try.prog 15 args s1 Q :=
  RetQ.of mixed (at? h15) [] Try.func15 rfl Try.call15 (by kernel_rfl) (by rw [hn]; exact of_decide_eq_true (by kernel_rfl)) hk
theorem r15 {args : List V} {r : V} (hn : args.length = 2) (hk : (∀ a ∈ args, wfV 8 a) → awp 0 Try.prog (at? h15) [] (Try.f15.body.getD .skip) (finK Try.prog Try.f15.results.toList r) (env0 args) []) : Ret Try.prog 15 args r :=
  Ret.of mixed (at? h15) [] Try.func15 rfl Try.call15 (by kernel_rfl) (by rw [hn]; exact of_decide_eq_true (by kernel_rfl)) hk

/-! ### (*octavo/files.World).Cut: function 16 -/
/-- no loop -/
def h16 : List (List Nat) := [[0, 1, 2], [0, 1, 2, 7], [6], [0, 1, 2, 11], [6], [0, 1, 2, 16], [0, 1, 2, 16], [6], [], [6]]
theorem rl16 {args : List V} {r : V} {s1 s2 : List O} (hn : args.length = 3) (hk : (∀ a ∈ args, wfV 8 a) → wfL s1 → awp s1.length Try.prog (at? h16) [] (Try.f16.body.getD .skip) (finL Try.prog Try.f16.results.toList r s2 (keepG s1.length) true s1.length) (env0 args) s1) : RetL Try.prog 16 args s1 r s2 :=
  RetL.of mixed (at? h16) [] Try.func16 rfl Try.call16 (by kernel_rfl) (by rw [hn]; exact of_decide_eq_true (by kernel_rfl)) (keepG s1.length) true hk
theorem rq16 {args : List V} {s1 : List O} {Q : V → List O → Prop} (hn : args.length = 3) (hk : (∀ a ∈ args, wfV 8 a) → wfL s1 → awp s1.length Try.prog (at? h16) [] (Try.f16.body.getD .skip) (finQ Try.prog Try.f16.results.toList Q) (env0 args) s1) : RetQ Try.prog 16 args s1 Q :=
  RetQ.of mixed (at? h16) [] Try.func16 rfl Try.call16 (by kernel_rfl) (by rw [hn]; exact of_decide_eq_true (by kernel_rfl)) hk
theorem r16 {args : List V} {r : V} (hn : args.length = 3) (hk : (∀ a ∈ args, wfV 8 a) → awp 0 Try.prog (at? h16) [] (Try.f16.body.getD .skip) (finK Try.prog Try.f16.results.toList r) (env0 args) []) : Ret Try.prog 16 args r :=
  Ret.of mixed (at? h16) [] Try.func16 rfl Try.call16 (by kernel_rfl) (by rw [hn]; exact of_decide_eq_true (by kernel_rfl)) hk

/-! ### (*octavo/files.World).On: function 17 -/
/-- no loop -/
def h17 : List (List Nat) := [[0], [2]]
theorem rl17 {args : List V} {r : V} {s1 s2 : List O} (hn : args.length = 1) (hk : (∀ a ∈ args, wfV 8 a) → wfL s1 → awp s1.length Try.prog (at? h17) [] (Try.f17.body.getD .skip) (finL Try.prog Try.f17.results.toList r s2 (keepG s1.length) true s1.length) (env0 args) s1) : RetL Try.prog 17 args s1 r s2 :=
  RetL.of mixed (at? h17) [] Try.func17 rfl Try.call17 (by kernel_rfl) (by rw [hn]; exact of_decide_eq_true (by kernel_rfl)) (keepG s1.length) true hk
theorem rq17 {args : List V} {s1 : List O} {Q : V → List O → Prop} (hn : args.length = 1) (hk : (∀ a ∈ args, wfV 8 a) → wfL s1 → awp s1.length Try.prog (at? h17) [] (Try.f17.body.getD .skip) (finQ Try.prog Try.f17.results.toList Q) (env0 args) s1) : RetQ Try.prog 17 args s1 Q :=
  RetQ.of mixed (at? h17) [] Try.func17 rfl Try.call17 (by kernel_rfl) (by rw [hn]; exact of_decide_eq_true (by kernel_rfl)) hk
theorem r17 {args : List V} {r : V} (hn : args.length = 1) (hk : (∀ a ∈ args, wfV 8 a) → awp 0 Try.prog (at? h17) [] (Try.f17.body.getD .skip) (finK Try.prog Try.f17.results.toList r) (env0 args) []) : Ret Try.prog 17 args r :=
  Ret.of mixed (at? h17) [] Try.func17 rfl Try.call17 (by kernel_rfl) (by rw [hn]; exact of_decide_eq_true (by kernel_rfl)) hk

/-! ### (*octavo/files.World).Power: function 18 -/
/-- no loop -/
def h18 : List (List Nat) := [[0, 3], []]
theorem rl18 {args : List V} {r : V} {s1 s2 : List O} (hn : args.length = 1) (hk : (∀ a ∈ args, wfV 8 a) → wfL s1 → awp s1.length Try.prog (at? h18) [] (Try.f18.body.getD .skip) (finL Try.prog Try.f18.results.toList r s2 (keepG s1.length) true s1.length) (env0 args) s1) : RetL Try.prog 18 args s1 r s2 :=
  RetL.of mixed (at? h18) [] Try.func18 rfl Try.call18 (by kernel_rfl) (by rw [hn]; exact of_decide_eq_true (by kernel_rfl)) (keepG s1.length) true hk
theorem rq18 {args : List V} {s1 : List O} {Q : V → List O → Prop} (hn : args.length = 1) (hk : (∀ a ∈ args, wfV 8 a) → wfL s1 → awp s1.length Try.prog (at? h18) [] (Try.f18.body.getD .skip) (finQ Try.prog Try.f18.results.toList Q) (env0 args) s1) : RetQ Try.prog 18 args s1 Q :=
  RetQ.of mixed (at? h18) [] Try.func18 rfl Try.call18 (by kernel_rfl) (by rw [hn]; exact of_decide_eq_true (by kernel_rfl)) hk
theorem r18 {args : List V} {r : V} (hn : args.length = 1) (hk : (∀ a ∈ args, wfV 8 a) → awp 0 Try.prog (at? h18) [] (Try.f18.body.getD .skip) (finK Try.prog Try.f18.results.toList r) (env0 args) []) : Ret Try.prog 18 args r :=
  Ret.of mixed (at? h18) [] Try.func18 rfl Try.call18 (by kernel_rfl) (by rw [hn]; exact of_decide_eq_true (by kernel_rfl)) hk

/-! ### (*octavo/files.World).Read: function 19 -/
/-- no loop -/
def h19 : List (List Nat) := [[0, 1], [0, 1, 6], [0, 1, 6, 14], [4, 5], [7, 8], [7, 8, 23], [4, 5], [4, 5]]
theorem rl19 {args : List V} {r : V} {s1 s2 : List O} (hn : args.length = 2) (hk : (∀ a ∈ args, wfV 8 a) → wfL s1 → awp s1.length Try.prog (at? h19) [] (Try.f19.body.getD .skip) (finL Try.prog Try.f19.results.toList r s2 (keepG s1.length) true s1.length) (env0 args) s1) : RetL Try.prog 19 args s1 r s2 :=
  RetL.of mixed (at? h19) [] Try.func19 rfl Try.call19 (by kernel_rfl) (by rw [hn]; exact of_decide_eq_true (by kernel_rfl)) (keepG s1.length) true hk
theorem rq19 {args : List V} {s1 : List O} {Q : V → List O → Prop} (hn : args.length = 2) (hk : (∀ a ∈ args, wfV 8 a) → wfL s1 → awp s1.length Try.prog (at? h19) [] (Try.f19.body.getD .skip) (finQ Try.prog Try.f19.results.toList Q) (env0 args) s1) : RetQ Try.prog 19 args s1 Q :=
  RetQ.of mixed (at? h19) [] Try.func19 rfl Try.call19 (by kernel_rfl) (by rw [hn]; exact of_decide_eq_true (by kernel_rfl)) hk
theorem r19 {args : List V} {r : V} (hn : args.length = 2) (hk : (∀ a ∈ args, wfV 8 a) → awp 0 Try.prog (at? h19) [] (Try.f19.body.getD .skip) (finK Try.prog Try.f19.results.toList r) (env0 args) []) : Ret Try.prog 19 args r :=
  Ret.of mixed (at? h19) [] Try.func19 rfl Try.call19 (by kernel_rfl) (by rw [hn]; exact of_decide_eq_true (by kernel_rfl)) hk

/-! ### octavo/octavoref01.Same: function 20 -/
/-- no loop -/
def h20 : List (List Nat) := [[0, 1], [4]]
theorem rl20 {args : List V} {r : V} {s1 s2 : List O} (hn : args.length = 2) (hk : (∀ a ∈ args, wfV 8 a) → wfL s1 → awp s1.length Try.prog (at? h20) [] (Try.f20.body.getD .skip) (finL Try.prog Try.f20.results.toList r s2 (keepG s1.length) true s1.length) (env0 args) s1) : RetL Try.prog 20 args s1 r s2 :=
  RetL.of mixed (at? h20) [] Try.func20 rfl Try.call20 (by kernel_rfl) (by rw [hn]; exact of_decide_eq_true (by kernel_rfl)) (keepG s1.length) true hk
theorem rq20 {args : List V} {s1 : List O} {Q : V → List O → Prop} (hn : args.length = 2) (hk : (∀ a ∈ args, wfV 8 a) → wfL s1 → awp s1.length Try.prog (at? h20) [] (Try.f20.body.getD .skip) (finQ Try.prog Try.f20.results.toList Q) (env0 args) s1) : RetQ Try.prog 20 args s1 Q :=
  RetQ.of mixed (at? h20) [] Try.func20 rfl Try.call20 (by kernel_rfl) (by rw [hn]; exact of_decide_eq_true (by kernel_rfl)) hk
theorem r20 {args : List V} {r : V} (hn : args.length = 2) (hk : (∀ a ∈ args, wfV 8 a) → awp 0 Try.prog (at? h20) [] (Try.f20.body.getD .skip) (finK Try.prog Try.f20.results.toList r) (env0 args) []) : Ret Try.prog 20 args r :=
  Ret.of mixed (at? h20) [] Try.func20 rfl Try.call20 (by kernel_rfl) (by rw [hn]; exact of_decide_eq_true (by kernel_rfl)) hk

/-! ### (*octavo/files.World).Ops: function 22 -/
/-- no loop -/
def h22 : List (List Nat) := [[0], [0, 5], [2], [2]]
theorem rl22 {args : List V} {r : V} {s1 s2 : List O} (hn : args.length = 1) (hk : (∀ a ∈ args, wfV 8 a) → wfL s1 → awp s1.length Try.prog (at? h22) [] (Try.f22.body.getD .skip) (finL Try.prog Try.f22.results.toList r s2 (keepG s1.length) true s1.length) (env0 args) s1) : RetL Try.prog 22 args s1 r s2 :=
  RetL.of mixed (at? h22) [] Try.func22 rfl Try.call22 (by kernel_rfl) (by rw [hn]; exact of_decide_eq_true (by kernel_rfl)) (keepG s1.length) true hk
theorem rq22 {args : List V} {s1 : List O} {Q : V → List O → Prop} (hn : args.length = 1) (hk : (∀ a ∈ args, wfV 8 a) → wfL s1 → awp s1.length Try.prog (at? h22) [] (Try.f22.body.getD .skip) (finQ Try.prog Try.f22.results.toList Q) (env0 args) s1) : RetQ Try.prog 22 args s1 Q :=
  RetQ.of mixed (at? h22) [] Try.func22 rfl Try.call22 (by kernel_rfl) (by rw [hn]; exact of_decide_eq_true (by kernel_rfl)) hk
theorem r22 {args : List V} {r : V} (hn : args.length = 1) (hk : (∀ a ∈ args, wfV 8 a) → awp 0 Try.prog (at? h22) [] (Try.f22.body.getD .skip) (finK Try.prog Try.f22.results.toList r) (env0 args) []) : Ret Try.prog 22 args r :=
  Ret.of mixed (at? h22) [] Try.func22 rfl Try.call22 (by kernel_rfl) (by rw [hn]; exact of_decide_eq_true (by kernel_rfl)) hk

/-! ### (*octavo/files.World).may: function 30 -/
/-- loop [16, 17, 18] -/
def h30 : List (List Nat) := [[0, 1], [0, 1, 7], [4], [1, 11], [4], [16, 17, 18], [16, 17, 18, 19], [6, 16, 17, 18], [16, 17, 18, 24], [4], [16, 17, 18], [4]]
theorem rl30 {args : List V} {r : V} {s1 s2 : List O} (hn : args.length = 2) (hk : (∀ a ∈ args, wfV 8 a) → wfL s1 → awp s1.length Try.prog (at? h30) [] (Try.f30.body.getD .skip) (finL Try.prog Try.f30.results.toList r s2 (keepG s1.length) true s1.length) (env0 args) s1) : RetL Try.prog 30 args s1 r s2 :=
  RetL.of mixed (at? h30) [] Try.func30 rfl Try.call30 (by kernel_rfl) (by rw [hn]; exact of_decide_eq_true (by kernel_rfl)) (keepG s1.length) true hk
theorem rq30 {args : List V} {s1 : List O} {Q : V → List O → Prop} (hn : args.length = 2) (hk : (∀ a ∈ args, wfV 8 a) → wfL s1 → awp s1.length Try.prog (at? h30) [] (Try.f30.body.getD .skip) (finQ Try.prog Try.f30.results.toList Q) (env0 args) s1) : RetQ Try.prog 30 args s1 Q :=
  RetQ.of mixed (at? h30) [] Try.func30 rfl Try.call30 (by kernel_rfl) (by rw [hn]; exact of_decide_eq_true (by kernel_rfl)) hk
theorem r30 {args : List V} {r : V} (hn : args.length = 2) (hk : (∀ a ∈ args, wfV 8 a) → awp 0 Try.prog (at? h30) [] (Try.f30.body.getD .skip) (finK Try.prog Try.f30.results.toList r) (env0 args) []) : Ret Try.prog 30 args r :=
  Ret.of mixed (at? h30) [] Try.func30 rfl Try.call30 (by kernel_rfl) (by rw [hn]; exact of_decide_eq_true (by kernel_rfl)) hk

/-! ### (*octavo/files.World).operation: function 31 -/
/-- no loop -/
def h31 : List (List Nat) := [[0, 1], [0, 1], [0, 1, 16], [0, 1], [0, 1, 28], [4], [], [4]]
theorem rl31 {args : List V} {r : V} {s1 s2 : List O} (hn : args.length = 2) (hk : (∀ a ∈ args, wfV 8 a) → wfL s1 → awp s1.length Try.prog (at? h31) [] (Try.f31.body.getD .skip) (finL Try.prog Try.f31.results.toList r s2 (keepG s1.length) true s1.length) (env0 args) s1) : RetL Try.prog 31 args s1 r s2 :=
  RetL.of mixed (at? h31) [] Try.func31 rfl Try.call31 (by kernel_rfl) (by rw [hn]; exact of_decide_eq_true (by kernel_rfl)) (keepG s1.length) true hk
theorem rq31 {args : List V} {s1 : List O} {Q : V → List O → Prop} (hn : args.length = 2) (hk : (∀ a ∈ args, wfV 8 a) → wfL s1 → awp s1.length Try.prog (at? h31) [] (Try.f31.body.getD .skip) (finQ Try.prog Try.f31.results.toList Q) (env0 args) s1) : RetQ Try.prog 31 args s1 Q :=
  RetQ.of mixed (at? h31) [] Try.func31 rfl Try.call31 (by kernel_rfl) (by rw [hn]; exact of_decide_eq_true (by kernel_rfl)) hk
theorem r31 {args : List V} {r : V} (hn : args.length = 2) (hk : (∀ a ∈ args, wfV 8 a) → awp 0 Try.prog (at? h31) [] (Try.f31.body.getD .skip) (finK Try.prog Try.f31.results.toList r) (env0 args) []) : Ret Try.prog 31 args r :=
  Ret.of mixed (at? h31) [] Try.func31 rfl Try.call31 (by kernel_rfl) (by rw [hn]; exact of_decide_eq_true (by kernel_rfl)) hk

/-! ### (*octavo/files.World).Create$1: function 32 -/
/-- no loop -/
def h32 : List (List Nat) := [[]]
theorem rl32 {args : List V} {r : V} {s1 s2 : List O} (hn : args.length = 2) (hk : (∀ a ∈ args, wfV 8 a) → wfL s1 → awp s1.length Try.prog (at? h32) [] (Try.f32.body.getD .skip) (finL Try.prog Try.f32.results.toList r s2 (keepG s1.length) true s1.length) (env0 args) s1) : RetL Try.prog 32 args s1 r s2 :=
  RetL.of mixed (at? h32) [] Try.func32 rfl Try.call32 (by kernel_rfl) (by rw [hn]; exact of_decide_eq_true (by kernel_rfl)) (keepG s1.length) true hk
theorem rq32 {args : List V} {s1 : List O} {Q : V → List O → Prop} (hn : args.length = 2) (hk : (∀ a ∈ args, wfV 8 a) → wfL s1 → awp s1.length Try.prog (at? h32) [] (Try.f32.body.getD .skip) (finQ Try.prog Try.f32.results.toList Q) (env0 args) s1) : RetQ Try.prog 32 args s1 Q :=
  RetQ.of mixed (at? h32) [] Try.func32 rfl Try.call32 (by kernel_rfl) (by rw [hn]; exact of_decide_eq_true (by kernel_rfl)) hk
theorem r32 {args : List V} {r : V} (hn : args.length = 2) (hk : (∀ a ∈ args, wfV 8 a) → awp 0 Try.prog (at? h32) [] (Try.f32.body.getD .skip) (finK Try.prog Try.f32.results.toList r) (env0 args) []) : Ret Try.prog 32 args r :=
  Ret.of mixed (at? h32) [] Try.func32 rfl Try.call32 (by kernel_rfl) (by rw [hn]; exact of_decide_eq_true (by kernel_rfl)) hk

/-! ### (*octavo/files.World).there: function 33 -/
/-- no loop -/
def h33 : List (List Nat) := [[0, 1], [6], [6, 14], [4, 5], [4, 5]]
theorem rl33 {args : List V} {r : V} {s1 s2 : List O} (hn : args.length = 2) (hk : (∀ a ∈ args, wfV 8 a) → wfL s1 → awp s1.length Try.prog (at? h33) [] (Try.f33.body.getD .skip) (finL Try.prog Try.f33.results.toList r s2 (keepG s1.length) true s1.length) (env0 args) s1) : RetL Try.prog 33 args s1 r s2 :=
  RetL.of mixed (at? h33) [] Try.func33 rfl Try.call33 (by kernel_rfl) (by rw [hn]; exact of_decide_eq_true (by kernel_rfl)) (keepG s1.length) true hk
theorem rq33 {args : List V} {s1 : List O} {Q : V → List O → Prop} (hn : args.length = 2) (hk : (∀ a ∈ args, wfV 8 a) → wfL s1 → awp s1.length Try.prog (at? h33) [] (Try.f33.body.getD .skip) (finQ Try.prog Try.f33.results.toList Q) (env0 args) s1) : RetQ Try.prog 33 args s1 Q :=
  RetQ.of mixed (at? h33) [] Try.func33 rfl Try.call33 (by kernel_rfl) (by rw [hn]; exact of_decide_eq_true (by kernel_rfl)) hk
theorem r33 {args : List V} {r : V} (hn : args.length = 2) (hk : (∀ a ∈ args, wfV 8 a) → awp 0 Try.prog (at? h33) [] (Try.f33.body.getD .skip) (finK Try.prog Try.f33.results.toList r) (env0 args) []) : Ret Try.prog 33 args r :=
  Ret.of mixed (at? h33) [] Try.func33 rfl Try.call33 (by kernel_rfl) (by rw [hn]; exact of_decide_eq_true (by kernel_rfl)) hk

/-! ### (*octavo/files.World).Append$1: function 34 -/
/-- no loop -/
def h34 : List (List Nat) := []
theorem rl34 {args : List V} {r : V} {s1 s2 : List O} (hn : args.length = 0) (hk : (∀ a ∈ args, wfV 8 a) → wfL s1 → awp s1.length Try.prog (at? h34) [] (Try.f34.body.getD .skip) (finL Try.prog Try.f34.results.toList r s2 (keepG s1.length) true s1.length) (env0 args) s1) : RetL Try.prog 34 args s1 r s2 :=
  RetL.of mixed (at? h34) [] Try.func34 rfl Try.call34 (by kernel_rfl) (by rw [hn]; exact of_decide_eq_true (by kernel_rfl)) (keepG s1.length) true hk
theorem rq34 {args : List V} {s1 : List O} {Q : V → List O → Prop} (hn : args.length = 0) (hk : (∀ a ∈ args, wfV 8 a) → wfL s1 → awp s1.length Try.prog (at? h34) [] (Try.f34.body.getD .skip) (finQ Try.prog Try.f34.results.toList Q) (env0 args) s1) : RetQ Try.prog 34 args s1 Q :=
  RetQ.of mixed (at? h34) [] Try.func34 rfl Try.call34 (by kernel_rfl) (by rw [hn]; exact of_decide_eq_true (by kernel_rfl)) hk
theorem r34 {args : List V} {r : V} (hn : args.length = 0) (hk : (∀ a ∈ args, wfV 8 a) → awp 0 Try.prog (at? h34) [] (Try.f34.body.getD .skip) (finK Try.prog Try.f34.results.toList r) (env0 args) []) : Ret Try.prog 34 args r :=
  Ret.of mixed (at? h34) [] Try.func34 rfl Try.call34 (by kernel_rfl) (by rw [hn]; exact of_decide_eq_true (by kernel_rfl)) hk

/-! ### (*octavo/files.World).Sync$1: function 35 -/
/-- no loop -/
def h35 : List (List Nat) := [[]]
theorem rl35 {args : List V} {r : V} {s1 s2 : List O} (hn : args.length = 1) (hk : (∀ a ∈ args, wfV 8 a) → wfL s1 → awp s1.length Try.prog (at? h35) [] (Try.f35.body.getD .skip) (finL Try.prog Try.f35.results.toList r s2 (keepG s1.length) true s1.length) (env0 args) s1) : RetL Try.prog 35 args s1 r s2 :=
  RetL.of mixed (at? h35) [] Try.func35 rfl Try.call35 (by kernel_rfl) (by rw [hn]; exact of_decide_eq_true (by kernel_rfl)) (keepG s1.length) true hk
theorem rq35 {args : List V} {s1 : List O} {Q : V → List O → Prop} (hn : args.length = 1) (hk : (∀ a ∈ args, wfV 8 a) → wfL s1 → awp s1.length Try.prog (at? h35) [] (Try.f35.body.getD .skip) (finQ Try.prog Try.f35.results.toList Q) (env0 args) s1) : RetQ Try.prog 35 args s1 Q :=
  RetQ.of mixed (at? h35) [] Try.func35 rfl Try.call35 (by kernel_rfl) (by rw [hn]; exact of_decide_eq_true (by kernel_rfl)) hk
theorem r35 {args : List V} {r : V} (hn : args.length = 1) (hk : (∀ a ∈ args, wfV 8 a) → awp 0 Try.prog (at? h35) [] (Try.f35.body.getD .skip) (finK Try.prog Try.f35.results.toList r) (env0 args) []) : Ret Try.prog 35 args r :=
  Ret.of mixed (at? h35) [] Try.func35 rfl Try.call35 (by kernel_rfl) (by rw [hn]; exact of_decide_eq_true (by kernel_rfl)) hk

/-! ### (*octavo/files.World).made: function 36 -/
/-- no loop -/
def h36 : List (List Nat) := [[0], [2]]
theorem rl36 {args : List V} {r : V} {s1 s2 : List O} (hn : args.length = 1) (hk : (∀ a ∈ args, wfV 8 a) → wfL s1 → awp s1.length Try.prog (at? h36) [] (Try.f36.body.getD .skip) (finL Try.prog Try.f36.results.toList r s2 (keepG s1.length) true s1.length) (env0 args) s1) : RetL Try.prog 36 args s1 r s2 :=
  RetL.of mixed (at? h36) [] Try.func36 rfl Try.call36 (by kernel_rfl) (by rw [hn]; exact of_decide_eq_true (by kernel_rfl)) (keepG s1.length) true hk
theorem rq36 {args : List V} {s1 : List O} {Q : V → List O → Prop} (hn : args.length = 1) (hk : (∀ a ∈ args, wfV 8 a) → wfL s1 → awp s1.length Try.prog (at? h36) [] (Try.f36.body.getD .skip) (finQ Try.prog Try.f36.results.toList Q) (env0 args) s1) : RetQ Try.prog 36 args s1 Q :=
  RetQ.of mixed (at? h36) [] Try.func36 rfl Try.call36 (by kernel_rfl) (by rw [hn]; exact of_decide_eq_true (by kernel_rfl)) hk
theorem r36 {args : List V} {r : V} (hn : args.length = 1) (hk : (∀ a ∈ args, wfV 8 a) → awp 0 Try.prog (at? h36) [] (Try.f36.body.getD .skip) (finK Try.prog Try.f36.results.toList r) (env0 args) []) : Ret Try.prog 36 args r :=
  Ret.of mixed (at? h36) [] Try.func36 rfl Try.call36 (by kernel_rfl) (by rw [hn]; exact of_decide_eq_true (by kernel_rfl)) hk

/-! ### slices.Clone[[]byte,byte]: function 37 -/
/-- no loop -/
def h37 : List (List Nat) := [[0], [0, 4], [2], [2]]
theorem rl37 {args : List V} {r : V} {s1 s2 : List O} (hn : args.length = 1) (hk : (∀ a ∈ args, wfV 8 a) → wfL s1 → awp s1.length Try.prog (at? h37) [] (Try.f37.body.getD .skip) (finL Try.prog Try.f37.results.toList r s2 (keepG s1.length) true s1.length) (env0 args) s1) : RetL Try.prog 37 args s1 r s2 :=
  RetL.of mixed (at? h37) [] Try.func37 rfl Try.call37 (by kernel_rfl) (by rw [hn]; exact of_decide_eq_true (by kernel_rfl)) (keepG s1.length) true hk
theorem rq37 {args : List V} {s1 : List O} {Q : V → List O → Prop} (hn : args.length = 1) (hk : (∀ a ∈ args, wfV 8 a) → wfL s1 → awp s1.length Try.prog (at? h37) [] (Try.f37.body.getD .skip) (finQ Try.prog Try.f37.results.toList Q) (env0 args) s1) : RetQ Try.prog 37 args s1 Q :=
  RetQ.of mixed (at? h37) [] Try.func37 rfl Try.call37 (by kernel_rfl) (by rw [hn]; exact of_decide_eq_true (by kernel_rfl)) hk
theorem r37 {args : List V} {r : V} (hn : args.length = 1) (hk : (∀ a ∈ args, wfV 8 a) → awp 0 Try.prog (at? h37) [] (Try.f37.body.getD .skip) (finK Try.prog Try.f37.results.toList r) (env0 args) []) : Ret Try.prog 37 args r :=
  Ret.of mixed (at? h37) [] Try.func37 rfl Try.call37 (by kernel_rfl) (by rw [hn]; exact of_decide_eq_true (by kernel_rfl)) hk

/-! ### (*octavo/files.World).fail: function 54 -/
/-- loop [0, 13] -/
def h54 : List (List Nat) := [[0], [0], [0, 13], [0, 13, 15], [0, 4, 13], [0, 4, 5, 13], [0, 4, 5, 13], [0, 13], [2]]
theorem rl54 {args : List V} {r : V} {s1 s2 : List O} (hn : args.length = 1) (hk : (∀ a ∈ args, wfV 8 a) → wfL s1 → awp s1.length Try.prog (at? h54) [] (Try.f54.body.getD .skip) (finL Try.prog Try.f54.results.toList r s2 (keepG s1.length) true s1.length) (env0 args) s1) : RetL Try.prog 54 args s1 r s2 :=
  RetL.of mixed (at? h54) [] Try.func54 rfl Try.call54 (by kernel_rfl) (by rw [hn]; exact of_decide_eq_true (by kernel_rfl)) (keepG s1.length) true hk
theorem rq54 {args : List V} {s1 : List O} {Q : V → List O → Prop} (hn : args.length = 1) (hk : (∀ a ∈ args, wfV 8 a) → wfL s1 → awp s1.length Try.prog (at? h54) [] (Try.f54.body.getD .skip) (finQ Try.prog Try.f54.results.toList Q) (env0 args) s1) : RetQ Try.prog 54 args s1 Q :=
  RetQ.of mixed (at? h54) [] Try.func54 rfl Try.call54 (by kernel_rfl) (by rw [hn]; exact of_decide_eq_true (by kernel_rfl)) hk
theorem r54 {args : List V} {r : V} (hn : args.length = 1) (hk : (∀ a ∈ args, wfV 8 a) → awp 0 Try.prog (at? h54) [] (Try.f54.body.getD .skip) (finK Try.prog Try.f54.results.toList r) (env0 args) []) : Ret Try.prog 54 args r :=
  Ret.of mixed (at? h54) [] Try.func54 rfl Try.call54 (by kernel_rfl) (by rw [hn]; exact of_decide_eq_true (by kernel_rfl)) hk
abbrev rq_octavolaw01_FilesKeeps := @rq4
abbrev rl_octavolaw01_FilesKeeps := @rl4
abbrev F_octavolaw01_FilesKeeps : FuncId := 4
abbrev r_octavolaw01_FilesKeeps := @r4
abbrev rq_files_Good := @rq9
abbrev rl_files_Good := @rl9
abbrev F_files_Good : FuncId := 9
abbrev r_files_Good := @r9
abbrev rq_octavolaw01_lives := @rq11
abbrev rl_octavolaw01_lives := @rl11
abbrev F_octavolaw01_lives : FuncId := 11
abbrev r_octavolaw01_lives := @r11
abbrev rq_files_New := @rq12
abbrev rl_files_New := @rl12
abbrev F_files_New : FuncId := 12
abbrev r_files_New := @r12
abbrev rq_files_World_Create := @rq13
abbrev rl_files_World_Create := @rl13
abbrev F_files_World_Create : FuncId := 13
abbrev r_files_World_Create := @r13
abbrev rq_files_World_Append := @rq14
abbrev rl_files_World_Append := @rl14
abbrev F_files_World_Append : FuncId := 14
abbrev r_files_World_Append := @r14
abbrev rq_files_World_Sync := @rq15
abbrev rl_files_World_Sync := @rl15
abbrev F_files_World_Sync : FuncId := 15
abbrev r_files_World_Sync := @r15
abbrev rq_files_World_Cut := @rq16
abbrev rl_files_World_Cut := @rl16
abbrev F_files_World_Cut : FuncId := 16
abbrev r_files_World_Cut := @r16
abbrev rq_files_World_On := @rq17
abbrev rl_files_World_On := @rl17
abbrev F_files_World_On : FuncId := 17
abbrev r_files_World_On := @r17
abbrev rq_files_World_Power := @rq18
abbrev rl_files_World_Power := @rl18
abbrev F_files_World_Power : FuncId := 18
abbrev r_files_World_Power := @r18
abbrev rq_files_World_Read := @rq19
abbrev rl_files_World_Read := @rl19
abbrev F_files_World_Read : FuncId := 19
abbrev r_files_World_Read := @r19
abbrev rq_octavoref01_Same := @rq20
abbrev rl_octavoref01_Same := @rl20
abbrev F_octavoref01_Same : FuncId := 20
abbrev r_octavoref01_Same := @r20
abbrev rq_files_World_Ops := @rq22
abbrev rl_files_World_Ops := @rl22
abbrev F_files_World_Ops : FuncId := 22
abbrev r_files_World_Ops := @r22
abbrev rq_files_World_may := @rq30
abbrev rl_files_World_may := @rl30
abbrev F_files_World_may : FuncId := 30
abbrev r_files_World_may := @r30
abbrev rq_files_World_operation := @rq31
abbrev rl_files_World_operation := @rl31
abbrev F_files_World_operation : FuncId := 31
abbrev r_files_World_operation := @r31
abbrev rq_files_World_Create_1 := @rq32
abbrev rl_files_World_Create_1 := @rl32
abbrev F_files_World_Create_1 : FuncId := 32
abbrev r_files_World_Create_1 := @r32
abbrev rq_files_World_there := @rq33
abbrev rl_files_World_there := @rl33
abbrev F_files_World_there : FuncId := 33
abbrev r_files_World_there := @r33
abbrev rq_files_World_Append_1 := @rq34
abbrev rl_files_World_Append_1 := @rl34
abbrev F_files_World_Append_1 : FuncId := 34
abbrev r_files_World_Append_1 := @r34
abbrev rq_files_World_Sync_1 := @rq35
abbrev rl_files_World_Sync_1 := @rl35
abbrev F_files_World_Sync_1 : FuncId := 35
abbrev r_files_World_Sync_1 := @r35
abbrev rq_files_World_made := @rq36
abbrev rl_files_World_made := @rl36
abbrev F_files_World_made : FuncId := 36
abbrev r_files_World_made := @r36
abbrev rq_slices_Clone_byte_byte := @rq37
abbrev rl_slices_Clone_byte_byte := @rl37
abbrev F_slices_Clone_byte_byte : FuncId := 37
abbrev r_slices_Clone_byte_byte := @r37
abbrev rq_files_World_fail := @rq54
abbrev rl_files_World_fail := @rl54
abbrev F_files_World_fail : FuncId := 54
abbrev r_files_World_fail := @r54
end Go.Proofs.Ytlognebkifjfbaa.R
