/- Each function of the program: what is kept behind each of its pieces, and its own form of the rule. -/
import Derived.Test.YtkkfclpodgagdaaCore1
import Derived.Test.YtkkfclpodgagdaaProg
namespace Go.Proofs.Ytkkfclpodgagdaa.R
open Go.Proofs.Ytkkfclpodgagdaa.Ab
set_option maxRecDepth 20000
theorem mixed : Try.prog.follows .mixedOrders = true := by kernel_rfl

/-! ### octavo/octavolaw21.LookupNear: function 4 -/
/-- loop [2, 7, 8, 30, 31, 32] loop [7, 11, 12, 52, 53, 54] -/
def h4 : List (List Nat) := [[0, 1, 2], [0, 1, 2, 23], [6], [0, 1, 2, 7], [0, 2, 7, 8], [2, 7, 8, 30, 31, 32], [2, 7, 8, 30, 31, 32, 33], [2, 7, 8, 10, 30, 31, 32], [2, 7, 8, 30, 31, 32], [2, 7, 8, 30, 31, 32], [2, 7, 8, 30, 31, 32], [7, 11], [7, 11, 12], [7, 11, 12, 52, 53, 54], [7, 11, 12, 52, 53, 54, 55], [7, 11, 12, 13, 14, 52, 53, 54], [7, 11, 12, 13, 52, 53, 54, 62], [7, 11, 12, 52, 53, 54], [7, 11, 12, 52, 53, 54], [7, 11, 12, 15], [7, 11, 12, 15, 72], [6], [6]]
theorem rl4 {args : List V} {r : V} {s1 s2 : List O} (hn : args.length = 3) (hk : (∀ a ∈ args, wfV 8 a) → wfL s1 → awp s1.length Try.prog (at? h4) [(19, [1, 3, 4], [])] (Try.f4.body.getD .skip) (finL Try.prog Try.f4.results.toList r s2 (keepG s1.length) true s1.length) (env0 args) s1) : RetL Try.prog 4 args s1 r s2 :=
  RetL.of mixed (at? h4) [(19, [1, 3, 4], [])] Try.func4 rfl Try.call4 (by kernel_rfl) (by rw [hn]; exact of_decide_eq_true (by kernel_rfl)) (keepG s1.length) true hk
theorem rq4 {args : List V} {s1 : List O} {Q : V → List O → Prop} (hn : args.length = 3) (hk : (∀ a ∈ args, wfV 8 a) → wfL s1 → awp s1.length Try.prog (at? h4) [(19, [1, 3, 4], [])] (Try.f4.body.getD .skip) (finQ Try.prog Try.f4.results.toList Q) (env0 args) s1) : RetQ Try.prog 4 args s1 Q :=
  RetQ.of mixed (at? h4) [(19, [1, 3, 4], [])] Try.func4 rfl Try.call4 (by kernel_rfl) (by rw [hn]; exact of_decide_eq_true (by kernel_rfl)) hk
theorem r4 {args : List V} {r : V} (hn : args.length = 3) (hk : (∀ a ∈ args, wfV 8 a) → awp 0 Try.prog (at? h4) [(19, [1, 3, 4], [])] (Try.f4.body.getD .skip) (finK Try.prog Try.f4.results.toList r) (env0 args) []) : Ret Try.prog 4 args r :=
  Ret.of mixed (at? h4) [(19, [1, 3, 4], [])] Try.func4 rfl Try.call4 (by kernel_rfl) (by rw [hn]; exact of_decide_eq_true (by kernel_rfl)) hk

/-! ### octavo/octavolaw21.lives: function 8 -/
/-- no loop -/
def h8 : List (List Nat) := [[], [1], [0]]
theorem rl8 {args : List V} {r : V} {s1 s2 : List O} (hn : args.length = 0) (hk : (∀ a ∈ args, wfV 8 a) → wfL s1 → awp s1.length Try.prog (at? h8) [] (Try.f8.body.getD .skip) (finL Try.prog Try.f8.results.toList r s2 (keepG s1.length) true s1.length) (env0 args) s1) : RetL Try.prog 8 args s1 r s2 :=
  RetL.of mixed (at? h8) [] Try.func8 rfl Try.call8 (by kernel_rfl) (by rw [hn]; exact of_decide_eq_true (by kernel_rfl)) (keepG s1.length) true hk
theorem rq8 {args : List V} {s1 : List O} {Q : V → List O → Prop} (hn : args.length = 0) (hk : (∀ a ∈ args, wfV 8 a) → wfL s1 → awp s1.length Try.prog (at? h8) [] (Try.f8.body.getD .skip) (finQ Try.prog Try.f8.results.toList Q) (env0 args) s1) : RetQ Try.prog 8 args s1 Q :=
  RetQ.of mixed (at? h8) [] Try.func8 rfl Try.call8 (by kernel_rfl) (by rw [hn]; exact of_decide_eq_true (by kernel_rfl)) hk
theorem r8 {args : List V} {r : V} (hn : args.length = 0) (hk : (∀ a ∈ args, wfV 8 a) → awp 0 Try.prog (at? h8) [] (Try.f8.body.getD .skip) (finK Try.prog Try.f8.results.toList r) (env0 args) []) : Ret Try.prog 8 args r :=
  Ret.of mixed (at? h8) [] Try.func8 rfl Try.call8 (by kernel_rfl) (by rw [hn]; exact of_decide_eq_true (by kernel_rfl)) hk

/-! ### octavo/lookup.Call: function 9 -/
/-- no loop -/
def h9 : List (List Nat) := [[0, 1, 4], [1, 4, 6, 7, 8], [1, 4, 6, 7, 8, 15], [4, 5], [1, 4, 6, 8, 19], [1, 4, 6, 19], [4, 5], [4, 5]]
theorem rl9 {args : List V} {r : V} {s1 s2 : List O} (hn : args.length = 2) (hk : (∀ a ∈ args, wfV 8 a) → wfL s1 → awp s1.length Try.prog (at? h9) [] (Try.f9.body.getD .skip) (finL Try.prog Try.f9.results.toList r s2 (keepG s1.length) true s1.length) (env0 args) s1) : RetL Try.prog 9 args s1 r s2 :=
  RetL.of mixed (at? h9) [] Try.func9 rfl Try.call9 (by kernel_rfl) (by rw [hn]; exact of_decide_eq_true (by kernel_rfl)) (keepG s1.length) true hk
theorem rq9 {args : List V} {s1 : List O} {Q : V → List O → Prop} (hn : args.length = 2) (hk : (∀ a ∈ args, wfV 8 a) → wfL s1 → awp s1.length Try.prog (at? h9) [] (Try.f9.body.getD .skip) (finQ Try.prog Try.f9.results.toList Q) (env0 args) s1) : RetQ Try.prog 9 args s1 Q :=
  RetQ.of mixed (at? h9) [] Try.func9 rfl Try.call9 (by kernel_rfl) (by rw [hn]; exact of_decide_eq_true (by kernel_rfl)) hk
theorem r9 {args : List V} {r : V} (hn : args.length = 2) (hk : (∀ a ∈ args, wfV 8 a) → awp 0 Try.prog (at? h9) [] (Try.f9.body.getD .skip) (finK Try.prog Try.f9.results.toList r) (env0 args) []) : Ret Try.prog 9 args r :=
  Ret.of mixed (at? h9) [] Try.func9 rfl Try.call9 (by kernel_rfl) (by rw [hn]; exact of_decide_eq_true (by kernel_rfl)) hk

/-! ### octavo/octavolaw21.ask: function 11 -/
/-- no loop -/
def h11 : List (List Nat) := [[0, 1, 4], [4, 5], [4]]
theorem rl11 {args : List V} {r : V} {s1 s2 : List O} (hn : args.length = 2) (hk : (∀ a ∈ args, wfV 8 a) → wfL s1 → awp s1.length Try.prog (at? h11) [] (Try.f11.body.getD .skip) (finL Try.prog Try.f11.results.toList r s2 (keepG s1.length) true s1.length) (env0 args) s1) : RetL Try.prog 11 args s1 r s2 :=
  RetL.of mixed (at? h11) [] Try.func11 rfl Try.call11 (by kernel_rfl) (by rw [hn]; exact of_decide_eq_true (by kernel_rfl)) (keepG s1.length) true hk
theorem rq11 {args : List V} {s1 : List O} {Q : V → List O → Prop} (hn : args.length = 2) (hk : (∀ a ∈ args, wfV 8 a) → wfL s1 → awp s1.length Try.prog (at? h11) [] (Try.f11.body.getD .skip) (finQ Try.prog Try.f11.results.toList Q) (env0 args) s1) : RetQ Try.prog 11 args s1 Q :=
  RetQ.of mixed (at? h11) [] Try.func11 rfl Try.call11 (by kernel_rfl) (by rw [hn]; exact of_decide_eq_true (by kernel_rfl)) hk
theorem r11 {args : List V} {r : V} (hn : args.length = 2) (hk : (∀ a ∈ args, wfV 8 a) → awp 0 Try.prog (at? h11) [] (Try.f11.body.getD .skip) (finK Try.prog Try.f11.results.toList r) (env0 args) []) : Ret Try.prog 11 args r :=
  Ret.of mixed (at? h11) [] Try.func11 rfl Try.call11 (by kernel_rfl) (by rw [hn]; exact of_decide_eq_true (by kernel_rfl)) hk

/-! ### octavo/octavolaw21.number: function 12 -/
/-- no loop -/
def h12 : List (List Nat) := [[0, 2], [2]]
theorem rl12 {args : List V} {r : V} {s1 s2 : List O} (hn : args.length = 1) (hk : (∀ a ∈ args, wfV 8 a) → wfL s1 → awp s1.length Try.prog (at? h12) [] (Try.f12.body.getD .skip) (finL Try.prog Try.f12.results.toList r s2 (keepG s1.length) true s1.length) (env0 args) s1) : RetL Try.prog 12 args s1 r s2 :=
  RetL.of mixed (at? h12) [] Try.func12 rfl Try.call12 (by kernel_rfl) (by rw [hn]; exact of_decide_eq_true (by kernel_rfl)) (keepG s1.length) true hk
theorem rq12 {args : List V} {s1 : List O} {Q : V → List O → Prop} (hn : args.length = 1) (hk : (∀ a ∈ args, wfV 8 a) → wfL s1 → awp s1.length Try.prog (at? h12) [] (Try.f12.body.getD .skip) (finQ Try.prog Try.f12.results.toList Q) (env0 args) s1) : RetQ Try.prog 12 args s1 Q :=
  RetQ.of mixed (at? h12) [] Try.func12 rfl Try.call12 (by kernel_rfl) (by rw [hn]; exact of_decide_eq_true (by kernel_rfl)) hk
theorem r12 {args : List V} {r : V} (hn : args.length = 1) (hk : (∀ a ∈ args, wfV 8 a) → awp 0 Try.prog (at? h12) [] (Try.f12.body.getD .skip) (finK Try.prog Try.f12.results.toList r) (env0 args) []) : Ret Try.prog 12 args r :=
  Ret.of mixed (at? h12) [] Try.func12 rfl Try.call12 (by kernel_rfl) (by rw [hn]; exact of_decide_eq_true (by kernel_rfl)) hk

/-! ### octavo/lookup.find: function 14 -/
/-- no loop -/
def h14 : List (List Nat) := [[0], [5], [5, 6], [2, 3, 4], [5, 9], [2, 3, 4], [5, 12], [2, 3, 4], [5, 15], [2, 3, 4], [5, 17], [2, 3, 4], [5, 19], [2, 3, 4], [5, 21], [2, 3, 4], [5, 24], [2, 3, 4], [5, 27], [2, 3, 4], [30], [2, 3, 4], [2, 3, 4]]
theorem rl14 {args : List V} {r : V} {s1 s2 : List O} (hn : args.length = 1) (hk : (∀ a ∈ args, wfV 8 a) → wfL s1 → awp s1.length Try.prog (at? h14) [] (Try.f14.body.getD .skip) (finL Try.prog Try.f14.results.toList r s2 (keepG s1.length) true s1.length) (env0 args) s1) : RetL Try.prog 14 args s1 r s2 :=
  RetL.of mixed (at? h14) [] Try.func14 rfl Try.call14 (by kernel_rfl) (by rw [hn]; exact of_decide_eq_true (by kernel_rfl)) (keepG s1.length) true hk
theorem rq14 {args : List V} {s1 : List O} {Q : V → List O → Prop} (hn : args.length = 1) (hk : (∀ a ∈ args, wfV 8 a) → wfL s1 → awp s1.length Try.prog (at? h14) [] (Try.f14.body.getD .skip) (finQ Try.prog Try.f14.results.toList Q) (env0 args) s1) : RetQ Try.prog 14 args s1 Q :=
  RetQ.of mixed (at? h14) [] Try.func14 rfl Try.call14 (by kernel_rfl) (by rw [hn]; exact of_decide_eq_true (by kernel_rfl)) hk
theorem r14 {args : List V} {r : V} (hn : args.length = 1) (hk : (∀ a ∈ args, wfV 8 a) → awp 0 Try.prog (at? h14) [] (Try.f14.body.getD .skip) (finK Try.prog Try.f14.results.toList r) (env0 args) []) : Ret Try.prog 14 args r :=
  Ret.of mixed (at? h14) [] Try.func14 rfl Try.call14 (by kernel_rfl) (by rw [hn]; exact of_decide_eq_true (by kernel_rfl)) hk

/-! ### octavo/value.Bad: function 15 -/
/-- no loop -/
def h15 : List (List Nat) := [[0, 2], [0, 2, 8], [0, 2], [2]]
theorem rl15 {args : List V} {r : V} {s1 s2 : List O} (hn : args.length = 1) (hk : (∀ a ∈ args, wfV 8 a) → wfL s1 → awp s1.length Try.prog (at? h15) [] (Try.f15.body.getD .skip) (finL Try.prog Try.f15.results.toList r s2 (keepG s1.length) true s1.length) (env0 args) s1) : RetL Try.prog 15 args s1 r s2 :=
  RetL.of mixed (at? h15) [] Try.func15 rfl Try.call15 (by kernel_rfl) (by rw [hn]; exact of_decide_eq_true (by kernel_rfl)) (keepG s1.length) true hk
theorem rq15 {args : List V} {s1 : List O} {Q : V → List O → Prop} (hn : args.length = 1) (hk : (∀ a ∈ args, wfV 8 a) → wfL s1 → awp s1.length Try.prog (at? h15) [] (Try.f15.body.getD .skip) (finQ Try.prog Try.f15.results.toList Q) (env0 args) s1) : RetQ Try.prog 15 args s1 Q :=
  RetQ.of mixed (at? h15) [] Try.func15 rfl Try.call15 (by kernel_rfl) (by rw [hn]; exact of_decide_eq_true (by kernel_rfl)) hk
theorem r15 {args : List V} {r : V} (hn : args.length = 1) (hk : (∀ a ∈ args, wfV 8 a) → awp 0 Try.prog (at? h15) [] (Try.f15.body.getD .skip) (finK Try.prog Try.f15.results.toList r) (env0 args) []) : Ret Try.prog 15 args r :=
  Ret.of mixed (at? h15) [] Try.func15 rfl Try.call15 (by kernel_rfl) (by rw [hn]; exact of_decide_eq_true (by kernel_rfl)) hk

/-! ### octavo/octavolaw21.one: function 17 -/
/-- no loop -/
def h17 : List (List Nat) := [[1, 2], [2]]
theorem rl17 {args : List V} {r : V} {s1 s2 : List O} (hn : args.length = 1) (hk : (∀ a ∈ args, wfV 8 a) → wfL s1 → awp s1.length Try.prog (at? h17) [] (Try.f17.body.getD .skip) (finL Try.prog Try.f17.results.toList r s2 (keepG s1.length) true s1.length) (env0 args) s1) : RetL Try.prog 17 args s1 r s2 :=
  RetL.of mixed (at? h17) [] Try.func17 rfl Try.call17 (by kernel_rfl) (by rw [hn]; exact of_decide_eq_true (by kernel_rfl)) (keepG s1.length) true hk
theorem rq17 {args : List V} {s1 : List O} {Q : V → List O → Prop} (hn : args.length = 1) (hk : (∀ a ∈ args, wfV 8 a) → wfL s1 → awp s1.length Try.prog (at? h17) [] (Try.f17.body.getD .skip) (finQ Try.prog Try.f17.results.toList Q) (env0 args) s1) : RetQ Try.prog 17 args s1 Q :=
  RetQ.of mixed (at? h17) [] Try.func17 rfl Try.call17 (by kernel_rfl) (by rw [hn]; exact of_decide_eq_true (by kernel_rfl)) hk
theorem r17 {args : List V} {r : V} (hn : args.length = 1) (hk : (∀ a ∈ args, wfV 8 a) → awp 0 Try.prog (at? h17) [] (Try.f17.body.getD .skip) (finK Try.prog Try.f17.results.toList r) (env0 args) []) : Ret Try.prog 17 args r :=
  Ret.of mixed (at? h17) [] Try.func17 rfl Try.call17 (by kernel_rfl) (by rw [hn]; exact of_decide_eq_true (by kernel_rfl)) hk

/-! ### octavo/lookup.sized: function 18 -/
/-- no loop -/
def h18 : List (List Nat) := [[1], [2]]
theorem rl18 {args : List V} {r : V} {s1 s2 : List O} (hn : args.length = 1) (hk : (∀ a ∈ args, wfV 8 a) → wfL s1 → awp s1.length Try.prog (at? h18) [] (Try.f18.body.getD .skip) (finL Try.prog Try.f18.results.toList r s2 (keepG s1.length) true s1.length) (env0 args) s1) : RetL Try.prog 18 args s1 r s2 :=
  RetL.of mixed (at? h18) [] Try.func18 rfl Try.call18 (by kernel_rfl) (by rw [hn]; exact of_decide_eq_true (by kernel_rfl)) (keepG s1.length) true hk
theorem rq18 {args : List V} {s1 : List O} {Q : V → List O → Prop} (hn : args.length = 1) (hk : (∀ a ∈ args, wfV 8 a) → wfL s1 → awp s1.length Try.prog (at? h18) [] (Try.f18.body.getD .skip) (finQ Try.prog Try.f18.results.toList Q) (env0 args) s1) : RetQ Try.prog 18 args s1 Q :=
  RetQ.of mixed (at? h18) [] Try.func18 rfl Try.call18 (by kernel_rfl) (by rw [hn]; exact of_decide_eq_true (by kernel_rfl)) hk
theorem r18 {args : List V} {r : V} (hn : args.length = 1) (hk : (∀ a ∈ args, wfV 8 a) → awp 0 Try.prog (at? h18) [] (Try.f18.body.getD .skip) (finK Try.prog Try.f18.results.toList r) (env0 args) []) : Ret Try.prog 18 args r :=
  Ret.of mixed (at? h18) [] Try.func18 rfl Try.call18 (by kernel_rfl) (by rw [hn]; exact of_decide_eq_true (by kernel_rfl)) hk

/-! ### octavo/lookup.find$2: function 20 -/
/-- no loop -/
def h20 : List (List Nat) := [[1], [2]]
theorem rl20 {args : List V} {r : V} {s1 s2 : List O} (hn : args.length = 1) (hk : (∀ a ∈ args, wfV 8 a) → wfL s1 → awp s1.length Try.prog (at? h20) [] (Try.f20.body.getD .skip) (finL Try.prog Try.f20.results.toList r s2 (keepG s1.length) true s1.length) (env0 args) s1) : RetL Try.prog 20 args s1 r s2 :=
  RetL.of mixed (at? h20) [] Try.func20 rfl Try.call20 (by kernel_rfl) (by rw [hn]; exact of_decide_eq_true (by kernel_rfl)) (keepG s1.length) true hk
theorem rq20 {args : List V} {s1 : List O} {Q : V → List O → Prop} (hn : args.length = 1) (hk : (∀ a ∈ args, wfV 8 a) → wfL s1 → awp s1.length Try.prog (at? h20) [] (Try.f20.body.getD .skip) (finQ Try.prog Try.f20.results.toList Q) (env0 args) s1) : RetQ Try.prog 20 args s1 Q :=
  RetQ.of mixed (at? h20) [] Try.func20 rfl Try.call20 (by kernel_rfl) (by rw [hn]; exact of_decide_eq_true (by kernel_rfl)) hk
theorem r20 {args : List V} {r : V} (hn : args.length = 1) (hk : (∀ a ∈ args, wfV 8 a) → awp 0 Try.prog (at? h20) [] (Try.f20.body.getD .skip) (finK Try.prog Try.f20.results.toList r) (env0 args) []) : Ret Try.prog 20 args r :=
  Ret.of mixed (at? h20) [] Try.func20 rfl Try.call20 (by kernel_rfl) (by rw [hn]; exact of_decide_eq_true (by kernel_rfl)) hk

/-! ### octavo/lookup.index: function 22 -/
/-- no loop -/
def h22 : List (List Nat) := [[0, 2], [0, 2, 3, 4], [0, 2, 3, 18], [2], [0, 2, 5], [0, 2, 5, 6, 7], [0, 2, 5, 6, 7, 31], [2], [0, 2, 5, 6, 8], [0, 2, 5, 6, 8, 34], [2, 5, 6, 7, 8], [2, 5, 6, 7, 8, 46], [2], [2, 5, 6, 8, 49], [2, 5, 6, 8], [2]]
theorem rl22 {args : List V} {r : V} {s1 s2 : List O} (hn : args.length = 1) (hk : (∀ a ∈ args, wfV 8 a) → wfL s1 → awp s1.length Try.prog (at? h22) [] (Try.f22.body.getD .skip) (finL Try.prog Try.f22.results.toList r s2 (keepG s1.length) true s1.length) (env0 args) s1) : RetL Try.prog 22 args s1 r s2 :=
  RetL.of mixed (at? h22) [] Try.func22 rfl Try.call22 (by kernel_rfl) (by rw [hn]; exact of_decide_eq_true (by kernel_rfl)) (keepG s1.length) true hk
theorem rq22 {args : List V} {s1 : List O} {Q : V → List O → Prop} (hn : args.length = 1) (hk : (∀ a ∈ args, wfV 8 a) → wfL s1 → awp s1.length Try.prog (at? h22) [] (Try.f22.body.getD .skip) (finQ Try.prog Try.f22.results.toList Q) (env0 args) s1) : RetQ Try.prog 22 args s1 Q :=
  RetQ.of mixed (at? h22) [] Try.func22 rfl Try.call22 (by kernel_rfl) (by rw [hn]; exact of_decide_eq_true (by kernel_rfl)) hk
theorem r22 {args : List V} {r : V} (hn : args.length = 1) (hk : (∀ a ∈ args, wfV 8 a) → awp 0 Try.prog (at? h22) [] (Try.f22.body.getD .skip) (finK Try.prog Try.f22.results.toList r) (env0 args) []) : Ret Try.prog 22 args r :=
  Ret.of mixed (at? h22) [] Try.func22 rfl Try.call22 (by kernel_rfl) (by rw [hn]; exact of_decide_eq_true (by kernel_rfl)) hk

/-! ### octavo/lookup.place: function 24 -/
/-- no loop -/
def h24 : List (List Nat) := [[0, 2], [0, 2, 3, 4], [0, 2, 3, 24], [2], [0, 2, 3, 5, 6], [0, 2, 3, 5, 6, 28], [0, 2, 3, 5, 6], [0, 2, 3, 5, 6, 36], [2], [0, 2, 3, 5, 41], [2], [2, 6, 7], [2, 6, 7, 66], [2], [2]]
theorem rl24 {args : List V} {r : V} {s1 s2 : List O} (hn : args.length = 1) (hk : (∀ a ∈ args, wfV 8 a) → wfL s1 → awp s1.length Try.prog (at? h24) [] (Try.f24.body.getD .skip) (finL Try.prog Try.f24.results.toList r s2 (keepG s1.length) true s1.length) (env0 args) s1) : RetL Try.prog 24 args s1 r s2 :=
  RetL.of mixed (at? h24) [] Try.func24 rfl Try.call24 (by kernel_rfl) (by rw [hn]; exact of_decide_eq_true (by kernel_rfl)) (keepG s1.length) true hk
theorem rq24 {args : List V} {s1 : List O} {Q : V → List O → Prop} (hn : args.length = 1) (hk : (∀ a ∈ args, wfV 8 a) → wfL s1 → awp s1.length Try.prog (at? h24) [] (Try.f24.body.getD .skip) (finQ Try.prog Try.f24.results.toList Q) (env0 args) s1) : RetQ Try.prog 24 args s1 Q :=
  RetQ.of mixed (at? h24) [] Try.func24 rfl Try.call24 (by kernel_rfl) (by rw [hn]; exact of_decide_eq_true (by kernel_rfl)) hk
theorem r24 {args : List V} {r : V} (hn : args.length = 1) (hk : (∀ a ∈ args, wfV 8 a) → awp 0 Try.prog (at? h24) [] (Try.f24.body.getD .skip) (finK Try.prog Try.f24.results.toList r) (env0 args) []) : Ret Try.prog 24 args r :=
  Ret.of mixed (at? h24) [] Try.func24 rfl Try.call24 (by kernel_rfl) (by rw [hn]; exact of_decide_eq_true (by kernel_rfl)) hk

/-! ### octavo/lookup.lines: function 25 -/
/-- no loop -/
def h25 : List (List Nat) := [[1], [2]]
theorem rl25 {args : List V} {r : V} {s1 s2 : List O} (hn : args.length = 1) (hk : (∀ a ∈ args, wfV 8 a) → wfL s1 → awp s1.length Try.prog (at? h25) [] (Try.f25.body.getD .skip) (finL Try.prog Try.f25.results.toList r s2 (keepG s1.length) true s1.length) (env0 args) s1) : RetL Try.prog 25 args s1 r s2 :=
  RetL.of mixed (at? h25) [] Try.func25 rfl Try.call25 (by kernel_rfl) (by rw [hn]; exact of_decide_eq_true (by kernel_rfl)) (keepG s1.length) true hk
theorem rq25 {args : List V} {s1 : List O} {Q : V → List O → Prop} (hn : args.length = 1) (hk : (∀ a ∈ args, wfV 8 a) → wfL s1 → awp s1.length Try.prog (at? h25) [] (Try.f25.body.getD .skip) (finQ Try.prog Try.f25.results.toList Q) (env0 args) s1) : RetQ Try.prog 25 args s1 Q :=
  RetQ.of mixed (at? h25) [] Try.func25 rfl Try.call25 (by kernel_rfl) (by rw [hn]; exact of_decide_eq_true (by kernel_rfl)) hk
theorem r25 {args : List V} {r : V} (hn : args.length = 1) (hk : (∀ a ∈ args, wfV 8 a) → awp 0 Try.prog (at? h25) [] (Try.f25.body.getD .skip) (finK Try.prog Try.f25.results.toList r) (env0 args) []) : Ret Try.prog 25 args r :=
  Ret.of mixed (at? h25) [] Try.func25 rfl Try.call25 (by kernel_rfl) (by rw [hn]; exact of_decide_eq_true (by kernel_rfl)) hk

/-! ### octavo/lookup.sized$1: function 27 -/
/-- no loop -/
def h27 : List (List Nat) := [[0, 1, 3], [1, 3, 4, 5], [1, 3, 4, 15], [3], [3]]
theorem rl27 {args : List V} {r : V} {s1 s2 : List O} (hn : args.length = 2) (hk : (∀ a ∈ args, wfV 8 a) → wfL s1 → awp s1.length Try.prog (at? h27) [] (Try.f27.body.getD .skip) (finL Try.prog Try.f27.results.toList r s2 (keepG s1.length) true s1.length) (env0 args) s1) : RetL Try.prog 27 args s1 r s2 :=
  RetL.of mixed (at? h27) [] Try.func27 rfl Try.call27 (by kernel_rfl) (by rw [hn]; exact of_decide_eq_true (by kernel_rfl)) (keepG s1.length) true hk
theorem rq27 {args : List V} {s1 : List O} {Q : V → List O → Prop} (hn : args.length = 2) (hk : (∀ a ∈ args, wfV 8 a) → wfL s1 → awp s1.length Try.prog (at? h27) [] (Try.f27.body.getD .skip) (finQ Try.prog Try.f27.results.toList Q) (env0 args) s1) : RetQ Try.prog 27 args s1 Q :=
  RetQ.of mixed (at? h27) [] Try.func27 rfl Try.call27 (by kernel_rfl) (by rw [hn]; exact of_decide_eq_true (by kernel_rfl)) hk
theorem r27 {args : List V} {r : V} (hn : args.length = 2) (hk : (∀ a ∈ args, wfV 8 a) → awp 0 Try.prog (at? h27) [] (Try.f27.body.getD .skip) (finK Try.prog Try.f27.results.toList r) (env0 args) []) : Ret Try.prog 27 args r :=
  Ret.of mixed (at? h27) [] Try.func27 rfl Try.call27 (by kernel_rfl) (by rw [hn]; exact of_decide_eq_true (by kernel_rfl)) hk

/-! ### octavo/lookup.goods: function 28 -/
/-- loop [4, 7, 8, 9] -/
def h28 : List (List Nat) := [[0], [0, 4], [4, 7, 8, 9], [4, 7, 8, 9, 10], [4, 6, 7, 8, 9], [4, 6, 7, 8, 9, 15], [2, 3], [4, 7, 8, 9], [4, 7, 8, 9], [2, 3]]
theorem rl28 {args : List V} {r : V} {s1 s2 : List O} (hn : args.length = 1) (hk : (∀ a ∈ args, wfV 8 a) → wfL s1 → awp s1.length Try.prog (at? h28) [] (Try.f28.body.getD .skip) (finL Try.prog Try.f28.results.toList r s2 (keepG s1.length) true s1.length) (env0 args) s1) : RetL Try.prog 28 args s1 r s2 :=
  RetL.of mixed (at? h28) [] Try.func28 rfl Try.call28 (by kernel_rfl) (by rw [hn]; exact of_decide_eq_true (by kernel_rfl)) (keepG s1.length) true hk
theorem rq28 {args : List V} {s1 : List O} {Q : V → List O → Prop} (hn : args.length = 1) (hk : (∀ a ∈ args, wfV 8 a) → wfL s1 → awp s1.length Try.prog (at? h28) [] (Try.f28.body.getD .skip) (finQ Try.prog Try.f28.results.toList Q) (env0 args) s1) : RetQ Try.prog 28 args s1 Q :=
  RetQ.of mixed (at? h28) [] Try.func28 rfl Try.call28 (by kernel_rfl) (by rw [hn]; exact of_decide_eq_true (by kernel_rfl)) hk
theorem r28 {args : List V} {r : V} (hn : args.length = 1) (hk : (∀ a ∈ args, wfV 8 a) → awp 0 Try.prog (at? h28) [] (Try.f28.body.getD .skip) (finK Try.prog Try.f28.results.toList r) (env0 args) []) : Ret Try.prog 28 args r :=
  Ret.of mixed (at? h28) [] Try.func28 rfl Try.call28 (by kernel_rfl) (by rw [hn]; exact of_decide_eq_true (by kernel_rfl)) hk

/-! ### octavo/lookup.whole: function 29 -/
/-- no loop -/
def h29 : List (List Nat) := [[0, 2], [2]]
theorem rl29 {args : List V} {r : V} {s1 s2 : List O} (hn : args.length = 1) (hk : (∀ a ∈ args, wfV 8 a) → wfL s1 → awp s1.length Try.prog (at? h29) [] (Try.f29.body.getD .skip) (finL Try.prog Try.f29.results.toList r s2 (keepG s1.length) true s1.length) (env0 args) s1) : RetL Try.prog 29 args s1 r s2 :=
  RetL.of mixed (at? h29) [] Try.func29 rfl Try.call29 (by kernel_rfl) (by rw [hn]; exact of_decide_eq_true (by kernel_rfl)) (keepG s1.length) true hk
theorem rq29 {args : List V} {s1 : List O} {Q : V → List O → Prop} (hn : args.length = 1) (hk : (∀ a ∈ args, wfV 8 a) → wfL s1 → awp s1.length Try.prog (at? h29) [] (Try.f29.body.getD .skip) (finQ Try.prog Try.f29.results.toList Q) (env0 args) s1) : RetQ Try.prog 29 args s1 Q :=
  RetQ.of mixed (at? h29) [] Try.func29 rfl Try.call29 (by kernel_rfl) (by rw [hn]; exact of_decide_eq_true (by kernel_rfl)) hk
theorem r29 {args : List V} {r : V} (hn : args.length = 1) (hk : (∀ a ∈ args, wfV 8 a) → awp 0 Try.prog (at? h29) [] (Try.f29.body.getD .skip) (finK Try.prog Try.f29.results.toList r) (env0 args) []) : Ret Try.prog 29 args r :=
  Ret.of mixed (at? h29) [] Try.func29 rfl Try.call29 (by kernel_rfl) (by rw [hn]; exact of_decide_eq_true (by kernel_rfl)) hk

/-! ### octavo/lookup.ints: function 31 -/
/-- no loop -/
def h31 : List (List Nat) := [[1], [4, 5], [4, 5, 15], [2, 3], [6, 7], [6, 23], [2, 3], [2, 3]]
theorem rl31 {args : List V} {r : V} {s1 s2 : List O} (hn : args.length = 1) (hk : (∀ a ∈ args, wfV 8 a) → wfL s1 → awp s1.length Try.prog (at? h31) [] (Try.f31.body.getD .skip) (finL Try.prog Try.f31.results.toList r s2 (keepG s1.length) true s1.length) (env0 args) s1) : RetL Try.prog 31 args s1 r s2 :=
  RetL.of mixed (at? h31) [] Try.func31 rfl Try.call31 (by kernel_rfl) (by rw [hn]; exact of_decide_eq_true (by kernel_rfl)) (keepG s1.length) true hk
theorem rq31 {args : List V} {s1 : List O} {Q : V → List O → Prop} (hn : args.length = 1) (hk : (∀ a ∈ args, wfV 8 a) → wfL s1 → awp s1.length Try.prog (at? h31) [] (Try.f31.body.getD .skip) (finQ Try.prog Try.f31.results.toList Q) (env0 args) s1) : RetQ Try.prog 31 args s1 Q :=
  RetQ.of mixed (at? h31) [] Try.func31 rfl Try.call31 (by kernel_rfl) (by rw [hn]; exact of_decide_eq_true (by kernel_rfl)) hk
theorem r31 {args : List V} {r : V} (hn : args.length = 1) (hk : (∀ a ∈ args, wfV 8 a) → awp 0 Try.prog (at? h31) [] (Try.f31.body.getD .skip) (finK Try.prog Try.f31.results.toList r) (env0 args) []) : Ret Try.prog 31 args r :=
  Ret.of mixed (at? h31) [] Try.func31 rfl Try.call31 (by kernel_rfl) (by rw [hn]; exact of_decide_eq_true (by kernel_rfl)) hk

/-! ### (octavo/lookup.grid).at: function 32 -/
/-- no loop -/
def h32 : List (List Nat) := [[1, 2, 3, 6], [1, 2, 3, 6, 26], [6], [6]]
theorem rl32 {args : List V} {r : V} {s1 s2 : List O} (hn : args.length = 3) (hk : (∀ a ∈ args, wfV 8 a) → wfL s1 → awp s1.length Try.prog (at? h32) [] (Try.f32.body.getD .skip) (finL Try.prog Try.f32.results.toList r s2 (keepG s1.length) true s1.length) (env0 args) s1) : RetL Try.prog 32 args s1 r s2 :=
  RetL.of mixed (at? h32) [] Try.func32 rfl Try.call32 (by kernel_rfl) (by rw [hn]; exact of_decide_eq_true (by kernel_rfl)) (keepG s1.length) true hk
theorem rq32 {args : List V} {s1 : List O} {Q : V → List O → Prop} (hn : args.length = 3) (hk : (∀ a ∈ args, wfV 8 a) → wfL s1 → awp s1.length Try.prog (at? h32) [] (Try.f32.body.getD .skip) (finQ Try.prog Try.f32.results.toList Q) (env0 args) s1) : RetQ Try.prog 32 args s1 Q :=
  RetQ.of mixed (at? h32) [] Try.func32 rfl Try.call32 (by kernel_rfl) (by rw [hn]; exact of_decide_eq_true (by kernel_rfl)) hk
theorem r32 {args : List V} {r : V} (hn : args.length = 3) (hk : (∀ a ∈ args, wfV 8 a) → awp 0 Try.prog (at? h32) [] (Try.f32.body.getD .skip) (finK Try.prog Try.f32.results.toList r) (env0 args) []) : Ret Try.prog 32 args r :=
  Ret.of mixed (at? h32) [] Try.func32 rfl Try.call32 (by kernel_rfl) (by rw [hn]; exact of_decide_eq_true (by kernel_rfl)) hk

/-! ### octavo/maths.One: function 33 -/
/-- no loop -/
def h33 : List (List Nat) := [[1, 2], [1, 2, 11], [2], [2]]
theorem rl33 {args : List V} {r : V} {s1 s2 : List O} (hn : args.length = 1) (hk : (∀ a ∈ args, wfV 8 a) → wfL s1 → awp s1.length Try.prog (at? h33) [] (Try.f33.body.getD .skip) (finL Try.prog Try.f33.results.toList r s2 (keepG s1.length) true s1.length) (env0 args) s1) : RetL Try.prog 33 args s1 r s2 :=
  RetL.of mixed (at? h33) [] Try.func33 rfl Try.call33 (by kernel_rfl) (by rw [hn]; exact of_decide_eq_true (by kernel_rfl)) (keepG s1.length) true hk
theorem rq33 {args : List V} {s1 : List O} {Q : V → List O → Prop} (hn : args.length = 1) (hk : (∀ a ∈ args, wfV 8 a) → wfL s1 → awp s1.length Try.prog (at? h33) [] (Try.f33.body.getD .skip) (finQ Try.prog Try.f33.results.toList Q) (env0 args) s1) : RetQ Try.prog 33 args s1 Q :=
  RetQ.of mixed (at? h33) [] Try.func33 rfl Try.call33 (by kernel_rfl) (by rw [hn]; exact of_decide_eq_true (by kernel_rfl)) hk
theorem r33 {args : List V} {r : V} (hn : args.length = 1) (hk : (∀ a ∈ args, wfV 8 a) → awp 0 Try.prog (at? h33) [] (Try.f33.body.getD .skip) (finK Try.prog Try.f33.results.toList r) (env0 args) []) : Ret Try.prog 33 args r :=
  Ret.of mixed (at? h33) [] Try.func33 rfl Try.call33 (by kernel_rfl) (by rw [hn]; exact of_decide_eq_true (by kernel_rfl)) hk

/-! ### (octavo/lookup.grid).line: function 34 -/
/-- no loop -/
def h34 : List (List Nat) := [[1], [2]]
theorem rl34 {args : List V} {r : V} {s1 s2 : List O} (hn : args.length = 1) (hk : (∀ a ∈ args, wfV 8 a) → wfL s1 → awp s1.length Try.prog (at? h34) [] (Try.f34.body.getD .skip) (finL Try.prog Try.f34.results.toList r s2 (keepG s1.length) true s1.length) (env0 args) s1) : RetL Try.prog 34 args s1 r s2 :=
  RetL.of mixed (at? h34) [] Try.func34 rfl Try.call34 (by kernel_rfl) (by rw [hn]; exact of_decide_eq_true (by kernel_rfl)) (keepG s1.length) true hk
theorem rq34 {args : List V} {s1 : List O} {Q : V → List O → Prop} (hn : args.length = 1) (hk : (∀ a ∈ args, wfV 8 a) → wfL s1 → awp s1.length Try.prog (at? h34) [] (Try.f34.body.getD .skip) (finQ Try.prog Try.f34.results.toList Q) (env0 args) s1) : RetQ Try.prog 34 args s1 Q :=
  RetQ.of mixed (at? h34) [] Try.func34 rfl Try.call34 (by kernel_rfl) (by rw [hn]; exact of_decide_eq_true (by kernel_rfl)) hk
theorem r34 {args : List V} {r : V} (hn : args.length = 1) (hk : (∀ a ∈ args, wfV 8 a) → awp 0 Try.prog (at? h34) [] (Try.f34.body.getD .skip) (finK Try.prog Try.f34.results.toList r) (env0 args) []) : Ret Try.prog 34 args r :=
  Ret.of mixed (at? h34) [] Try.func34 rfl Try.call34 (by kernel_rfl) (by rw [hn]; exact of_decide_eq_true (by kernel_rfl)) hk

/-! ### octavo/lookup.match: function 35 -/
/-- loop [1, 2, 3, 10, 11, 12] -/
def h35 : List (List Nat) := [[1, 2, 3, 4], [1, 2, 3, 10], [1, 2, 3, 10, 19], [8, 9], [1, 2, 3, 10, 28], [1, 2, 3, 10], [1, 2, 3, 10, 11], [1, 2, 3, 10, 11, 12], [1, 2, 3, 10, 11, 12, 32], [1, 2, 3, 10, 11, 12], [1, 2, 3, 10, 11, 12, 13], [1, 2, 3, 10, 11, 12, 13, 42], [1, 2, 3, 10, 11, 12, 14], [1, 2, 3, 10, 11, 12, 14, 51], [8, 9], [1, 2, 3, 10, 11, 12, 56], [1, 2, 3, 10, 11, 12, 58], [1, 2, 3, 10, 11, 12], [11, 61], [8, 9], [8, 9]]
theorem rl35 {args : List V} {r : V} {s1 s2 : List O} (hn : args.length = 4) (hk : (∀ a ∈ args, wfV 8 a) → wfL s1 → awp s1.length Try.prog (at? h35) [] (Try.f35.body.getD .skip) (finL Try.prog Try.f35.results.toList r s2 (keepG s1.length) true s1.length) (env0 args) s1) : RetL Try.prog 35 args s1 r s2 :=
  RetL.of mixed (at? h35) [] Try.func35 rfl Try.call35 (by kernel_rfl) (by rw [hn]; exact of_decide_eq_true (by kernel_rfl)) (keepG s1.length) true hk
theorem rq35 {args : List V} {s1 : List O} {Q : V → List O → Prop} (hn : args.length = 4) (hk : (∀ a ∈ args, wfV 8 a) → wfL s1 → awp s1.length Try.prog (at? h35) [] (Try.f35.body.getD .skip) (finQ Try.prog Try.f35.results.toList Q) (env0 args) s1) : RetQ Try.prog 35 args s1 Q :=
  RetQ.of mixed (at? h35) [] Try.func35 rfl Try.call35 (by kernel_rfl) (by rw [hn]; exact of_decide_eq_true (by kernel_rfl)) hk
theorem r35 {args : List V} {r : V} (hn : args.length = 4) (hk : (∀ a ∈ args, wfV 8 a) → awp 0 Try.prog (at? h35) [] (Try.f35.body.getD .skip) (finK Try.prog Try.f35.results.toList r) (env0 args) []) : Ret Try.prog 35 args r :=
  Ret.of mixed (at? h35) [] Try.func35 rfl Try.call35 (by kernel_rfl) (by rw [hn]; exact of_decide_eq_true (by kernel_rfl)) hk

/-! ### (octavo/lookup.grid).nth: function 36 -/
/-- no loop -/
def h36 : List (List Nat) := [[1, 2, 4], [4]]
theorem rl36 {args : List V} {r : V} {s1 s2 : List O} (hn : args.length = 2) (hk : (∀ a ∈ args, wfV 8 a) → wfL s1 → awp s1.length Try.prog (at? h36) [] (Try.f36.body.getD .skip) (finL Try.prog Try.f36.results.toList r s2 (keepG s1.length) true s1.length) (env0 args) s1) : RetL Try.prog 36 args s1 r s2 :=
  RetL.of mixed (at? h36) [] Try.func36 rfl Try.call36 (by kernel_rfl) (by rw [hn]; exact of_decide_eq_true (by kernel_rfl)) (keepG s1.length) true hk
theorem rq36 {args : List V} {s1 : List O} {Q : V → List O → Prop} (hn : args.length = 2) (hk : (∀ a ∈ args, wfV 8 a) → wfL s1 → awp s1.length Try.prog (at? h36) [] (Try.f36.body.getD .skip) (finQ Try.prog Try.f36.results.toList Q) (env0 args) s1) : RetQ Try.prog 36 args s1 Q :=
  RetQ.of mixed (at? h36) [] Try.func36 rfl Try.call36 (by kernel_rfl) (by rw [hn]; exact of_decide_eq_true (by kernel_rfl)) hk
theorem r36 {args : List V} {r : V} (hn : args.length = 2) (hk : (∀ a ∈ args, wfV 8 a) → awp 0 Try.prog (at? h36) [] (Try.f36.body.getD .skip) (finK Try.prog Try.f36.results.toList r) (env0 args) []) : Ret Try.prog 36 args r :=
  Ret.of mixed (at? h36) [] Try.func36 rfl Try.call36 (by kernel_rfl) (by rw [hn]; exact of_decide_eq_true (by kernel_rfl)) hk

/-! ### octavo/lookup.lines$1: function 37 -/
/-- no loop -/
def h37 : List (List Nat) := [[0, 1, 3], [0, 1, 3, 4, 5], [0, 1, 3, 4, 49], [3], [0, 3, 4, 6, 7], [0, 3, 4, 6, 7, 69], [3], [0, 3, 7, 77], [3], [3]]
theorem rl37 {args : List V} {r : V} {s1 s2 : List O} (hn : args.length = 2) (hk : (∀ a ∈ args, wfV 8 a) → wfL s1 → awp s1.length Try.prog (at? h37) [] (Try.f37.body.getD .skip) (finL Try.prog Try.f37.results.toList r s2 (keepG s1.length) true s1.length) (env0 args) s1) : RetL Try.prog 37 args s1 r s2 :=
  RetL.of mixed (at? h37) [] Try.func37 rfl Try.call37 (by kernel_rfl) (by rw [hn]; exact of_decide_eq_true (by kernel_rfl)) (keepG s1.length) true hk
theorem rq37 {args : List V} {s1 : List O} {Q : V → List O → Prop} (hn : args.length = 2) (hk : (∀ a ∈ args, wfV 8 a) → wfL s1 → awp s1.length Try.prog (at? h37) [] (Try.f37.body.getD .skip) (finQ Try.prog Try.f37.results.toList Q) (env0 args) s1) : RetQ Try.prog 37 args s1 Q :=
  RetQ.of mixed (at? h37) [] Try.func37 rfl Try.call37 (by kernel_rfl) (by rw [hn]; exact of_decide_eq_true (by kernel_rfl)) hk
theorem r37 {args : List V} {r : V} (hn : args.length = 2) (hk : (∀ a ∈ args, wfV 8 a) → awp 0 Try.prog (at? h37) [] (Try.f37.body.getD .skip) (finK Try.prog Try.f37.results.toList r) (env0 args) []) : Ret Try.prog 37 args r :=
  Ret.of mixed (at? h37) [] Try.func37 rfl Try.call37 (by kernel_rfl) (by rw [hn]; exact of_decide_eq_true (by kernel_rfl)) hk

/-! ### octavo/maths.Good: function 42 -/
/-- loop [35, 36, 37] -/
def h42 : List (List Nat) := [[1], [1, 33], [2], [35, 36, 37], [35, 36, 37, 38], [4, 35, 36, 37], [35, 36, 37, 43], [2], [35, 36, 37], [2]]
theorem rl42 {args : List V} {r : V} {s1 s2 : List O} (hn : args.length = 1) (hk : (∀ a ∈ args, wfV 8 a) → wfL s1 → awp s1.length Try.prog (at? h42) [] (Try.f42.body.getD .skip) (finL Try.prog Try.f42.results.toList r s2 (keepG s1.length) true s1.length) (env0 args) s1) : RetL Try.prog 42 args s1 r s2 :=
  RetL.of mixed (at? h42) [] Try.func42 rfl Try.call42 (by kernel_rfl) (by rw [hn]; exact of_decide_eq_true (by kernel_rfl)) (keepG s1.length) true hk
theorem rq42 {args : List V} {s1 : List O} {Q : V → List O → Prop} (hn : args.length = 1) (hk : (∀ a ∈ args, wfV 8 a) → wfL s1 → awp s1.length Try.prog (at? h42) [] (Try.f42.body.getD .skip) (finQ Try.prog Try.f42.results.toList Q) (env0 args) s1) : RetQ Try.prog 42 args s1 Q :=
  RetQ.of mixed (at? h42) [] Try.func42 rfl Try.call42 (by kernel_rfl) (by rw [hn]; exact of_decide_eq_true (by kernel_rfl)) hk
theorem r42 {args : List V} {r : V} (hn : args.length = 1) (hk : (∀ a ∈ args, wfV 8 a) → awp 0 Try.prog (at? h42) [] (Try.f42.body.getD .skip) (finK Try.prog Try.f42.results.toList r) (env0 args) []) : Ret Try.prog 42 args r :=
  Ret.of mixed (at? h42) [] Try.func42 rfl Try.call42 (by kernel_rfl) (by rw [hn]; exact of_decide_eq_true (by kernel_rfl)) hk

/-! ### octavo/value.Of: function 43 -/
/-- no loop -/
def h43 : List (List Nat) := [[0, 1, 4], [0, 4, 9], [4], [4]]
theorem rl43 {args : List V} {r : V} {s1 s2 : List O} (hn : args.length = 2) (hk : (∀ a ∈ args, wfV 8 a) → wfL s1 → awp s1.length Try.prog (at? h43) [] (Try.f43.body.getD .skip) (finL Try.prog Try.f43.results.toList r s2 (keepG s1.length) true s1.length) (env0 args) s1) : RetL Try.prog 43 args s1 r s2 :=
  RetL.of mixed (at? h43) [] Try.func43 rfl Try.call43 (by kernel_rfl) (by rw [hn]; exact of_decide_eq_true (by kernel_rfl)) (keepG s1.length) true hk
theorem rq43 {args : List V} {s1 : List O} {Q : V → List O → Prop} (hn : args.length = 2) (hk : (∀ a ∈ args, wfV 8 a) → wfL s1 → awp s1.length Try.prog (at? h43) [] (Try.f43.body.getD .skip) (finQ Try.prog Try.f43.results.toList Q) (env0 args) s1) : RetQ Try.prog 43 args s1 Q :=
  RetQ.of mixed (at? h43) [] Try.func43 rfl Try.call43 (by kernel_rfl) (by rw [hn]; exact of_decide_eq_true (by kernel_rfl)) hk
theorem r43 {args : List V} {r : V} (hn : args.length = 2) (hk : (∀ a ∈ args, wfV 8 a) → awp 0 Try.prog (at? h43) [] (Try.f43.body.getD .skip) (finK Try.prog Try.f43.results.toList r) (env0 args) []) : Ret Try.prog 43 args r :=
  Ret.of mixed (at? h43) [] Try.func43 rfl Try.call43 (by kernel_rfl) (by rw [hn]; exact of_decide_eq_true (by kernel_rfl)) hk

/-! ### octavo/value.ToNum: function 46 -/
/-- no loop -/
def h46 : List (List Nat) := [[1], [12], [12, 14, 15], [], [2, 3], [12, 17, 18], [5], [2, 3], [12, 21, 22], [6], [23], [2, 3], [2, 3], [12, 25, 26], [7], [8, 9], [8, 32], [2, 3], [35, 36], [10], [2, 3], [2, 3]]
theorem rl46 {args : List V} {r : V} {s1 s2 : List O} (hn : args.length = 1) (hk : (∀ a ∈ args, wfV 8 a) → wfL s1 → awp s1.length Try.prog (at? h46) [] (Try.f46.body.getD .skip) (finL Try.prog Try.f46.results.toList r s2 (keepG s1.length) true s1.length) (env0 args) s1) : RetL Try.prog 46 args s1 r s2 :=
  RetL.of mixed (at? h46) [] Try.func46 rfl Try.call46 (by kernel_rfl) (by rw [hn]; exact of_decide_eq_true (by kernel_rfl)) (keepG s1.length) true hk
theorem rq46 {args : List V} {s1 : List O} {Q : V → List O → Prop} (hn : args.length = 1) (hk : (∀ a ∈ args, wfV 8 a) → wfL s1 → awp s1.length Try.prog (at? h46) [] (Try.f46.body.getD .skip) (finQ Try.prog Try.f46.results.toList Q) (env0 args) s1) : RetQ Try.prog 46 args s1 Q :=
  RetQ.of mixed (at? h46) [] Try.func46 rfl Try.call46 (by kernel_rfl) (by rw [hn]; exact of_decide_eq_true (by kernel_rfl)) hk
theorem r46 {args : List V} {r : V} (hn : args.length = 1) (hk : (∀ a ∈ args, wfV 8 a) → awp 0 Try.prog (at? h46) [] (Try.f46.body.getD .skip) (finK Try.prog Try.f46.results.toList r) (env0 args) []) : Ret Try.prog 46 args r :=
  Ret.of mixed (at? h46) [] Try.func46 rfl Try.call46 (by kernel_rfl) (by rw [hn]; exact of_decide_eq_true (by kernel_rfl)) hk

/-! ### octavo/num.Whole: function 47 -/
/-- no loop -/
def h47 : List (List Nat) := [[0], [0, 11], [2, 3], [2, 3]]
theorem rl47 {args : List V} {r : V} {s1 s2 : List O} (hn : args.length = 1) (hk : (∀ a ∈ args, wfV 8 a) → wfL s1 → awp s1.length Try.prog (at? h47) [] (Try.f47.body.getD .skip) (finL Try.prog Try.f47.results.toList r s2 (keepG s1.length) true s1.length) (env0 args) s1) : RetL Try.prog 47 args s1 r s2 :=
  RetL.of mixed (at? h47) [] Try.func47 rfl Try.call47 (by kernel_rfl) (by rw [hn]; exact of_decide_eq_true (by kernel_rfl)) (keepG s1.length) true hk
theorem rq47 {args : List V} {s1 : List O} {Q : V → List O → Prop} (hn : args.length = 1) (hk : (∀ a ∈ args, wfV 8 a) → wfL s1 → awp s1.length Try.prog (at? h47) [] (Try.f47.body.getD .skip) (finQ Try.prog Try.f47.results.toList Q) (env0 args) s1) : RetQ Try.prog 47 args s1 Q :=
  RetQ.of mixed (at? h47) [] Try.func47 rfl Try.call47 (by kernel_rfl) (by rw [hn]; exact of_decide_eq_true (by kernel_rfl)) hk
theorem r47 {args : List V} {r : V} (hn : args.length = 1) (hk : (∀ a ∈ args, wfV 8 a) → awp 0 Try.prog (at? h47) [] (Try.f47.body.getD .skip) (finK Try.prog Try.f47.results.toList r) (env0 args) []) : Ret Try.prog 47 args r :=
  Ret.of mixed (at? h47) [] Try.func47 rfl Try.call47 (by kernel_rfl) (by rw [hn]; exact of_decide_eq_true (by kernel_rfl)) hk

/-! ### octavo/value.Cmp: function 48 -/
/-- no loop -/
def h48 : List (List Nat) := [[2, 3], [2, 3, 5], [2, 3, 5, 6, 7, 8], [6, 7, 8, 9, 10, 11], [6, 7, 8, 9, 10, 11, 28], [4], [7, 8, 10, 11, 36], [4], [8, 11, 44], [4], [4]]
theorem rl48 {args : List V} {r : V} {s1 s2 : List O} (hn : args.length = 2) (hk : (∀ a ∈ args, wfV 8 a) → wfL s1 → awp s1.length Try.prog (at? h48) [] (Try.f48.body.getD .skip) (finL Try.prog Try.f48.results.toList r s2 (keepG s1.length) true s1.length) (env0 args) s1) : RetL Try.prog 48 args s1 r s2 :=
  RetL.of mixed (at? h48) [] Try.func48 rfl Try.call48 (by kernel_rfl) (by rw [hn]; exact of_decide_eq_true (by kernel_rfl)) (keepG s1.length) true hk
theorem rq48 {args : List V} {s1 : List O} {Q : V → List O → Prop} (hn : args.length = 2) (hk : (∀ a ∈ args, wfV 8 a) → wfL s1 → awp s1.length Try.prog (at? h48) [] (Try.f48.body.getD .skip) (finQ Try.prog Try.f48.results.toList Q) (env0 args) s1) : RetQ Try.prog 48 args s1 Q :=
  RetQ.of mixed (at? h48) [] Try.func48 rfl Try.call48 (by kernel_rfl) (by rw [hn]; exact of_decide_eq_true (by kernel_rfl)) hk
theorem r48 {args : List V} {r : V} (hn : args.length = 2) (hk : (∀ a ∈ args, wfV 8 a) → awp 0 Try.prog (at? h48) [] (Try.f48.body.getD .skip) (finK Try.prog Try.f48.results.toList r) (env0 args) []) : Ret Try.prog 48 args r :=
  Ret.of mixed (at? h48) [] Try.func48 rfl Try.call48 (by kernel_rfl) (by rw [hn]; exact of_decide_eq_true (by kernel_rfl)) hk

/-! ### octavo/value.own: function 49 -/
/-- no loop -/
def h49 : List (List Nat) := [[1], [1, 4], [1, 4, 5], [2], [1, 4, 9], [2], [1, 4, 14], [2], [1, 4, 19], [2], [1, 25], [2], [2]]
theorem rl49 {args : List V} {r : V} {s1 s2 : List O} (hn : args.length = 1) (hk : (∀ a ∈ args, wfV 8 a) → wfL s1 → awp s1.length Try.prog (at? h49) [] (Try.f49.body.getD .skip) (finL Try.prog Try.f49.results.toList r s2 (keepG s1.length) true s1.length) (env0 args) s1) : RetL Try.prog 49 args s1 r s2 :=
  RetL.of mixed (at? h49) [] Try.func49 rfl Try.call49 (by kernel_rfl) (by rw [hn]; exact of_decide_eq_true (by kernel_rfl)) (keepG s1.length) true hk
theorem rq49 {args : List V} {s1 : List O} {Q : V → List O → Prop} (hn : args.length = 1) (hk : (∀ a ∈ args, wfV 8 a) → wfL s1 → awp s1.length Try.prog (at? h49) [] (Try.f49.body.getD .skip) (finQ Try.prog Try.f49.results.toList Q) (env0 args) s1) : RetQ Try.prog 49 args s1 Q :=
  RetQ.of mixed (at? h49) [] Try.func49 rfl Try.call49 (by kernel_rfl) (by rw [hn]; exact of_decide_eq_true (by kernel_rfl)) hk
theorem r49 {args : List V} {r : V} (hn : args.length = 1) (hk : (∀ a ∈ args, wfV 8 a) → awp 0 Try.prog (at? h49) [] (Try.f49.body.getD .skip) (finK Try.prog Try.f49.results.toList r) (env0 args) []) : Ret Try.prog 49 args r :=
  Ret.of mixed (at? h49) [] Try.func49 rfl Try.call49 (by kernel_rfl) (by rw [hn]; exact of_decide_eq_true (by kernel_rfl)) hk

/-! ### octavo/value.Good: function 51 -/
/-- no loop -/
def h51 : List (List Nat) := [[1], [1, 15], [2], [1, 17], [1, 17, 19, 20], [1], [2], [1, 17, 25, 26], [4], [2], [1, 17, 30, 31], [1, 5], [2], [1, 17, 41, 42], [1], [2], [52, 53], [7], [2], [2]]
theorem rl51 {args : List V} {r : V} {s1 s2 : List O} (hn : args.length = 1) (hk : (∀ a ∈ args, wfV 8 a) → wfL s1 → awp s1.length Try.prog (at? h51) [] (Try.f51.body.getD .skip) (finL Try.prog Try.f51.results.toList r s2 (keepG s1.length) true s1.length) (env0 args) s1) : RetL Try.prog 51 args s1 r s2 :=
  RetL.of mixed (at? h51) [] Try.func51 rfl Try.call51 (by kernel_rfl) (by rw [hn]; exact of_decide_eq_true (by kernel_rfl)) (keepG s1.length) true hk
theorem rq51 {args : List V} {s1 : List O} {Q : V → List O → Prop} (hn : args.length = 1) (hk : (∀ a ∈ args, wfV 8 a) → wfL s1 → awp s1.length Try.prog (at? h51) [] (Try.f51.body.getD .skip) (finQ Try.prog Try.f51.results.toList Q) (env0 args) s1) : RetQ Try.prog 51 args s1 Q :=
  RetQ.of mixed (at? h51) [] Try.func51 rfl Try.call51 (by kernel_rfl) (by rw [hn]; exact of_decide_eq_true (by kernel_rfl)) hk
theorem r51 {args : List V} {r : V} (hn : args.length = 1) (hk : (∀ a ∈ args, wfV 8 a) → awp 0 Try.prog (at? h51) [] (Try.f51.body.getD .skip) (finK Try.prog Try.f51.results.toList r) (env0 args) []) : Ret Try.prog 51 args r :=
  Ret.of mixed (at? h51) [] Try.func51 rfl Try.call51 (by kernel_rfl) (by rw [hn]; exact of_decide_eq_true (by kernel_rfl)) hk

/-! ### octavo/num.Good: function 52 -/
/-- no loop -/
def h52 : List (List Nat) := [[0], [2]]
theorem rl52 {args : List V} {r : V} {s1 s2 : List O} (hn : args.length = 1) (hk : (∀ a ∈ args, wfV 8 a) → wfL s1 → awp s1.length Try.prog (at? h52) [] (Try.f52.body.getD .skip) (finL Try.prog Try.f52.results.toList r s2 (keepG s1.length) true s1.length) (env0 args) s1) : RetL Try.prog 52 args s1 r s2 :=
  RetL.of mixed (at? h52) [] Try.func52 rfl Try.call52 (by kernel_rfl) (by rw [hn]; exact of_decide_eq_true (by kernel_rfl)) (keepG s1.length) true hk
theorem rq52 {args : List V} {s1 : List O} {Q : V → List O → Prop} (hn : args.length = 1) (hk : (∀ a ∈ args, wfV 8 a) → wfL s1 → awp s1.length Try.prog (at? h52) [] (Try.f52.body.getD .skip) (finQ Try.prog Try.f52.results.toList Q) (env0 args) s1) : RetQ Try.prog 52 args s1 Q :=
  RetQ.of mixed (at? h52) [] Try.func52 rfl Try.call52 (by kernel_rfl) (by rw [hn]; exact of_decide_eq_true (by kernel_rfl)) hk
theorem r52 {args : List V} {r : V} (hn : args.length = 1) (hk : (∀ a ∈ args, wfV 8 a) → awp 0 Try.prog (at? h52) [] (Try.f52.body.getD .skip) (finK Try.prog Try.f52.results.toList r) (env0 args) []) : Ret Try.prog 52 args r :=
  Ret.of mixed (at? h52) [] Try.func52 rfl Try.call52 (by kernel_rfl) (by rw [hn]; exact of_decide_eq_true (by kernel_rfl)) hk

/-! ### octavo/value.Cmp$1: function 54 -/
/-- no loop -/
def h54 : List (List Nat) := [[2, 3], [2, 3, 7], [2, 3, 7, 11], [2, 3, 7], [2, 3, 7, 19], [2, 7], [2, 7], [2, 7, 23], [2, 7, 23, 24], [2, 7, 23, 24], [4, 5, 6], [2, 7, 30], [4, 5, 6], [4, 5, 6]]
theorem rl54 {args : List V} {r : V} {s1 s2 : List O} (hn : args.length = 2) (hk : (∀ a ∈ args, wfV 8 a) → wfL s1 → awp s1.length Try.prog (at? h54) [] (Try.f54.body.getD .skip) (finL Try.prog Try.f54.results.toList r s2 (keepG s1.length) true s1.length) (env0 args) s1) : RetL Try.prog 54 args s1 r s2 :=
  RetL.of mixed (at? h54) [] Try.func54 rfl Try.call54 (by kernel_rfl) (by rw [hn]; exact of_decide_eq_true (by kernel_rfl)) (keepG s1.length) true hk
theorem rq54 {args : List V} {s1 : List O} {Q : V → List O → Prop} (hn : args.length = 2) (hk : (∀ a ∈ args, wfV 8 a) → wfL s1 → awp s1.length Try.prog (at? h54) [] (Try.f54.body.getD .skip) (finQ Try.prog Try.f54.results.toList Q) (env0 args) s1) : RetQ Try.prog 54 args s1 Q :=
  RetQ.of mixed (at? h54) [] Try.func54 rfl Try.call54 (by kernel_rfl) (by rw [hn]; exact of_decide_eq_true (by kernel_rfl)) hk
theorem r54 {args : List V} {r : V} (hn : args.length = 2) (hk : (∀ a ∈ args, wfV 8 a) → awp 0 Try.prog (at? h54) [] (Try.f54.body.getD .skip) (finK Try.prog Try.f54.results.toList r) (env0 args) []) : Ret Try.prog 54 args r :=
  Ret.of mixed (at? h54) [] Try.func54 rfl Try.call54 (by kernel_rfl) (by rw [hn]; exact of_decide_eq_true (by kernel_rfl)) hk

/-! ### octavo/value.order: function 55 -/
/-- no loop -/
def h55 : List (List Nat) := [[0], [3], [2], [2]]
theorem rl55 {args : List V} {r : V} {s1 s2 : List O} (hn : args.length = 1) (hk : (∀ a ∈ args, wfV 8 a) → wfL s1 → awp s1.length Try.prog (at? h55) [] (Try.f55.body.getD .skip) (finL Try.prog Try.f55.results.toList r s2 (keepG s1.length) true s1.length) (env0 args) s1) : RetL Try.prog 55 args s1 r s2 :=
  RetL.of mixed (at? h55) [] Try.func55 rfl Try.call55 (by kernel_rfl) (by rw [hn]; exact of_decide_eq_true (by kernel_rfl)) (keepG s1.length) true hk
theorem rq55 {args : List V} {s1 : List O} {Q : V → List O → Prop} (hn : args.length = 1) (hk : (∀ a ∈ args, wfV 8 a) → wfL s1 → awp s1.length Try.prog (at? h55) [] (Try.f55.body.getD .skip) (finQ Try.prog Try.f55.results.toList Q) (env0 args) s1) : RetQ Try.prog 55 args s1 Q :=
  RetQ.of mixed (at? h55) [] Try.func55 rfl Try.call55 (by kernel_rfl) (by rw [hn]; exact of_decide_eq_true (by kernel_rfl)) hk
theorem r55 {args : List V} {r : V} (hn : args.length = 1) (hk : (∀ a ∈ args, wfV 8 a) → awp 0 Try.prog (at? h55) [] (Try.f55.body.getD .skip) (finK Try.prog Try.f55.results.toList r) (env0 args) []) : Ret Try.prog 55 args r :=
  Ret.of mixed (at? h55) [] Try.func55 rfl Try.call55 (by kernel_rfl) (by rw [hn]; exact of_decide_eq_true (by kernel_rfl)) hk
abbrev rq_octavolaw21_LookupNear := @rq4
abbrev rl_octavolaw21_LookupNear := @rl4
abbrev F_octavolaw21_LookupNear : FuncId := 4
abbrev r_octavolaw21_LookupNear := @r4
abbrev rq_octavolaw21_lives := @rq8
abbrev rl_octavolaw21_lives := @rl8
abbrev F_octavolaw21_lives : FuncId := 8
abbrev r_octavolaw21_lives := @r8
abbrev rq_lookup_Call := @rq9
abbrev rl_lookup_Call := @rl9
abbrev F_lookup_Call : FuncId := 9
abbrev r_lookup_Call := @r9
abbrev rq_octavolaw21_ask := @rq11
abbrev rl_octavolaw21_ask := @rl11
abbrev F_octavolaw21_ask : FuncId := 11
abbrev r_octavolaw21_ask := @r11
abbrev rq_octavolaw21_number := @rq12
abbrev rl_octavolaw21_number := @rl12
abbrev F_octavolaw21_number : FuncId := 12
abbrev r_octavolaw21_number := @r12
abbrev rq_lookup_find := @rq14
abbrev rl_lookup_find := @rl14
abbrev F_lookup_find : FuncId := 14
abbrev r_lookup_find := @r14
abbrev rq_value_Bad := @rq15
abbrev rl_value_Bad := @rl15
abbrev F_value_Bad : FuncId := 15
abbrev r_value_Bad := @r15
abbrev rq_octavolaw21_one := @rq17
abbrev rl_octavolaw21_one := @rl17
abbrev F_octavolaw21_one : FuncId := 17
abbrev r_octavolaw21_one := @r17
abbrev rq_lookup_sized := @rq18
abbrev rl_lookup_sized := @rl18
abbrev F_lookup_sized : FuncId := 18
abbrev r_lookup_sized := @r18
abbrev rq_lookup_find_2 := @rq20
abbrev rl_lookup_find_2 := @rl20
abbrev F_lookup_find_2 : FuncId := 20
abbrev r_lookup_find_2 := @r20
abbrev rq_lookup_index := @rq22
abbrev rl_lookup_index := @rl22
abbrev F_lookup_index : FuncId := 22
abbrev r_lookup_index := @r22
abbrev rq_lookup_place := @rq24
abbrev rl_lookup_place := @rl24
abbrev F_lookup_place : FuncId := 24
abbrev r_lookup_place := @r24
abbrev rq_lookup_lines := @rq25
abbrev rl_lookup_lines := @rl25
abbrev F_lookup_lines : FuncId := 25
abbrev r_lookup_lines := @r25
abbrev rq_lookup_sized_1 := @rq27
abbrev rl_lookup_sized_1 := @rl27
abbrev F_lookup_sized_1 : FuncId := 27
abbrev r_lookup_sized_1 := @r27
abbrev rq_lookup_goods := @rq28
abbrev rl_lookup_goods := @rl28
abbrev F_lookup_goods : FuncId := 28
abbrev r_lookup_goods := @r28
abbrev rq_lookup_whole := @rq29
abbrev rl_lookup_whole := @rl29
abbrev F_lookup_whole : FuncId := 29
abbrev r_lookup_whole := @r29
abbrev rq_lookup_ints := @rq31
abbrev rl_lookup_ints := @rl31
abbrev F_lookup_ints : FuncId := 31
abbrev r_lookup_ints := @r31
abbrev rq_lookup_grid_at := @rq32
abbrev rl_lookup_grid_at := @rl32
abbrev F_lookup_grid_at : FuncId := 32
abbrev r_lookup_grid_at := @r32
abbrev rq_maths_One := @rq33
abbrev rl_maths_One := @rl33
abbrev F_maths_One : FuncId := 33
abbrev r_maths_One := @r33
abbrev rq_lookup_grid_line := @rq34
abbrev rl_lookup_grid_line := @rl34
abbrev F_lookup_grid_line : FuncId := 34
abbrev r_lookup_grid_line := @r34
abbrev rq_lookup_match := @rq35
abbrev rl_lookup_match := @rl35
abbrev F_lookup_match : FuncId := 35
abbrev r_lookup_match := @r35
abbrev rq_lookup_grid_nth := @rq36
abbrev rl_lookup_grid_nth := @rl36
abbrev F_lookup_grid_nth : FuncId := 36
abbrev r_lookup_grid_nth := @r36
abbrev rq_lookup_lines_1 := @rq37
abbrev rl_lookup_lines_1 := @rl37
abbrev F_lookup_lines_1 : FuncId := 37
abbrev r_lookup_lines_1 := @r37
abbrev rq_maths_Good := @rq42
abbrev rl_maths_Good := @rl42
abbrev F_maths_Good : FuncId := 42
abbrev r_maths_Good := @r42
abbrev rq_value_Of := @rq43
abbrev rl_value_Of := @rl43
abbrev F_value_Of : FuncId := 43
abbrev r_value_Of := @r43
abbrev rq_value_ToNum := @rq46
abbrev rl_value_ToNum := @rl46
abbrev F_value_ToNum : FuncId := 46
abbrev r_value_ToNum := @r46
abbrev rq_num_Whole := @rq47
abbrev rl_num_Whole := @rl47
abbrev F_num_Whole : FuncId := 47
abbrev r_num_Whole := @r47
abbrev rq_value_Cmp := @rq48
abbrev rl_value_Cmp := @rl48
abbrev F_value_Cmp : FuncId := 48
abbrev r_value_Cmp := @r48
abbrev rq_value_own := @rq49
abbrev rl_value_own := @rl49
abbrev F_value_own : FuncId := 49
abbrev r_value_own := @r49
abbrev rq_value_Good := @rq51
abbrev rl_value_Good := @rl51
abbrev F_value_Good : FuncId := 51
abbrev r_value_Good := @r51
abbrev rq_num_Good := @rq52
abbrev rl_num_Good := @rl52
abbrev F_num_Good : FuncId := 52
abbrev r_num_Good := @r52
abbrev rq_value_Cmp_1 := @rq54
abbrev rl_value_Cmp_1 := @rl54
abbrev F_value_Cmp_1 : FuncId := 54
abbrev r_value_Cmp_1 := @r54
abbrev rq_value_order := @rq55
abbrev rl_value_order := @rl55
abbrev F_value_order : FuncId := 55
abbrev r_value_order := @r55
end Go.Proofs.Ytkkfclpodgagdaa.R
