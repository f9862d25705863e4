/- Each function of the program: what is kept behind each of its pieces, and its own form of the rule. -/
import Derived.Test.YtcbknemdidehlaaGreatDoorCore2
import Derived.Test.YtcbknemdidehlaaGreatDoorProg
namespace Go.Proofs.YtcbknemdidehlaaGreatDoor.R
open Go.Proofs.YtcbknemdidehlaaGreatDoor.Ab
set_option maxRecDepth 20000
theorem mixed : Tryz.prog.follows .mixedOrders = true := by kernel_rfl
def h3 : List (List Nat) := [[0, 1], [0, 1, 9], [4], [5, 6], [5, 18], [4], [27], [4], [4]]
theorem r3 {args : List V} {r : V} (hn : args.length = 2) (hk : (∀ a ∈ args, wfV 8 a) → awp 0 Tryz.prog (at? h3) [] (Tryz.f3.body.getD .skip) (finK Tryz.prog Tryz.f3.results.toList r) (env0 args) []) : Ret Tryz.prog 3 args r :=
 Ret.of mixed (at? h3) [] Tryz.func3 rfl Tryz.call3 (by kernel_rfl) (by rw [hn]; exact of_decide_eq_true (by kernel_rfl)) hk
def h9 : List (List Nat) := [[0], [0, 3], [3, 10, 11, 12], [3, 10, 11, 12, 13], [3, 5, 10, 11, 12], [3, 5, 10, 11, 12], [3, 10, 11, 12, 22, 23, 24], [3, 10, 11, 12, 22, 23, 24, 25], [3, 7, 10, 11, 12, 22, 23, 24], [3, 10, 11, 12, 22, 23, 24], [3, 10, 11, 12, 22, 23, 24], [3, 10, 11, 12], [2]]
theorem r9 {args : List V} {r : V} (hn : args.length = 1) (hk : (∀ a ∈ args, wfV 8 a) → awp 0 Tryz.prog (at? h9) [] (Tryz.f9.body.getD .skip) (finK Tryz.prog Tryz.f9.results.toList r) (env0 args) []) : Ret Tryz.prog 9 args r :=
 Ret.of mixed (at? h9) [] Tryz.func9 rfl Tryz.call9 (by kernel_rfl) (by rw [hn]; exact of_decide_eq_true (by kernel_rfl)) hk
def h10 : List (List Nat) := [[], [0]]
theorem r10 {args : List V} {r : V} (hn : args.length = 0) (hk : (∀ a ∈ args, wfV 8 a) → awp 0 Tryz.prog (at? h10) [] (Tryz.f10.body.getD .skip) (finK Tryz.prog Tryz.f10.results.toList r) (env0 args) []) : Ret Tryz.prog 10 args r :=
 Ret.of mixed (at? h10) [] Tryz.func10 rfl Tryz.call10 (by kernel_rfl) (by rw [hn]; exact of_decide_eq_true (by kernel_rfl)) hk
def h11 : List (List Nat) := [[0, 1, 4], [1, 4, 6, 7, 8], [1, 4, 6, 7, 8, 15], [4, 5], [1, 4, 6, 8, 19], [1, 4, 6, 19], [4, 5], [4, 5]]
theorem r11 {args : List V} {r : V} (hn : args.length = 2) (hk : (∀ a ∈ args, wfV 8 a) → awp 0 Tryz.prog (at? h11) [] (Tryz.f11.body.getD .skip) (finK Tryz.prog Tryz.f11.results.toList r) (env0 args) []) : Ret Tryz.prog 11 args r :=
 Ret.of mixed (at? h11) [] Tryz.func11 rfl Tryz.call11 (by kernel_rfl) (by rw [hn]; exact of_decide_eq_true (by kernel_rfl)) hk
def h12 : List (List Nat) := [[1], [1, 4], [1, 4, 5], [2], [1, 4, 10], [2], [1, 4, 20], [2], [1, 4, 31], [2], [1, 46], [2], [2]]
theorem r12 {args : List V} {r : V} (hn : args.length = 1) (hk : (∀ a ∈ args, wfV 8 a) → awp 0 Tryz.prog (at? h12) [] (Tryz.f12.body.getD .skip) (finK Tryz.prog Tryz.f12.results.toList r) (env0 args) []) : Ret Tryz.prog 12 args r :=
 Ret.of mixed (at? h12) [] Tryz.func12 rfl Tryz.call12 (by kernel_rfl) (by rw [hn]; exact of_decide_eq_true (by kernel_rfl)) hk
def h13 : List (List Nat) := [[0, 1, 4], [4, 5], [4]]
theorem r13 {args : List V} {r : V} (hn : args.length = 2) (hk : (∀ a ∈ args, wfV 8 a) → awp 0 Tryz.prog (at? h13) [] (Tryz.f13.body.getD .skip) (finK Tryz.prog Tryz.f13.results.toList r) (env0 args) []) : Ret Tryz.prog 13 args r :=
 Ret.of mixed (at? h13) [] Tryz.func13 rfl Tryz.call13 (by kernel_rfl) (by rw [hn]; exact of_decide_eq_true (by kernel_rfl)) hk
def h14 : List (List Nat) := [[0, 2], [2]]
theorem r14 {args : List V} {r : V} (hn : args.length = 1) (hk : (∀ a ∈ args, wfV 8 a) → awp 0 Tryz.prog (at? h14) [] (Tryz.f14.body.getD .skip) (finK Tryz.prog Tryz.f14.results.toList r) (env0 args) []) : Ret Tryz.prog 14 args r :=
 Ret.of mixed (at? h14) [] Tryz.func14 rfl Tryz.call14 (by kernel_rfl) (by rw [hn]; exact of_decide_eq_true (by kernel_rfl)) hk
def h15 : List (List Nat) := [[0, 2], [2]]
theorem r15 {args : List V} {r : V} (hn : args.length = 1) (hk : (∀ a ∈ args, wfV 8 a) → awp 0 Tryz.prog (at? h15) [] (Tryz.f15.body.getD .skip) (finK Tryz.prog Tryz.f15.results.toList r) (env0 args) []) : Ret Tryz.prog 15 args r :=
 Ret.of mixed (at? h15) [] Tryz.func15 rfl Tryz.call15 (by kernel_rfl) (by rw [hn]; exact of_decide_eq_true (by kernel_rfl)) hk
def h17 : List (List Nat) := [[1, 2], [2]]
theorem r17 {args : List V} {r : V} (hn : args.length = 1) (hk : (∀ a ∈ args, wfV 8 a) → awp 0 Tryz.prog (at? h17) [] (Tryz.f17.body.getD .skip) (finK Tryz.prog Tryz.f17.results.toList r) (env0 args) []) : Ret Tryz.prog 17 args r :=
 Ret.of mixed (at? h17) [] Tryz.func17 rfl Tryz.call17 (by kernel_rfl) (by rw [hn]; exact of_decide_eq_true (by kernel_rfl)) hk
def h21 : List (List Nat) := [[0], [5], [5, 6], [2, 3, 4], [5, 9], [2, 3, 4], [5, 12], [2, 3, 4], [5, 15], [2, 3, 4], [5, 18], [2, 3, 4], [5, 21], [2, 3, 4], [5, 24], [2, 3, 4], [5, 27], [2, 3, 4], [5, 30], [2, 3, 4], [5, 33], [2, 3, 4], [5, 36], [2, 3, 4], [5, 38], [2, 3, 4], [5, 41], [2, 3, 4], [5, 44], [2, 3, 4], [5, 46], [2, 3, 4], [5, 48], [2, 3, 4], [5, 50], [2, 3, 4], [5, 52], [2, 3, 4], [5, 55], [2, 3, 4], [5, 58], [2, 3, 4], [5, 60], [2, 3, 4], [5, 62], [2, 3, 4], [64], [2, 3, 4], [2, 3, 4]]
theorem r21 {args : List V} {r : V} (hn : args.length = 1) (hk : (∀ a ∈ args, wfV 8 a) → awp 0 Tryz.prog (at? h21) [] (Tryz.f21.body.getD .skip) (finK Tryz.prog Tryz.f21.results.toList r) (env0 args) []) : Ret Tryz.prog 21 args r :=
 Ret.of mixed (at? h21) [] Tryz.func21 rfl Tryz.call21 (by kernel_rfl) (by rw [hn]; exact of_decide_eq_true (by kernel_rfl)) hk
def h22 : List (List Nat) := [[0, 2], [0, 2, 8], [0, 2], [2]]
theorem r22 {args : List V} {r : V} (hn : args.length = 1) (hk : (∀ a ∈ args, wfV 8 a) → awp 0 Tryz.prog (at? h22) [] (Tryz.f22.body.getD .skip) (finK Tryz.prog Tryz.f22.results.toList r) (env0 args) []) : Ret Tryz.prog 22 args r :=
 Ret.of mixed (at? h22) [] Tryz.func22 rfl Tryz.call22 (by kernel_rfl) (by rw [hn]; exact of_decide_eq_true (by kernel_rfl)) hk
def h23 : List (List Nat) := [[0], [2]]
theorem r23 {args : List V} {r : V} (hn : args.length = 1) (hk : (∀ a ∈ args, wfV 8 a) → awp 0 Tryz.prog (at? h23) [] (Tryz.f23.body.getD .skip) (finK Tryz.prog Tryz.f23.results.toList r) (env0 args) []) : Ret Tryz.prog 23 args r :=
 Ret.of mixed (at? h23) [] Tryz.func23 rfl Tryz.call23 (by kernel_rfl) (by rw [hn]; exact of_decide_eq_true (by kernel_rfl)) hk
def h44 : List (List Nat) := [[1], [2]]
theorem rq44 {args : List V} {s1 : List O} {Q : V → List O → Prop} (hn : args.length = 1) (hk : (∀ a ∈ args, wfV 8 a) → wfL s1 → awp s1.length Tryz.prog (at? h44) [] (Tryz.f44.body.getD .skip) (finQ Tryz.prog Tryz.f44.results.toList Q) (env0 args) s1) : RetQ Tryz.prog 44 args s1 Q :=
 RetQ.of mixed (at? h44) [] Tryz.func44 rfl Tryz.call44 (by kernel_rfl) (by rw [hn]; exact of_decide_eq_true (by kernel_rfl)) hk
def h45 : List (List Nat) := [[0, 2], [2]]
theorem r45 {args : List V} {r : V} (hn : args.length = 1) (hk : (∀ a ∈ args, wfV 8 a) → awp 0 Tryz.prog (at? h45) [] (Tryz.f45.body.getD .skip) (finK Tryz.prog Tryz.f45.results.toList r) (env0 args) []) : Ret Tryz.prog 45 args r :=
 Ret.of mixed (at? h45) [] Tryz.func45 rfl Tryz.call45 (by kernel_rfl) (by rw [hn]; exact of_decide_eq_true (by kernel_rfl)) hk
def h46 : List (List Nat) := [[0, 2], [2]]
theorem r46 {args : List V} {r : V} (hn : args.length = 1) (hk : (∀ a ∈ args, wfV 8 a) → awp 0 Tryz.prog (at? h46) [] (Tryz.f46.body.getD .skip) (finK Tryz.prog Tryz.f46.results.toList r) (env0 args) []) : Ret Tryz.prog 46 args r :=
 Ret.of mixed (at? h46) [] Tryz.func46 rfl Tryz.call46 (by kernel_rfl) (by rw [hn]; exact of_decide_eq_true (by kernel_rfl)) hk
def h48 : List (List Nat) := [[1], [2]]
theorem rq48 {args : List V} {s1 : List O} {Q : V → List O → Prop} (hn : args.length = 1) (hk : (∀ a ∈ args, wfV 8 a) → wfL s1 → awp s1.length Tryz.prog (at? h48) [] (Tryz.f48.body.getD .skip) (finQ Tryz.prog Tryz.f48.results.toList Q) (env0 args) s1) : RetQ Tryz.prog 48 args s1 Q :=
 RetQ.of mixed (at? h48) [] Tryz.func48 rfl Tryz.call48 (by kernel_rfl) (by rw [hn]; exact of_decide_eq_true (by kernel_rfl)) hk
def h52 : List (List Nat) := [[0], [3], [2]]
theorem r52 {args : List V} {r : V} (hn : args.length = 1) (hk : (∀ a ∈ args, wfV 8 a) → awp 0 Tryz.prog (at? h52) [] (Tryz.f52.body.getD .skip) (finK Tryz.prog Tryz.f52.results.toList r) (env0 args) []) : Ret Tryz.prog 52 args r :=
 Ret.of mixed (at? h52) [] Tryz.func52 rfl Tryz.call52 (by kernel_rfl) (by rw [hn]; exact of_decide_eq_true (by kernel_rfl)) hk
def h53 : List (List Nat) := [[0], [3], [3], [2]]
theorem r53 {args : List V} {r : V} (hn : args.length = 1) (hk : (∀ a ∈ args, wfV 8 a) → awp 0 Tryz.prog (at? h53) [] (Tryz.f53.body.getD .skip) (finK Tryz.prog Tryz.f53.results.toList r) (env0 args) []) : Ret Tryz.prog 53 args r :=
 Ret.of mixed (at? h53) [] Tryz.func53 rfl Tryz.call53 (by kernel_rfl) (by rw [hn]; exact of_decide_eq_true (by kernel_rfl)) hk
def h54 : List (List Nat) := [[0, 2], [2, 6], [2, 7, 8], [2, 4], [2], [2]]
theorem r54 {args : List V} {r : V} (hn : args.length = 1) (hk : (∀ a ∈ args, wfV 8 a) → awp 0 Tryz.prog (at? h54) [] (Tryz.f54.body.getD .skip) (finK Tryz.prog Tryz.f54.results.toList r) (env0 args) []) : Ret Tryz.prog 54 args r :=
 Ret.of mixed (at? h54) [] Tryz.func54 rfl Tryz.call54 (by kernel_rfl) (by rw [hn]; exact of_decide_eq_true (by kernel_rfl)) hk
def h55 : List (List Nat) := [[0, 2], [2, 3, 4], [2, 3, 4, 12], [2], [2]]
theorem r55 {args : List V} {r : V} (hn : args.length = 1) (hk : (∀ a ∈ args, wfV 8 a) → awp 0 Tryz.prog (at? h55) [] (Tryz.f55.body.getD .skip) (finK Tryz.prog Tryz.f55.results.toList r) (env0 args) []) : Ret Tryz.prog 55 args r :=
 Ret.of mixed (at? h55) [] Tryz.func55 rfl Tryz.call55 (by kernel_rfl) (by rw [hn]; exact of_decide_eq_true (by kernel_rfl)) hk
def h56 : List (List Nat) := [[1], [12], [12, 14, 15], [], [2, 3], [12, 17, 18], [5], [2, 3], [12, 21, 22], [6], [23], [2, 3], [2, 3], [12, 25, 26], [7], [8, 9], [8, 32], [2, 3], [35, 36], [10], [2, 3], [2, 3]]
theorem r56 {args : List V} {r : V} (hn : args.length = 1) (hk : (∀ a ∈ args, wfV 8 a) → awp 0 Tryz.prog (at? h56) [] (Tryz.f56.body.getD .skip) (finK Tryz.prog Tryz.f56.results.toList r) (env0 args) []) : Ret Tryz.prog 56 args r :=
 Ret.of mixed (at? h56) [] Tryz.func56 rfl Tryz.call56 (by kernel_rfl) (by rw [hn]; exact of_decide_eq_true (by kernel_rfl)) hk
def h57 : List (List Nat) := [[0, 1, 4], [0, 4, 9], [4], [4]]
theorem r57 {args : List V} {r : V} (hn : args.length = 2) (hk : (∀ a ∈ args, wfV 8 a) → awp 0 Tryz.prog (at? h57) [] (Tryz.f57.body.getD .skip) (finK Tryz.prog Tryz.f57.results.toList r) (env0 args) []) : Ret Tryz.prog 57 args r :=
 Ret.of mixed (at? h57) [] Tryz.func57 rfl Tryz.call57 (by kernel_rfl) (by rw [hn]; exact of_decide_eq_true (by kernel_rfl)) hk
def h58 : List (List Nat) := [[2, 3], [4]]
theorem rq58 {args : List V} {s1 : List O} {Q : V → List O → Prop} (hn : args.length = 2) (hk : (∀ a ∈ args, wfV 8 a) → wfL s1 → awp s1.length Tryz.prog (at? h58) [] (Tryz.f58.body.getD .skip) (finQ Tryz.prog Tryz.f58.results.toList Q) (env0 args) s1) : RetQ Tryz.prog 58 args s1 Q :=
 RetQ.of mixed (at? h58) [] Tryz.func58 rfl Tryz.call58 (by kernel_rfl) (by rw [hn]; exact of_decide_eq_true (by kernel_rfl)) hk
def h59 : List (List Nat) := [[2], [2]]
theorem r59 {args : List V} {r : V} (hn : args.length = 1) (hk : (∀ a ∈ args, wfV 8 a) → awp 0 Tryz.prog (at? h59) [] (Tryz.f59.body.getD .skip) (finK Tryz.prog Tryz.f59.results.toList r) (env0 args) []) : Ret Tryz.prog 59 args r :=
 Ret.of mixed (at? h59) [] Tryz.func59 rfl Tryz.call59 (by kernel_rfl) (by rw [hn]; exact of_decide_eq_true (by kernel_rfl)) hk
def h60 : List (List Nat) := [[0, 2], [0, 2, 5], [2], [2]]
theorem r60 {args : List V} {r : V} (hn : args.length = 1) (hk : (∀ a ∈ args, wfV 8 a) → awp 0 Tryz.prog (at? h60) [] (Tryz.f60.body.getD .skip) (finK Tryz.prog Tryz.f60.results.toList r) (env0 args) []) : Ret Tryz.prog 60 args r :=
 Ret.of mixed (at? h60) [] Tryz.func60 rfl Tryz.call60 (by kernel_rfl) (by rw [hn]; exact of_decide_eq_true (by kernel_rfl)) hk
def h61 : List (List Nat) := [[1, 2], [1, 2, 5], [2], [2]]
theorem r61 {args : List V} {r : V} (hn : args.length = 1) (hk : (∀ a ∈ args, wfV 8 a) → awp 0 Tryz.prog (at? h61) [] (Tryz.f61.body.getD .skip) (finK Tryz.prog Tryz.f61.results.toList r) (env0 args) []) : Ret Tryz.prog 61 args r :=
 Ret.of mixed (at? h61) [] Tryz.func61 rfl Tryz.call61 (by kernel_rfl) (by rw [hn]; exact of_decide_eq_true (by kernel_rfl)) hk
def h62 : List (List Nat) := [[0, 2], [0, 2, 3], [2]]
theorem rl62 {args : List V} {r : V} {s1 s2 : List O} (hn : args.length = 1) (hk : (∀ a ∈ args, wfV 8 a) → wfL s1 → awp s1.length Tryz.prog (at? h62) [] (Tryz.f62.body.getD .skip) (finL Tryz.prog Tryz.f62.results.toList r s2 (keepG s1.length) true s1.length) (env0 args) s1) : RetL Tryz.prog 62 args s1 r s2 :=
 RetL.of mixed (at? h62) [] Tryz.func62 rfl Tryz.call62 (by kernel_rfl) (by rw [hn]; exact of_decide_eq_true (by kernel_rfl)) (keepG s1.length) true hk
def h63 : List (List Nat) := [[1], [2]]
theorem rq63 {args : List V} {s1 : List O} {Q : V → List O → Prop} (hn : args.length = 1) (hk : (∀ a ∈ args, wfV 8 a) → wfL s1 → awp s1.length Tryz.prog (at? h63) [] (Tryz.f63.body.getD .skip) (finQ Tryz.prog Tryz.f63.results.toList Q) (env0 args) s1) : RetQ Tryz.prog 63 args s1 Q :=
 RetQ.of mixed (at? h63) [] Tryz.func63 rfl Tryz.call63 (by kernel_rfl) (by rw [hn]; exact of_decide_eq_true (by kernel_rfl)) hk
def h64 : List (List Nat) := [[0, 2], [0, 2, 3], [0, 2, 3, 4, 5], [2]]
theorem rl64 {args : List V} {r : V} {s1 s2 : List O} (hn : args.length = 1) (hk : (∀ a ∈ args, wfV 8 a) → wfL s1 → awp s1.length Tryz.prog (at? h64) [] (Tryz.f64.body.getD .skip) (finL Tryz.prog Tryz.f64.results.toList r s2 (keepG s1.length) true s1.length) (env0 args) s1) : RetL Tryz.prog 64 args s1 r s2 :=
 RetL.of mixed (at? h64) [] Tryz.func64 rfl Tryz.call64 (by kernel_rfl) (by rw [hn]; exact of_decide_eq_true (by kernel_rfl)) (keepG s1.length) true hk
def h65 : List (List Nat) := [[0, 2], [0, 2, 3], [0, 2, 3, 4, 5], [0, 2, 3, 4, 5, 6], [2]]
theorem rl65 {args : List V} {r : V} {s1 s2 : List O} (hn : args.length = 1) (hk : (∀ a ∈ args, wfV 8 a) → wfL s1 → awp s1.length Tryz.prog (at? h65) [] (Tryz.f65.body.getD .skip) (finL Tryz.prog Tryz.f65.results.toList r s2 (keepG s1.length) true s1.length) (env0 args) s1) : RetL Tryz.prog 65 args s1 r s2 :=
 RetL.of mixed (at? h65) [] Tryz.func65 rfl Tryz.call65 (by kernel_rfl) (by rw [hn]; exact of_decide_eq_true (by kernel_rfl)) (keepG s1.length) true hk
def h66 : List (List Nat) := [[0, 2], [0, 2, 3, 4], [2]]
theorem rl66 {args : List V} {r : V} {s1 s2 : List O} (hn : args.length = 1) (hk : (∀ a ∈ args, wfV 8 a) → wfL s1 → awp s1.length Tryz.prog (at? h66) [] (Tryz.f66.body.getD .skip) (finL Tryz.prog Tryz.f66.results.toList r s2 (keepG s1.length) true s1.length) (env0 args) s1) : RetL Tryz.prog 66 args s1 r s2 :=
 RetL.of mixed (at? h66) [] Tryz.func66 rfl Tryz.call66 (by kernel_rfl) (by rw [hn]; exact of_decide_eq_true (by kernel_rfl)) (keepG s1.length) true hk
def h67 : List (List Nat) := [[0, 2], [0, 2, 3, 4], [2]]
theorem rl67 {args : List V} {r : V} {s1 s2 : List O} (hn : args.length = 1) (hk : (∀ a ∈ args, wfV 8 a) → wfL s1 → awp s1.length Tryz.prog (at? h67) [] (Tryz.f67.body.getD .skip) (finL Tryz.prog Tryz.f67.results.toList r s2 (keepG s1.length) true s1.length) (env0 args) s1) : RetL Tryz.prog 67 args s1 r s2 :=
 RetL.of mixed (at? h67) [] Tryz.func67 rfl Tryz.call67 (by kernel_rfl) (by rw [hn]; exact of_decide_eq_true (by kernel_rfl)) (keepG s1.length) true hk
def h68 : List (List Nat) := [[0], [0, 3, 4], [0, 3, 13], [2], [0, 5, 6], [5], [2]]
theorem rl68 {args : List V} {r : V} {s1 s2 : List O} (hn : args.length = 1) (hk : (∀ a ∈ args, wfV 8 a) → wfL s1 → awp s1.length Tryz.prog (at? h68) [] (Tryz.f68.body.getD .skip) (finL Tryz.prog Tryz.f68.results.toList r s2 (keepG s1.length) true s1.length) (env0 args) s1) : RetL Tryz.prog 68 args s1 r s2 :=
 RetL.of mixed (at? h68) [] Tryz.func68 rfl Tryz.call68 (by kernel_rfl) (by rw [hn]; exact of_decide_eq_true (by kernel_rfl)) (keepG s1.length) true hk
def h69 : List (List Nat) := [[0, 1, 2, 6], [0, 1, 2, 6, 7], [6], [2, 6, 18], [6], [6]]
theorem rq69 {args : List V} {s1 : List O} {Q : V → List O → Prop} (hn : args.length = 3) (hk : (∀ a ∈ args, wfV 8 a) → wfL s1 → awp s1.length Tryz.prog (at? h69) [] (Tryz.f69.body.getD .skip) (finQ Tryz.prog Tryz.f69.results.toList Q) (env0 args) s1) : RetQ Tryz.prog 69 args s1 Q :=
 RetQ.of mixed (at? h69) [] Tryz.func69 rfl Tryz.call69 (by kernel_rfl) (by rw [hn]; exact of_decide_eq_true (by kernel_rfl)) hk
theorem r69 {args : List V} {r : V} (hn : args.length = 3) (hk : (∀ a ∈ args, wfV 8 a) → awp 0 Tryz.prog (at? h69) [] (Tryz.f69.body.getD .skip) (finK Tryz.prog Tryz.f69.results.toList r) (env0 args) []) : Ret Tryz.prog 69 args r :=
 Ret.of mixed (at? h69) [] Tryz.func69 rfl Tryz.call69 (by kernel_rfl) (by rw [hn]; exact of_decide_eq_true (by kernel_rfl)) hk
def h70 : List (List Nat) := [[0, 1, 2], [2, 5], [2], [2]]
theorem rq70 {args : List V} {s1 : List O} {Q : V → List O → Prop} (hn : args.length = 2) (hk : (∀ a ∈ args, wfV 8 a) → wfL s1 → awp s1.length Tryz.prog (at? h70) [] (Tryz.f70.body.getD .skip) (finQ Tryz.prog Tryz.f70.results.toList Q) (env0 args) s1) : RetQ Tryz.prog 70 args s1 Q :=
 RetQ.of mixed (at? h70) [] Tryz.func70 rfl Tryz.call70 (by kernel_rfl) (by rw [hn]; exact of_decide_eq_true (by kernel_rfl)) hk
def h71 : List (List Nat) := [[1], [2]]
theorem rq71 {args : List V} {s1 : List O} {Q : V → List O → Prop} (hn : args.length = 1) (hk : (∀ a ∈ args, wfV 8 a) → wfL s1 → awp s1.length Tryz.prog (at? h71) [] (Tryz.f71.body.getD .skip) (finQ Tryz.prog Tryz.f71.results.toList Q) (env0 args) s1) : RetQ Tryz.prog 71 args s1 Q :=
 RetQ.of mixed (at? h71) [] Tryz.func71 rfl Tryz.call71 (by kernel_rfl) (by rw [hn]; exact of_decide_eq_true (by kernel_rfl)) hk
def h72 : List (List Nat) := [[0], [2]]
theorem r72 {args : List V} {r : V} (hn : args.length = 1) (hk : (∀ a ∈ args, wfV 8 a) → awp 0 Tryz.prog (at? h72) [] (Tryz.f72.body.getD .skip) (finK Tryz.prog Tryz.f72.results.toList r) (env0 args) []) : Ret Tryz.prog 72 args r :=
 Ret.of mixed (at? h72) [] Tryz.func72 rfl Tryz.call72 (by kernel_rfl) (by rw [hn]; exact of_decide_eq_true (by kernel_rfl)) hk
def h73 : List (List Nat) := [[0, 2], [0, 2, 3, 4, 5], [0, 2, 3, 4, 5, 6], [0, 2, 3, 4, 5, 6, 7], [2]]
theorem rl73 {args : List V} {r : V} {s1 s2 : List O} (hn : args.length = 1) (hk : (∀ a ∈ args, wfV 8 a) → wfL s1 → awp s1.length Tryz.prog (at? h73) [] (Tryz.f73.body.getD .skip) (finL Tryz.prog Tryz.f73.results.toList r s2 (keepG s1.length) true s1.length) (env0 args) s1) : RetL Tryz.prog 73 args s1 r s2 :=
 RetL.of mixed (at? h73) [] Tryz.func73 rfl Tryz.call73 (by kernel_rfl) (by rw [hn]; exact of_decide_eq_true (by kernel_rfl)) (keepG s1.length) true hk
def h74 : List (List Nat) := [[0, 2], [2]]
theorem rl74 {args : List V} {r : V} {s1 s2 : List O} (hn : args.length = 1) (hk : (∀ a ∈ args, wfV 8 a) → wfL s1 → awp s1.length Tryz.prog (at? h74) [] (Tryz.f74.body.getD .skip) (finL Tryz.prog Tryz.f74.results.toList r s2 (keepG s1.length) true s1.length) (env0 args) s1) : RetL Tryz.prog 74 args s1 r s2 :=
 RetL.of mixed (at? h74) [] Tryz.func74 rfl Tryz.call74 (by kernel_rfl) (by rw [hn]; exact of_decide_eq_true (by kernel_rfl)) (keepG s1.length) true hk
def h75 : List (List Nat) := [[0, 2, 4, 6], [0, 2, 4, 6, 7], [0, 2, 4, 6, 7, 17, 18, 19], [0, 2, 4, 6, 7, 17, 18, 19, 20], [0, 2, 4, 6, 7, 9, 17, 18, 19], [0, 2, 4, 6, 7, 9, 17, 18, 19, 32], [0, 2, 4, 6, 7, 9, 17, 18, 19], [0, 2, 4, 6, 7, 17, 18, 19, 37, 38, 39], [0, 2, 4, 6, 7, 17, 18, 19, 37, 38, 39, 40], [0, 2, 4, 6, 7, 11, 17, 18, 19, 37, 38, 39], [0, 2, 4, 6, 7, 11, 17, 18, 19, 37, 38, 39, 47], [0, 2, 4, 6, 7, 12, 13, 17, 18, 19, 37, 38, 39], [0, 2, 4, 6, 7, 12, 17, 18, 19, 37, 38, 39], [0, 2, 4, 6, 7, 12, 17, 18, 19, 37, 38, 39, 62], [0, 2, 4, 6, 7, 17, 18, 19, 37, 38, 39], [0, 2, 4, 6, 7, 17, 18, 19, 37, 38, 39], [0, 2, 4, 6, 7, 17, 18, 19], [6]]
theorem rl75 {args : List V} {r : V} {s1 s2 : List O} (hn : args.length = 3) (hk : (∀ a ∈ args, wfV 8 a) → wfL s1 → awp s1.length Tryz.prog (at? h75) [] (Tryz.f75.body.getD .skip) (finL Tryz.prog Tryz.f75.results.toList r s2 (keepG s1.length) true s1.length) (env0 args) s1) : RetL Tryz.prog 75 args s1 r s2 :=
 RetL.of mixed (at? h75) [] Tryz.func75 rfl Tryz.call75 (by kernel_rfl) (by rw [hn]; exact of_decide_eq_true (by kernel_rfl)) (keepG s1.length) true hk
def h76 : List (List Nat) := [[0, 2], [0, 2, 3], [0, 2, 3, 4], [2]]
theorem rl76 {args : List V} {r : V} {s1 s2 : List O} (hn : args.length = 1) (hk : (∀ a ∈ args, wfV 8 a) → wfL s1 → awp s1.length Tryz.prog (at? h76) [] (Tryz.f76.body.getD .skip) (finL Tryz.prog Tryz.f76.results.toList r s2 (keepG s1.length) true s1.length) (env0 args) s1) : RetL Tryz.prog 76 args s1 r s2 :=
 RetL.of mixed (at? h76) [] Tryz.func76 rfl Tryz.call76 (by kernel_rfl) (by rw [hn]; exact of_decide_eq_true (by kernel_rfl)) (keepG s1.length) true hk
def h77 : List (List Nat) := [[0], [0, 3, 4], [0, 3, 13], [2], [0, 5, 6], [5], [2]]
theorem rl77 {args : List V} {r : V} {s1 s2 : List O} (hn : args.length = 1) (hk : (∀ a ∈ args, wfV 8 a) → wfL s1 → awp s1.length Tryz.prog (at? h77) [] (Tryz.f77.body.getD .skip) (finL Tryz.prog Tryz.f77.results.toList r s2 (keepG s1.length) true s1.length) (env0 args) s1) : RetL Tryz.prog 77 args s1 r s2 :=
 RetL.of mixed (at? h77) [] Tryz.func77 rfl Tryz.call77 (by kernel_rfl) (by rw [hn]; exact of_decide_eq_true (by kernel_rfl)) (keepG s1.length) true hk
def h78 : List (List Nat) := [[0, 2], [0, 2, 3, 4], [2]]
theorem rl78 {args : List V} {r : V} {s1 s2 : List O} (hn : args.length = 1) (hk : (∀ a ∈ args, wfV 8 a) → wfL s1 → awp s1.length Tryz.prog (at? h78) [] (Tryz.f78.body.getD .skip) (finL Tryz.prog Tryz.f78.results.toList r s2 (keepG s1.length) true s1.length) (env0 args) s1) : RetL Tryz.prog 78 args s1 r s2 :=
 RetL.of mixed (at? h78) [] Tryz.func78 rfl Tryz.call78 (by kernel_rfl) (by rw [hn]; exact of_decide_eq_true (by kernel_rfl)) (keepG s1.length) true hk
def h99 : List (List Nat) := [[0, 1, 3], [0, 1, 3, 4], [3]]
theorem rl99 {args : List V} {r : V} {s1 s2 : List O} (hn : args.length = 2) (hk : (∀ a ∈ args, wfV 8 a) → wfL s1 → awp s1.length Tryz.prog (at? h99) [] (Tryz.f99.body.getD .skip) (finL Tryz.prog Tryz.f99.results.toList r s2 (keepG s1.length) true s1.length) (env0 args) s1) : RetL Tryz.prog 99 args s1 r s2 :=
 RetL.of mixed (at? h99) [] Tryz.func99 rfl Tryz.call99 (by kernel_rfl) (by rw [hn]; exact of_decide_eq_true (by kernel_rfl)) (keepG s1.length) true hk
def h100 : List (List Nat) := [[0, 1, 2], [2]]
theorem rq100 {args : List V} {s1 : List O} {Q : V → List O → Prop} (hn : args.length = 2) (hk : (∀ a ∈ args, wfV 8 a) → wfL s1 → awp s1.length Tryz.prog (at? h100) [] (Tryz.f100.body.getD .skip) (finQ Tryz.prog Tryz.f100.results.toList Q) (env0 args) s1) : RetQ Tryz.prog 100 args s1 Q :=
 RetQ.of mixed (at? h100) [] Tryz.func100 rfl Tryz.call100 (by kernel_rfl) (by rw [hn]; exact of_decide_eq_true (by kernel_rfl)) hk
def h103 : List (List Nat) := [[0, 1, 3], [3]]
theorem rq103 {args : List V} {s1 : List O} {Q : V → List O → Prop} (hn : args.length = 2) (hk : (∀ a ∈ args, wfV 8 a) → wfL s1 → awp s1.length Tryz.prog (at? h103) [] (Tryz.f103.body.getD .skip) (finQ Tryz.prog Tryz.f103.results.toList Q) (env0 args) s1) : RetQ Tryz.prog 103 args s1 Q :=
 RetQ.of mixed (at? h103) [] Tryz.func103 rfl Tryz.call103 (by kernel_rfl) (by rw [hn]; exact of_decide_eq_true (by kernel_rfl)) hk
def h109 : List (List Nat) := [[0, 1], [0, 1, 5], [0, 1, 5, 12], [4], [0, 1, 5, 6], [0, 1, 5, 6, 19], [0, 1, 5, 6], [0, 1, 5, 6, 7], [0, 1, 5, 6, 7, 29], [0, 1, 5, 6], [0, 1, 5, 6], [0, 5], [4]]
theorem rl109 {args : List V} {r : V} {s1 s2 : List O} (hn : args.length = 2) (hk : (∀ a ∈ args, wfV 8 a) → wfL s1 → awp s1.length Tryz.prog (at? h109) [] (Tryz.f109.body.getD .skip) (finL Tryz.prog Tryz.f109.results.toList r s2 (keepG s1.length) true s1.length) (env0 args) s1) : RetL Tryz.prog 109 args s1 r s2 :=
 RetL.of mixed (at? h109) [] Tryz.func109 rfl Tryz.call109 (by kernel_rfl) (by rw [hn]; exact of_decide_eq_true (by kernel_rfl)) (keepG s1.length) true hk
def h111 : List (List Nat) := [[0], [2]]
theorem r111 {args : List V} {r : V} (hn : args.length = 1) (hk : (∀ a ∈ args, wfV 8 a) → awp 0 Tryz.prog (at? h111) [] (Tryz.f111.body.getD .skip) (finK Tryz.prog Tryz.f111.results.toList r) (env0 args) []) : Ret Tryz.prog 111 args r :=
 Ret.of mixed (at? h111) [] Tryz.func111 rfl Tryz.call111 (by kernel_rfl) (by rw [hn]; exact of_decide_eq_true (by kernel_rfl)) hk
def h113 : List (List Nat) := [[0, 2, 3], [0, 2, 3, 9], [0, 2, 3], [0, 2, 3]]
theorem rl113 {args : List V} {r : V} {s1 s2 : List O} (hn : args.length = 1) (hk : (∀ a ∈ args, wfV 8 a) → wfL s1 → awp s1.length Tryz.prog (at? h113) [] (Tryz.f113.body.getD .skip) (finL Tryz.prog Tryz.f113.results.toList r s2 (keepG s1.length) true s1.length) (env0 args) s1) : RetL Tryz.prog 113 args s1 r s2 :=
 RetL.of mixed (at? h113) [] Tryz.func113 rfl Tryz.call113 (by kernel_rfl) (by rw [hn]; exact of_decide_eq_true (by kernel_rfl)) (keepG s1.length) true hk
theorem rq113 {args : List V} {s1 : List O} {Q : V → List O → Prop} (hn : args.length = 1) (hk : (∀ a ∈ args, wfV 8 a) → wfL s1 → awp s1.length Tryz.prog (at? h113) [] (Tryz.f113.body.getD .skip) (finQ Tryz.prog Tryz.f113.results.toList Q) (env0 args) s1) : RetQ Tryz.prog 113 args s1 Q :=
 RetQ.of mixed (at? h113) [] Tryz.func113 rfl Tryz.call113 (by kernel_rfl) (by rw [hn]; exact of_decide_eq_true (by kernel_rfl)) hk
def h114 : List (List Nat) := [[1], [1, 4], [1, 4, 5], [2], [1, 4, 9], [2], [1, 4, 14], [2], [1, 4, 19], [2], [1, 25], [2], [2]]
theorem r114 {args : List V} {r : V} (hn : args.length = 1) (hk : (∀ a ∈ args, wfV 8 a) → awp 0 Tryz.prog (at? h114) [] (Tryz.f114.body.getD .skip) (finK Tryz.prog Tryz.f114.results.toList r) (env0 args) []) : Ret Tryz.prog 114 args r :=
 Ret.of mixed (at? h114) [] Tryz.func114 rfl Tryz.call114 (by kernel_rfl) (by rw [hn]; exact of_decide_eq_true (by kernel_rfl)) hk
def h116 : List (List Nat) := [[0], [2]]
theorem r116 {args : List V} {r : V} (hn : args.length = 1) (hk : (∀ a ∈ args, wfV 8 a) → awp 0 Tryz.prog (at? h116) [] (Tryz.f116.body.getD .skip) (finK Tryz.prog Tryz.f116.results.toList r) (env0 args) []) : Ret Tryz.prog 116 args r :=
 Ret.of mixed (at? h116) [] Tryz.func116 rfl Tryz.call116 (by kernel_rfl) (by rw [hn]; exact of_decide_eq_true (by kernel_rfl)) hk
def h117 : List (List Nat) := [[0, 1, 2, 4], [1, 2, 4, 5], [2, 4, 5, 20], [4], [4]]
theorem rl117 {args : List V} {r : V} {s1 s2 : List O} (hn : args.length = 3) (hk : (∀ a ∈ args, wfV 8 a) → wfL s1 → awp s1.length Tryz.prog (at? h117) [] (Tryz.f117.body.getD .skip) (finL Tryz.prog Tryz.f117.results.toList r s2 (keepG s1.length) true s1.length) (env0 args) s1) : RetL Tryz.prog 117 args s1 r s2 :=
 RetL.of mixed (at? h117) [] Tryz.func117 rfl Tryz.call117 (by kernel_rfl) (by rw [hn]; exact of_decide_eq_true (by kernel_rfl)) (keepG s1.length) true hk
def h118 : List (List Nat) := [[0, 2], [0, 2, 17], [2, 3], [0, 2, 4], [2, 4], [2, 3]]
theorem rl118 {args : List V} {r : V} {s1 s2 : List O} (hn : args.length = 1) (hk : (∀ a ∈ args, wfV 8 a) → wfL s1 → awp s1.length Tryz.prog (at? h118) [] (Tryz.f118.body.getD .skip) (finL Tryz.prog Tryz.f118.results.toList r s2 (keepG s1.length) true s1.length) (env0 args) s1) : RetL Tryz.prog 118 args s1 r s2 :=
 RetL.of mixed (at? h118) [] Tryz.func118 rfl Tryz.call118 (by kernel_rfl) (by rw [hn]; exact of_decide_eq_true (by kernel_rfl)) (keepG s1.length) true hk
def h119 : List (List Nat) := [[0, 1], [0, 1, 13], [4], [0, 5], [0, 5, 21], [4], [0, 6, 7], [0, 6, 28], [6], [4]]
theorem rl119 {args : List V} {r : V} {s1 s2 : List O} (hn : args.length = 2) (hk : (∀ a ∈ args, wfV 8 a) → wfL s1 → awp s1.length Tryz.prog (at? h119) [] (Tryz.f119.body.getD .skip) (finL Tryz.prog Tryz.f119.results.toList r s2 (keepG s1.length) true s1.length) (env0 args) s1) : RetL Tryz.prog 119 args s1 r s2 :=
 RetL.of mixed (at? h119) [] Tryz.func119 rfl Tryz.call119 (by kernel_rfl) (by rw [hn]; exact of_decide_eq_true (by kernel_rfl)) (keepG s1.length) true hk
def h120 : List (List Nat) := [[0], [0, 3], [2], [10], [2], [2]]
theorem r120 {args : List V} {r : V} (hn : args.length = 1) (hk : (∀ a ∈ args, wfV 8 a) → awp 0 Tryz.prog (at? h120) [] (Tryz.f120.body.getD .skip) (finK Tryz.prog Tryz.f120.results.toList r) (env0 args) []) : Ret Tryz.prog 120 args r :=
 Ret.of mixed (at? h120) [] Tryz.func120 rfl Tryz.call120 (by kernel_rfl) (by rw [hn]; exact of_decide_eq_true (by kernel_rfl)) hk
def h121 : List (List Nat) := [[0, 1], [1]]
theorem rq121 {args : List V} {s1 : List O} {Q : V → List O → Prop} (hn : args.length = 1) (hk : (∀ a ∈ args, wfV 8 a) → wfL s1 → awp s1.length Tryz.prog (at? h121) [] (Tryz.f121.body.getD .skip) (finQ Tryz.prog Tryz.f121.results.toList Q) (env0 args) s1) : RetQ Tryz.prog 121 args s1 Q :=
 RetQ.of mixed (at? h121) [] Tryz.func121 rfl Tryz.call121 (by kernel_rfl) (by rw [hn]; exact of_decide_eq_true (by kernel_rfl)) hk
def h122 : List (List Nat) := [[0, 1, 3], [0, 1, 3, 4], [0, 1, 3, 4, 5], [3]]
theorem rl122 {args : List V} {r : V} {s1 s2 : List O} (hn : args.length = 2) (hk : (∀ a ∈ args, wfV 8 a) → wfL s1 → awp s1.length Tryz.prog (at? h122) [] (Tryz.f122.body.getD .skip) (finL Tryz.prog Tryz.f122.results.toList r s2 (keepG s1.length) true s1.length) (env0 args) s1) : RetL Tryz.prog 122 args s1 r s2 :=
 RetL.of mixed (at? h122) [] Tryz.func122 rfl Tryz.call122 (by kernel_rfl) (by rw [hn]; exact of_decide_eq_true (by kernel_rfl)) (keepG s1.length) true hk
def h123 : List (List Nat) := [[0, 1, 2, 3], [1, 2, 3, 4], [1, 3, 4, 9], [3], [3]]
theorem rq123 {args : List V} {s1 : List O} {Q : V → List O → Prop} (hn : args.length = 3) (hk : (∀ a ∈ args, wfV 8 a) → wfL s1 → awp s1.length Tryz.prog (at? h123) [] (Tryz.f123.body.getD .skip) (finQ Tryz.prog Tryz.f123.results.toList Q) (env0 args) s1) : RetQ Tryz.prog 123 args s1 Q :=
 RetQ.of mixed (at? h123) [] Tryz.func123 rfl Tryz.call123 (by kernel_rfl) (by rw [hn]; exact of_decide_eq_true (by kernel_rfl)) hk
def h124 : List (List Nat) := [[0, 1, 2, 3], [3, 5], [3]]
theorem rq124 {args : List V} {s1 : List O} {Q : V → List O → Prop} (hn : args.length = 3) (hk : (∀ a ∈ args, wfV 8 a) → wfL s1 → awp s1.length Tryz.prog (at? h124) [] (Tryz.f124.body.getD .skip) (finQ Tryz.prog Tryz.f124.results.toList Q) (env0 args) s1) : RetQ Tryz.prog 124 args s1 Q :=
 RetQ.of mixed (at? h124) [] Tryz.func124 rfl Tryz.call124 (by kernel_rfl) (by rw [hn]; exact of_decide_eq_true (by kernel_rfl)) hk
def h125 : List (List Nat) := [[0, 1, 2], [0, 2, 9], [0, 9, 10], [6, 7, 8]]
theorem r125 {args : List V} {r : V} (hn : args.length = 3) (hk : (∀ a ∈ args, wfV 8 a) → awp 0 Tryz.prog (at? h125) [] (Tryz.f125.body.getD .skip) (finK Tryz.prog Tryz.f125.results.toList r) (env0 args) []) : Ret Tryz.prog 125 args r :=
 Ret.of mixed (at? h125) [] Tryz.func125 rfl Tryz.call125 (by kernel_rfl) (by rw [hn]; exact of_decide_eq_true (by kernel_rfl)) hk
def h126 : List (List Nat) := [[0, 1, 2, 3, 4], [3, 4, 5, 7], [4]]
theorem rq126 {args : List V} {s1 : List O} {Q : V → List O → Prop} (hn : args.length = 4) (hk : (∀ a ∈ args, wfV 8 a) → wfL s1 → awp s1.length Tryz.prog (at? h126) [] (Tryz.f126.body.getD .skip) (finQ Tryz.prog Tryz.f126.results.toList Q) (env0 args) s1) : RetQ Tryz.prog 126 args s1 Q :=
 RetQ.of mixed (at? h126) [] Tryz.func126 rfl Tryz.call126 (by kernel_rfl) (by rw [hn]; exact of_decide_eq_true (by kernel_rfl)) hk
def h127 : List (List Nat) := [[0, 1, 2], [0, 1, 2, 4], [2], [2]]
theorem rq127 {args : List V} {s1 : List O} {Q : V → List O → Prop} (hn : args.length = 2) (hk : (∀ a ∈ args, wfV 8 a) → wfL s1 → awp s1.length Tryz.prog (at? h127) [] (Tryz.f127.body.getD .skip) (finQ Tryz.prog Tryz.f127.results.toList Q) (env0 args) s1) : RetQ Tryz.prog 127 args s1 Q :=
 RetQ.of mixed (at? h127) [] Tryz.func127 rfl Tryz.call127 (by kernel_rfl) (by rw [hn]; exact of_decide_eq_true (by kernel_rfl)) hk
def h129 : List (List Nat) := [[1], [1, 4, 5], [1, 4, 12], [2, 3], [2, 3]]
theorem r129 {args : List V} {r : V} (hn : args.length = 1) (hk : (∀ a ∈ args, wfV 8 a) → awp 0 Tryz.prog (at? h129) [] (Tryz.f129.body.getD .skip) (finK Tryz.prog Tryz.f129.results.toList r) (env0 args) []) : Ret Tryz.prog 129 args r :=
 Ret.of mixed (at? h129) [] Tryz.func129 rfl Tryz.call129 (by kernel_rfl) (by rw [hn]; exact of_decide_eq_true (by kernel_rfl)) hk
def h130 : List (List Nat) := [[0, 1, 3], [0, 3, 4, 5], [0, 3, 4, 5, 6], [0, 3, 4, 6, 7], [3]]
theorem rl130 {args : List V} {r : V} {s1 s2 : List O} (hn : args.length = 2) (hk : (∀ a ∈ args, wfV 8 a) → wfL s1 → awp s1.length Tryz.prog (at? h130) [(1, [9999], [])] (Tryz.f130.body.getD .skip) (finL Tryz.prog Tryz.f130.results.toList r s2 (keepG s1.length) true s1.length) (env0 args) s1) : RetL Tryz.prog 130 args s1 r s2 :=
 RetL.of mixed (at? h130) [(1, [9999], [])] Tryz.func130 rfl Tryz.call130 (by kernel_rfl) (by rw [hn]; exact of_decide_eq_true (by kernel_rfl)) (keepG s1.length) true hk
def h131 : List (List Nat) := [[0, 1, 2, 3], [0, 1, 2, 3, 4], [0, 2, 3, 4, 5], [0, 2, 3, 4, 5], [0, 2, 3, 4, 5, 16], [3], [0, 2, 3, 4, 5, 22], [3], [0, 2, 3, 4, 5]]
theorem rq131 {args : List V} {s1 : List O} {Q : V → List O → Prop} (hn : args.length = 3) (hk : (∀ a ∈ args, wfV 8 a) → wfL s1 → awp s1.length Tryz.prog (at? h131) [] (Tryz.f131.body.getD .skip) (finQ Tryz.prog Tryz.f131.results.toList Q) (env0 args) s1) : RetQ Tryz.prog 131 args s1 Q :=
 RetQ.of mixed (at? h131) [] Tryz.func131 rfl Tryz.call131 (by kernel_rfl) (by rw [hn]; exact of_decide_eq_true (by kernel_rfl)) hk
theorem r131 {args : List V} {r : V} (hn : args.length = 3) (hk : (∀ a ∈ args, wfV 8 a) → awp 0 Tryz.prog (at? h131) [] (Tryz.f131.body.getD .skip) (finK Tryz.prog Tryz.f131.results.toList r) (env0 args) []) : Ret Tryz.prog 131 args r :=
 Ret.of mixed (at? h131) [] Tryz.func131 rfl Tryz.call131 (by kernel_rfl) (by rw [hn]; exact of_decide_eq_true (by kernel_rfl)) hk
def h132 : List (List Nat) := [[0, 1, 2, 3, 4, 5], [0, 1, 2, 3, 4, 5, 7], [5], [0, 1, 3, 4, 5, 12], [5], [0, 1, 3, 4, 5, 6], [0, 1, 3, 4, 5, 6, 25], [5], [5]]
theorem rq132 {args : List V} {s1 : List O} {Q : V → List O → Prop} (hn : args.length = 5) (hk : (∀ a ∈ args, wfV 8 a) → wfL s1 → awp s1.length Tryz.prog (at? h132) [] (Tryz.f132.body.getD .skip) (finQ Tryz.prog Tryz.f132.results.toList Q) (env0 args) s1) : RetQ Tryz.prog 132 args s1 Q :=
 RetQ.of mixed (at? h132) [] Tryz.func132 rfl Tryz.call132 (by kernel_rfl) (by rw [hn]; exact of_decide_eq_true (by kernel_rfl)) hk
def h134 : List (List Nat) := [[1], [1, 33], [2], [35, 36, 37], [35, 36, 37, 38], [4, 35, 36, 37], [35, 36, 37, 43], [2], [35, 36, 37], [2]]
theorem r134 {args : List V} {r : V} (hn : args.length = 1) (hk : (∀ a ∈ args, wfV 8 a) → awp 0 Tryz.prog (at? h134) [] (Tryz.f134.body.getD .skip) (finK Tryz.prog Tryz.f134.results.toList r) (env0 args) []) : Ret Tryz.prog 134 args r :=
 Ret.of mixed (at? h134) [] Tryz.func134 rfl Tryz.call134 (by kernel_rfl) (by rw [hn]; exact of_decide_eq_true (by kernel_rfl)) hk
def h135 : List (List Nat) := [[0, 1, 2], [2]]
theorem rq135 {args : List V} {s1 : List O} {Q : V → List O → Prop} (hn : args.length = 2) (hk : (∀ a ∈ args, wfV 8 a) → wfL s1 → awp s1.length Tryz.prog (at? h135) [] (Tryz.f135.body.getD .skip) (finQ Tryz.prog Tryz.f135.results.toList Q) (env0 args) s1) : RetQ Tryz.prog 135 args s1 Q :=
 RetQ.of mixed (at? h135) [] Tryz.func135 rfl Tryz.call135 (by kernel_rfl) (by rw [hn]; exact of_decide_eq_true (by kernel_rfl)) hk
def h136 : List (List Nat) := [[1], [12], [12, 14, 15], [], [2, 3], [12, 17, 18], [5], [2, 3], [12, 22, 23], [6], [2, 3], [12, 26, 27], [7], [8, 9], [8, 33], [2, 3], [36, 37], [10], [2, 3], [2, 3]]
theorem r136 {args : List V} {r : V} (hn : args.length = 1) (hk : (∀ a ∈ args, wfV 8 a) → awp 0 Tryz.prog (at? h136) [] (Tryz.f136.body.getD .skip) (finK Tryz.prog Tryz.f136.results.toList r) (env0 args) []) : Ret Tryz.prog 136 args r :=
 Ret.of mixed (at? h136) [] Tryz.func136 rfl Tryz.call136 (by kernel_rfl) (by rw [hn]; exact of_decide_eq_true (by kernel_rfl)) hk
def h137 : List (List Nat) := [[0], [0, 3, 4], [0, 3, 13], [2], [0, 5, 6], [5], [2]]
theorem rl137 {args : List V} {r : V} {s1 s2 : List O} (hn : args.length = 1) (hk : (∀ a ∈ args, wfV 8 a) → wfL s1 → awp s1.length Tryz.prog (at? h137) [] (Tryz.f137.body.getD .skip) (finL Tryz.prog Tryz.f137.results.toList r s2 (keepG s1.length) true s1.length) (env0 args) s1) : RetL Tryz.prog 137 args s1 r s2 :=
 RetL.of mixed (at? h137) [] Tryz.func137 rfl Tryz.call137 (by kernel_rfl) (by rw [hn]; exact of_decide_eq_true (by kernel_rfl)) (keepG s1.length) true hk
def h138 : List (List Nat) := [[0, 1, 2], [1, 2, 3, 4], [1, 2, 3, 23], [2], [1, 2, 5, 6], [1, 2, 5, 6, 33], [2, 5], [2]]
theorem rq138 {args : List V} {s1 : List O} {Q : V → List O → Prop} (hn : args.length = 2) (hk : (∀ a ∈ args, wfV 8 a) → wfL s1 → awp s1.length Tryz.prog (at? h138) [] (Tryz.f138.body.getD .skip) (finQ Tryz.prog Tryz.f138.results.toList Q) (env0 args) s1) : RetQ Tryz.prog 138 args s1 Q :=
 RetQ.of mixed (at? h138) [] Tryz.func138 rfl Tryz.call138 (by kernel_rfl) (by rw [hn]; exact of_decide_eq_true (by kernel_rfl)) hk
def h151 : List (List Nat) := [[0, 1], [0, 1, 7, 8], [0, 1, 7, 8, 9], [0, 1, 5, 7, 8], [0, 1, 5, 7, 8, 16], [4], [0, 1, 7, 8], [4]]
theorem rl151 {args : List V} {r : V} {s1 s2 : List O} (hn : args.length = 2) (hk : (∀ a ∈ args, wfV 8 a) → wfL s1 → awp s1.length Tryz.prog (at? h151) [] (Tryz.f151.body.getD .skip) (finL Tryz.prog Tryz.f151.results.toList r s2 (keepG s1.length) true s1.length) (env0 args) s1) : RetL Tryz.prog 151 args s1 r s2 :=
 RetL.of mixed (at? h151) [] Tryz.func151 rfl Tryz.call151 (by kernel_rfl) (by rw [hn]; exact of_decide_eq_true (by kernel_rfl)) (keepG s1.length) true hk
def h157 : List (List Nat) := [[1, 2], [1, 2, 11], [2], [2]]
theorem r157 {args : List V} {r : V} (hn : args.length = 1) (hk : (∀ a ∈ args, wfV 8 a) → awp 0 Tryz.prog (at? h157) [] (Tryz.f157.body.getD .skip) (finK Tryz.prog Tryz.f157.results.toList r) (env0 args) []) : Ret Tryz.prog 157 args r :=
 Ret.of mixed (at? h157) [] Tryz.func157 rfl Tryz.call157 (by kernel_rfl) (by rw [hn]; exact of_decide_eq_true (by kernel_rfl)) hk
def h158 : List (List Nat) := [[0], [0, 11], [2, 3], [2, 3]]
theorem r158 {args : List V} {r : V} (hn : args.length = 1) (hk : (∀ a ∈ args, wfV 8 a) → awp 0 Tryz.prog (at? h158) [] (Tryz.f158.body.getD .skip) (finK Tryz.prog Tryz.f158.results.toList r) (env0 args) []) : Ret Tryz.prog 158 args r :=
 Ret.of mixed (at? h158) [] Tryz.func158 rfl Tryz.call158 (by kernel_rfl) (by rw [hn]; exact of_decide_eq_true (by kernel_rfl)) hk
def h161 : List (List Nat) := [[1], [8], [8, 10, 11], [3], [2], [8, 15, 16], [4], [2], [8, 19, 20], [5], [21], [2], [2], [23, 24], [6], [6, 30], [2], [2]]
theorem r161 {args : List V} {r : V} (hn : args.length = 1) (hk : (∀ a ∈ args, wfV 8 a) → awp 0 Tryz.prog (at? h161) [] (Tryz.f161.body.getD .skip) (finK Tryz.prog Tryz.f161.results.toList r) (env0 args) []) : Ret Tryz.prog 161 args r :=
 Ret.of mixed (at? h161) [] Tryz.func161 rfl Tryz.call161 (by kernel_rfl) (by rw [hn]; exact of_decide_eq_true (by kernel_rfl)) hk
def h163 : List (List Nat) := [[1], [1, 15], [2], [1, 17], [1, 17, 19, 20], [1], [2], [1, 17, 25, 26], [4], [2], [1, 17, 30, 31], [1, 5], [2], [1, 17, 41, 42], [1], [2], [52, 53], [7], [2], [2]]
theorem r163 {args : List V} {r : V} (hn : args.length = 1) (hk : (∀ a ∈ args, wfV 8 a) → awp 0 Tryz.prog (at? h163) [] (Tryz.f163.body.getD .skip) (finK Tryz.prog Tryz.f163.results.toList r) (env0 args) []) : Ret Tryz.prog 163 args r :=
 Ret.of mixed (at? h163) [] Tryz.func163 rfl Tryz.call163 (by kernel_rfl) (by rw [hn]; exact of_decide_eq_true (by kernel_rfl)) hk
abbrev F_octavolaw18_TextsFaults : FuncId := 3
abbrev r_octavolaw18_TextsFaults := @r3
abbrev F_octavolaw18_light : FuncId := 9
abbrev r_octavolaw18_light := @r9
abbrev F_octavolaw18_lives : FuncId := 10
abbrev r_octavolaw18_lives := @r10
abbrev F_texts_Call : FuncId := 11
abbrev r_texts_Call := @r11
abbrev F_octavoref06_Good : FuncId := 12
abbrev r_octavoref06_Good := @r12
abbrev F_octavolaw18_ask : FuncId := 13
abbrev r_octavolaw18_ask := @r13
abbrev F_octavolaw18_text : FuncId := 14
abbrev r_octavolaw18_text := @r14
abbrev F_octavolaw18_number : FuncId := 15
abbrev r_octavolaw18_number := @r15
abbrev F_octavolaw18_one : FuncId := 17
abbrev r_octavolaw18_one := @r17
abbrev F_texts_find : FuncId := 21
abbrev r_texts_find := @r21
abbrev F_value_Bad : FuncId := 22
abbrev r_value_Bad := @r22
abbrev F_octavoref05_Good : FuncId := 23
abbrev r_octavoref05_Good := @r23
abbrev rq_texts_texted := @rq44
abbrev F_texts_texted : FuncId := 44
abbrev F_texts_find_1 : FuncId := 45
abbrev r_texts_find_1 := @r45
abbrev F_texts_whole : FuncId := 46
abbrev r_texts_whole := @r46
abbrev F_value_Chars : FuncId := 47
abbrev rq_texts_made := @rq48
abbrev F_texts_made : FuncId := 48
abbrev F_value_Upper : FuncId := 49
abbrev F_value_Lower : FuncId := 50
abbrev F_texts_proper : FuncId := 51
abbrev F_texts_trim : FuncId := 52
abbrev r_texts_trim := @r52
abbrev F_texts_reverse : FuncId := 53
abbrev r_texts_reverse := @r53
abbrev F_texts_code : FuncId := 54
abbrev r_texts_code := @r54
abbrev F_texts_find_2 : FuncId := 55
abbrev r_texts_find_2 := @r55
abbrev F_value_ToNum : FuncId := 56
abbrev r_value_ToNum := @r56
abbrev F_value_Of : FuncId := 57
abbrev r_value_Of := @r57
abbrev rq_texts_kept := @rq58
abbrev F_texts_kept : FuncId := 58
abbrev F_texts_find_3 : FuncId := 59
abbrev r_texts_find_3 := @r59
abbrev F_value_Str : FuncId := 60
abbrev r_value_Str := @r60
abbrev F_texts_find_4 : FuncId := 61
abbrev r_texts_find_4 := @r61
abbrev rl_texts_char := @rl62
abbrev F_texts_char : FuncId := 62
abbrev rq_texts_ends := @rq63
abbrev F_texts_ends : FuncId := 63
abbrev rl_texts_mid := @rl64
abbrev F_texts_mid : FuncId := 64
abbrev rl_texts_replace := @rl65
abbrev F_texts_replace : FuncId := 65
abbrev rl_texts_rept := @rl66
abbrev F_texts_rept : FuncId := 66
abbrev rl_texts_find_5 := @rl67
abbrev F_texts_find_5 : FuncId := 67
abbrev rl_texts_asked_text := @rl68
abbrev F_texts_asked_text : FuncId := 68
abbrev rq_texts_asked_tells := @rq69
abbrev F_texts_asked_tells : FuncId := 69
abbrev r_texts_asked_tells := @r69
abbrev rq_texts_find_5_1 := @rq70
abbrev F_texts_find_5_1 : FuncId := 70
abbrev rq_texts_finds := @rq71
abbrev F_texts_finds : FuncId := 71
abbrev F_texts_find_6 : FuncId := 72
abbrev r_texts_find_6 := @r72
abbrev rl_texts_substitute := @rl73
abbrev F_texts_substitute : FuncId := 73
abbrev rl_texts_find_7 := @rl74
abbrev F_texts_find_7 : FuncId := 74
abbrev rl_texts_joined := @rl75
abbrev F_texts_joined : FuncId := 75
abbrev rl_texts_find_8 := @rl76
abbrev F_texts_find_8 : FuncId := 76
abbrev rl_texts_asked_flag := @rl77
abbrev F_texts_asked_flag : FuncId := 77
abbrev rl_texts_fixed := @rl78
abbrev F_texts_fixed : FuncId := 78
abbrev rl_texts_texted_1 := @rl99
abbrev F_texts_texted_1 : FuncId := 99
abbrev rq_texts_texted_1_1 := @rq100
abbrev F_texts_texted_1_1 : FuncId := 100
abbrev F_strings_HasPrefix : FuncId := 102
abbrev rq_texts_made_1 := @rq103
abbrev F_texts_made_1 : FuncId := 103
abbrev rl_slices_DeleteFunc_string_string := @rl109
abbrev F_slices_DeleteFunc_string_string : FuncId := 109
abbrev F_strings_Split : FuncId := 110
abbrev F_texts_trim_1 : FuncId := 111
abbrev r_texts_trim_1 := @r111
abbrev F_strings_Join : FuncId := 112
abbrev rq_slices_Reverse_string_string := @rq113
abbrev rl_slices_Reverse_string_string := @rl113
abbrev F_slices_Reverse_string_string : FuncId := 113
abbrev F_value_own : FuncId := 114
abbrev r_value_own := @r114
abbrev F_num_Parse : FuncId := 115
abbrev F_num_Good : FuncId := 116
abbrev r_num_Good := @r116
abbrev rl_texts_kept_1 := @rl117
abbrev F_texts_kept_1 : FuncId := 117
abbrev rl_texts_asked_next := @rl118
abbrev F_texts_asked_next : FuncId := 118
abbrev rl_texts_asked_whole := @rl119
abbrev F_texts_asked_whole : FuncId := 119
abbrev F_utf8_ValidRune : FuncId := 120
abbrev r_utf8_ValidRune := @r120
abbrev rq_texts_char_1 := @rq121
abbrev F_texts_char_1 : FuncId := 121
abbrev rl_texts_ends_1 := @rl122
abbrev F_texts_ends_1 : FuncId := 122
abbrev rq_texts_ends_1_1 := @rq123
abbrev F_texts_ends_1_1 : FuncId := 123
abbrev rq_texts_mid_1 := @rq124
abbrev F_texts_mid_1 : FuncId := 124
abbrev F_texts_part : FuncId := 125
abbrev r_texts_part := @r125
abbrev rq_texts_replace_1 := @rq126
abbrev F_texts_replace_1 : FuncId := 126
abbrev rq_texts_rept_1 := @rq127
abbrev F_texts_rept_1 : FuncId := 127
abbrev F_strings_Repeat : FuncId := 128
abbrev F_value_ToText : FuncId := 129
abbrev r_value_ToText := @r129
abbrev rl_texts_finds_1 := @rl130
abbrev F_texts_finds_1 : FuncId := 130
abbrev rq_texts_finds_1_1 := @rq131
abbrev F_texts_finds_1_1 : FuncId := 131
abbrev r_texts_finds_1_1 := @r131
abbrev rq_texts_substitute_1 := @rq132
abbrev F_texts_substitute_1 : FuncId := 132
abbrev F_strings_ReplaceAll : FuncId := 133
abbrev F_maths_Good : FuncId := 134
abbrev r_maths_Good := @r134
abbrev rq_texts_joined_1 := @rq135
abbrev F_texts_joined_1 : FuncId := 135
abbrev F_value_ToBool : FuncId := 136
abbrev r_value_ToBool := @r136
abbrev rl_texts_asked_number := @rl137
abbrev F_texts_asked_number : FuncId := 137
abbrev rq_texts_fixed_1 := @rq138
abbrev F_texts_fixed_1 : FuncId := 138
abbrev F_num_Round : FuncId := 139
abbrev F_strings_Cut : FuncId := 140
abbrev F_num_Print : FuncId := 141
abbrev rl_slices_IndexFunc_string_string := @rl151
abbrev F_slices_IndexFunc_string_string : FuncId := 151
abbrev F_maths_One : FuncId := 157
abbrev r_maths_One := @r157
abbrev F_num_Whole : FuncId := 158
abbrev r_num_Whole := @r158
abbrev F_value_Text : FuncId := 161
abbrev r_value_Text := @r161
abbrev F_value_Good : FuncId := 163
abbrev r_value_Good := @r163
abbrev F_value_word : FuncId := 164
end Go.Proofs.YtcbknemdidehlaaGreatDoor.R
