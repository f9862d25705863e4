/- Each function of the program: what is kept behind each of its pieces, and its own form of the rule. -/
import Derived.Test.YtkkfclpodgagdaaCore1
import Derived.Test.YtkkfclpodgagdaaProg
namespace Go.Proofs.Ytkkfclpodgagdaa.R
open Go.Proofs.Ytkkfclpodgagdaa.Ab
set_option maxRecDepth 20000
theorem mixed : Try.prog.follows .mixedOrders = true := by kernel_rfl
def h6 : List (List Nat) := [[0], [0, 15], [2], [0, 17, 18, 19], [0, 17, 18, 19, 20], [0, 4, 17, 18, 19], [0, 17, 18, 19, 25], [2], [0, 17, 18, 19], [0, 5], [0, 5, 6], [0, 6, 7], [2]]
theorem r6 {args : List V} {r : V} (hn : args.length = 1) (hk : (∀ a ∈ args, wfV 8 a) → awp 0 Try.prog (at? h6) [] (Try.f6.body.getD .skip) (finK Try.prog Try.f6.results.toList r) (env0 args) []) : Ret Try.prog 6 args r :=
 Ret.of mixed (at? h6) [] Try.func6 rfl Try.call6 (by kernel_rfl) (by rw [hn]; exact of_decide_eq_true (by kernel_rfl)) hk
def h8 : List (List Nat) := [[], [1], [0]]
theorem r8 {args : List V} {r : V} (hn : args.length = 0) (hk : (∀ a ∈ args, wfV 8 a) → awp 0 Try.prog (at? h8) [] (Try.f8.body.getD .skip) (finK Try.prog Try.f8.results.toList r) (env0 args) []) : Ret Try.prog 8 args r :=
 Ret.of mixed (at? h8) [] Try.func8 rfl Try.call8 (by kernel_rfl) (by rw [hn]; exact of_decide_eq_true (by kernel_rfl)) hk
def h9 : List (List Nat) := [[0, 1, 4], [1, 4, 6, 7, 8], [1, 4, 6, 7, 8, 15], [4, 5], [1, 4, 6, 8, 19], [1, 4, 6, 19], [4, 5], [4, 5]]
theorem r9 {args : List V} {r : V} (hn : args.length = 2) (hk : (∀ a ∈ args, wfV 8 a) → awp 0 Try.prog (at? h9) [] (Try.f9.body.getD .skip) (finK Try.prog Try.f9.results.toList r) (env0 args) []) : Ret Try.prog 9 args r :=
 Ret.of mixed (at? h9) [] Try.func9 rfl Try.call9 (by kernel_rfl) (by rw [hn]; exact of_decide_eq_true (by kernel_rfl)) hk
def h10 : List (List Nat) := [[1], [1, 4], [1, 4, 5], [2], [1, 4, 10], [2], [1, 4, 20], [2], [1, 4, 31], [2], [1, 46], [2], [2]]
theorem r10 {args : List V} {r : V} (hn : args.length = 1) (hk : (∀ a ∈ args, wfV 8 a) → awp 0 Try.prog (at? h10) [] (Try.f10.body.getD .skip) (finK Try.prog Try.f10.results.toList r) (env0 args) []) : Ret Try.prog 10 args r :=
 Ret.of mixed (at? h10) [] Try.func10 rfl Try.call10 (by kernel_rfl) (by rw [hn]; exact of_decide_eq_true (by kernel_rfl)) hk
def h11 : List (List Nat) := [[0, 1, 4], [4, 5], [4]]
theorem r11 {args : List V} {r : V} (hn : args.length = 2) (hk : (∀ a ∈ args, wfV 8 a) → awp 0 Try.prog (at? h11) [] (Try.f11.body.getD .skip) (finK Try.prog Try.f11.results.toList r) (env0 args) []) : Ret Try.prog 11 args r :=
 Ret.of mixed (at? h11) [] Try.func11 rfl Try.call11 (by kernel_rfl) (by rw [hn]; exact of_decide_eq_true (by kernel_rfl)) hk
def h12 : List (List Nat) := [[0, 2], [2]]
theorem r12 {args : List V} {r : V} (hn : args.length = 1) (hk : (∀ a ∈ args, wfV 8 a) → awp 0 Try.prog (at? h12) [] (Try.f12.body.getD .skip) (finK Try.prog Try.f12.results.toList r) (env0 args) []) : Ret Try.prog 12 args r :=
 Ret.of mixed (at? h12) [] Try.func12 rfl Try.call12 (by kernel_rfl) (by rw [hn]; exact of_decide_eq_true (by kernel_rfl)) hk
def h14 : List (List Nat) := [[0], [5], [5, 6], [2, 3, 4], [5, 9], [2, 3, 4], [5, 12], [2, 3, 4], [5, 15], [2, 3, 4], [5, 17], [2, 3, 4], [5, 19], [2, 3, 4], [5, 21], [2, 3, 4], [5, 24], [2, 3, 4], [5, 27], [2, 3, 4], [30], [2, 3, 4], [2, 3, 4]]
theorem r14 {args : List V} {r : V} (hn : args.length = 1) (hk : (∀ a ∈ args, wfV 8 a) → awp 0 Try.prog (at? h14) [] (Try.f14.body.getD .skip) (finK Try.prog Try.f14.results.toList r) (env0 args) []) : Ret Try.prog 14 args r :=
 Ret.of mixed (at? h14) [] Try.func14 rfl Try.call14 (by kernel_rfl) (by rw [hn]; exact of_decide_eq_true (by kernel_rfl)) hk
def h15 : List (List Nat) := [[0, 2], [0, 2, 8], [0, 2], [2]]
theorem r15 {args : List V} {r : V} (hn : args.length = 1) (hk : (∀ a ∈ args, wfV 8 a) → awp 0 Try.prog (at? h15) [] (Try.f15.body.getD .skip) (finK Try.prog Try.f15.results.toList r) (env0 args) []) : Ret Try.prog 15 args r :=
 Ret.of mixed (at? h15) [] Try.func15 rfl Try.call15 (by kernel_rfl) (by rw [hn]; exact of_decide_eq_true (by kernel_rfl)) hk
def h16 : List (List Nat) := [[0], [2]]
theorem r16 {args : List V} {r : V} (hn : args.length = 1) (hk : (∀ a ∈ args, wfV 8 a) → awp 0 Try.prog (at? h16) [] (Try.f16.body.getD .skip) (finK Try.prog Try.f16.results.toList r) (env0 args) []) : Ret Try.prog 16 args r :=
 Ret.of mixed (at? h16) [] Try.func16 rfl Try.call16 (by kernel_rfl) (by rw [hn]; exact of_decide_eq_true (by kernel_rfl)) hk
def h17 : List (List Nat) := [[1, 2], [2]]
theorem r17 {args : List V} {r : V} (hn : args.length = 1) (hk : (∀ a ∈ args, wfV 8 a) → awp 0 Try.prog (at? h17) [] (Try.f17.body.getD .skip) (finK Try.prog Try.f17.results.toList r) (env0 args) []) : Ret Try.prog 17 args r :=
 Ret.of mixed (at? h17) [] Try.func17 rfl Try.call17 (by kernel_rfl) (by rw [hn]; exact of_decide_eq_true (by kernel_rfl)) hk
def h18 : List (List Nat) := [[1], [2]]
theorem r18 {args : List V} {r : V} (hn : args.length = 1) (hk : (∀ a ∈ args, wfV 8 a) → awp 0 Try.prog (at? h18) [] (Try.f18.body.getD .skip) (finK Try.prog Try.f18.results.toList r) (env0 args) []) : Ret Try.prog 18 args r :=
 Ret.of mixed (at? h18) [] Try.func18 rfl Try.call18 (by kernel_rfl) (by rw [hn]; exact of_decide_eq_true (by kernel_rfl)) hk
def h19 : List (List Nat) := [[1], [2]]
theorem r19 {args : List V} {r : V} (hn : args.length = 1) (hk : (∀ a ∈ args, wfV 8 a) → awp 0 Try.prog (at? h19) [] (Try.f19.body.getD .skip) (finK Try.prog Try.f19.results.toList r) (env0 args) []) : Ret Try.prog 19 args r :=
 Ret.of mixed (at? h19) [] Try.func19 rfl Try.call19 (by kernel_rfl) (by rw [hn]; exact of_decide_eq_true (by kernel_rfl)) hk
def h20 : List (List Nat) := [[1], [2]]
theorem r20 {args : List V} {r : V} (hn : args.length = 1) (hk : (∀ a ∈ args, wfV 8 a) → awp 0 Try.prog (at? h20) [] (Try.f20.body.getD .skip) (finK Try.prog Try.f20.results.toList r) (env0 args) []) : Ret Try.prog 20 args r :=
 Ret.of mixed (at? h20) [] Try.func20 rfl Try.call20 (by kernel_rfl) (by rw [hn]; exact of_decide_eq_true (by kernel_rfl)) hk
def h21 : List (List Nat) := [[1], [1, 3], [3, 9, 10, 11], [3, 9, 10, 11, 12], [3, 5, 9, 10, 11], [3, 5, 9, 10, 11, 22], [3, 5, 9, 10, 11], [3, 9, 10, 11], [3, 9, 10, 11], [2]]
theorem r21 {args : List V} {r : V} (hn : args.length = 1) (hk : (∀ a ∈ args, wfV 8 a) → awp 0 Try.prog (at? h21) [(7, [], [(2, 4)])] (Try.f21.body.getD .skip) (finK Try.prog Try.f21.results.toList r) (env0 args) []) : Ret Try.prog 21 args r :=
 Ret.of mixed (at? h21) [(7, [], [(2, 4)])] Try.func21 rfl Try.call21 (by kernel_rfl) (by rw [hn]; exact of_decide_eq_true (by kernel_rfl)) hk
def h22 : List (List Nat) := [[0, 2], [0, 2, 3, 4], [0, 2, 3, 18], [2], [0, 2, 5], [0, 2, 5, 6, 7], [0, 2, 5, 6, 7, 31], [2], [0, 2, 5, 6, 8], [0, 2, 5, 6, 8, 34], [2, 5, 6, 7, 8], [2, 5, 6, 7, 8, 46], [2], [2, 5, 6, 8, 49], [2, 5, 6, 8], [2]]
theorem r22 {args : List V} {r : V} (hn : args.length = 1) (hk : (∀ a ∈ args, wfV 8 a) → awp 0 Try.prog (at? h22) [] (Try.f22.body.getD .skip) (finK Try.prog Try.f22.results.toList r) (env0 args) []) : Ret Try.prog 22 args r :=
 Ret.of mixed (at? h22) [] Try.func22 rfl Try.call22 (by kernel_rfl) (by rw [hn]; exact of_decide_eq_true (by kernel_rfl)) hk
def h24 : List (List Nat) := [[0, 2], [0, 2, 3, 4], [0, 2, 3, 24], [2], [0, 2, 3, 5, 6], [0, 2, 3, 5, 6, 28], [0, 2, 3, 5, 6], [0, 2, 3, 5, 6, 36], [2], [0, 2, 3, 5, 41], [2], [2, 6, 7], [2, 6, 7, 66], [2], [2]]
theorem r24 {args : List V} {r : V} (hn : args.length = 1) (hk : (∀ a ∈ args, wfV 8 a) → awp 0 Try.prog (at? h24) [] (Try.f24.body.getD .skip) (finK Try.prog Try.f24.results.toList r) (env0 args) []) : Ret Try.prog 24 args r :=
 Ret.of mixed (at? h24) [] Try.func24 rfl Try.call24 (by kernel_rfl) (by rw [hn]; exact of_decide_eq_true (by kernel_rfl)) hk
def h27 : List (List Nat) := [[0, 1, 3], [1, 3, 4, 5], [1, 3, 4, 15], [3], [3]]
theorem r27 {args : List V} {r : V} (hn : args.length = 2) (hk : (∀ a ∈ args, wfV 8 a) → awp 0 Try.prog (at? h27) [] (Try.f27.body.getD .skip) (finK Try.prog Try.f27.results.toList r) (env0 args) []) : Ret Try.prog 27 args r :=
 Ret.of mixed (at? h27) [] Try.func27 rfl Try.call27 (by kernel_rfl) (by rw [hn]; exact of_decide_eq_true (by kernel_rfl)) hk
def h28 : List (List Nat) := [[0], [0, 4], [4, 7, 8, 9], [4, 7, 8, 9, 10], [4, 6, 7, 8, 9], [4, 6, 7, 8, 9, 15], [2, 3], [4, 7, 8, 9], [4, 7, 8, 9], [2, 3]]
theorem r28 {args : List V} {r : V} (hn : args.length = 1) (hk : (∀ a ∈ args, wfV 8 a) → awp 0 Try.prog (at? h28) [] (Try.f28.body.getD .skip) (finK Try.prog Try.f28.results.toList r) (env0 args) []) : Ret Try.prog 28 args r :=
 Ret.of mixed (at? h28) [] Try.func28 rfl Try.call28 (by kernel_rfl) (by rw [hn]; exact of_decide_eq_true (by kernel_rfl)) hk
def h29 : List (List Nat) := [[0, 2], [2]]
theorem r29 {args : List V} {r : V} (hn : args.length = 1) (hk : (∀ a ∈ args, wfV 8 a) → awp 0 Try.prog (at? h29) [] (Try.f29.body.getD .skip) (finK Try.prog Try.f29.results.toList r) (env0 args) []) : Ret Try.prog 29 args r :=
 Ret.of mixed (at? h29) [] Try.func29 rfl Try.call29 (by kernel_rfl) (by rw [hn]; exact of_decide_eq_true (by kernel_rfl)) hk
def h31 : List (List Nat) := [[1], [4, 5], [4, 5, 15], [2, 3], [6, 7], [6, 23], [2, 3], [2, 3]]
theorem r31 {args : List V} {r : V} (hn : args.length = 1) (hk : (∀ a ∈ args, wfV 8 a) → awp 0 Try.prog (at? h31) [] (Try.f31.body.getD .skip) (finK Try.prog Try.f31.results.toList r) (env0 args) []) : Ret Try.prog 31 args r :=
 Ret.of mixed (at? h31) [] Try.func31 rfl Try.call31 (by kernel_rfl) (by rw [hn]; exact of_decide_eq_true (by kernel_rfl)) hk
def h32 : List (List Nat) := [[1, 2, 3, 6], [1, 2, 3, 6, 26], [6], [6]]
theorem r32 {args : List V} {r : V} (hn : args.length = 3) (hk : (∀ a ∈ args, wfV 8 a) → awp 0 Try.prog (at? h32) [] (Try.f32.body.getD .skip) (finK Try.prog Try.f32.results.toList r) (env0 args) []) : Ret Try.prog 32 args r :=
 Ret.of mixed (at? h32) [] Try.func32 rfl Try.call32 (by kernel_rfl) (by rw [hn]; exact of_decide_eq_true (by kernel_rfl)) hk
def h33 : List (List Nat) := [[1, 2], [1, 2, 11], [2], [2]]
theorem r33 {args : List V} {r : V} (hn : args.length = 1) (hk : (∀ a ∈ args, wfV 8 a) → awp 0 Try.prog (at? h33) [] (Try.f33.body.getD .skip) (finK Try.prog Try.f33.results.toList r) (env0 args) []) : Ret Try.prog 33 args r :=
 Ret.of mixed (at? h33) [] Try.func33 rfl Try.call33 (by kernel_rfl) (by rw [hn]; exact of_decide_eq_true (by kernel_rfl)) hk
def h34 : List (List Nat) := [[1], [2]]
theorem r34 {args : List V} {r : V} (hn : args.length = 1) (hk : (∀ a ∈ args, wfV 8 a) → awp 0 Try.prog (at? h34) [] (Try.f34.body.getD .skip) (finK Try.prog Try.f34.results.toList r) (env0 args) []) : Ret Try.prog 34 args r :=
 Ret.of mixed (at? h34) [] Try.func34 rfl Try.call34 (by kernel_rfl) (by rw [hn]; exact of_decide_eq_true (by kernel_rfl)) hk
def h35 : List (List Nat) := [[1, 2, 3, 4], [1, 2, 3, 10], [1, 2, 3, 10, 19], [8, 9], [1, 2, 3, 10, 28], [1, 2, 3, 10], [1, 2, 3, 10, 11], [1, 2, 3, 10, 11, 12], [1, 2, 3, 10, 11, 12, 32], [1, 2, 3, 10, 11, 12], [1, 2, 3, 10, 11, 12, 13], [1, 2, 3, 10, 11, 12, 13, 42], [1, 2, 3, 10, 11, 12, 14], [1, 2, 3, 10, 11, 12, 14, 51], [8, 9], [1, 2, 3, 10, 11, 12, 56], [1, 2, 3, 10, 11, 12, 58], [1, 2, 3, 10, 11, 12], [11, 61], [8, 9], [8, 9]]
theorem r35 {args : List V} {r : V} (hn : args.length = 4) (hk : (∀ a ∈ args, wfV 8 a) → awp 0 Try.prog (at? h35) [] (Try.f35.body.getD .skip) (finK Try.prog Try.f35.results.toList r) (env0 args) []) : Ret Try.prog 35 args r :=
 Ret.of mixed (at? h35) [] Try.func35 rfl Try.call35 (by kernel_rfl) (by rw [hn]; exact of_decide_eq_true (by kernel_rfl)) hk
def h36 : List (List Nat) := [[1, 2, 4], [4]]
theorem r36 {args : List V} {r : V} (hn : args.length = 2) (hk : (∀ a ∈ args, wfV 8 a) → awp 0 Try.prog (at? h36) [] (Try.f36.body.getD .skip) (finK Try.prog Try.f36.results.toList r) (env0 args) []) : Ret Try.prog 36 args r :=
 Ret.of mixed (at? h36) [] Try.func36 rfl Try.call36 (by kernel_rfl) (by rw [hn]; exact of_decide_eq_true (by kernel_rfl)) hk
def h42 : List (List Nat) := [[1], [1, 33], [2], [35, 36, 37], [35, 36, 37, 38], [4, 35, 36, 37], [35, 36, 37, 43], [2], [35, 36, 37], [2]]
theorem r42 {args : List V} {r : V} (hn : args.length = 1) (hk : (∀ a ∈ args, wfV 8 a) → awp 0 Try.prog (at? h42) [] (Try.f42.body.getD .skip) (finK Try.prog Try.f42.results.toList r) (env0 args) []) : Ret Try.prog 42 args r :=
 Ret.of mixed (at? h42) [] Try.func42 rfl Try.call42 (by kernel_rfl) (by rw [hn]; exact of_decide_eq_true (by kernel_rfl)) hk
def h43 : List (List Nat) := [[0, 1, 4], [0, 4, 9], [4], [4]]
theorem r43 {args : List V} {r : V} (hn : args.length = 2) (hk : (∀ a ∈ args, wfV 8 a) → awp 0 Try.prog (at? h43) [] (Try.f43.body.getD .skip) (finK Try.prog Try.f43.results.toList r) (env0 args) []) : Ret Try.prog 43 args r :=
 Ret.of mixed (at? h43) [] Try.func43 rfl Try.call43 (by kernel_rfl) (by rw [hn]; exact of_decide_eq_true (by kernel_rfl)) hk
def h46 : List (List Nat) := [[1], [12], [12, 14, 15], [], [2, 3], [12, 17, 18], [5], [2, 3], [12, 21, 22], [6], [23], [2, 3], [2, 3], [12, 25, 26], [7], [8, 9], [8, 32], [2, 3], [35, 36], [10], [2, 3], [2, 3]]
theorem r46 {args : List V} {r : V} (hn : args.length = 1) (hk : (∀ a ∈ args, wfV 8 a) → awp 0 Try.prog (at? h46) [] (Try.f46.body.getD .skip) (finK Try.prog Try.f46.results.toList r) (env0 args) []) : Ret Try.prog 46 args r :=
 Ret.of mixed (at? h46) [] Try.func46 rfl Try.call46 (by kernel_rfl) (by rw [hn]; exact of_decide_eq_true (by kernel_rfl)) hk
def h47 : List (List Nat) := [[0], [0, 11], [2, 3], [2, 3]]
theorem r47 {args : List V} {r : V} (hn : args.length = 1) (hk : (∀ a ∈ args, wfV 8 a) → awp 0 Try.prog (at? h47) [] (Try.f47.body.getD .skip) (finK Try.prog Try.f47.results.toList r) (env0 args) []) : Ret Try.prog 47 args r :=
 Ret.of mixed (at? h47) [] Try.func47 rfl Try.call47 (by kernel_rfl) (by rw [hn]; exact of_decide_eq_true (by kernel_rfl)) hk
def h48 : List (List Nat) := [[2, 3], [2, 3, 5], [2, 3, 5, 6, 7, 8], [6, 7, 8, 9, 10, 11], [6, 7, 8, 9, 10, 11, 28], [4], [7, 8, 10, 11, 36], [4], [8, 11, 44], [4], [4]]
theorem r48 {args : List V} {r : V} (hn : args.length = 2) (hk : (∀ a ∈ args, wfV 8 a) → awp 0 Try.prog (at? h48) [] (Try.f48.body.getD .skip) (finK Try.prog Try.f48.results.toList r) (env0 args) []) : Ret Try.prog 48 args r :=
 Ret.of mixed (at? h48) [] Try.func48 rfl Try.call48 (by kernel_rfl) (by rw [hn]; exact of_decide_eq_true (by kernel_rfl)) hk
def h49 : List (List Nat) := [[1], [1, 4], [1, 4, 5], [2], [1, 4, 9], [2], [1, 4, 14], [2], [1, 4, 19], [2], [1, 25], [2], [2]]
theorem r49 {args : List V} {r : V} (hn : args.length = 1) (hk : (∀ a ∈ args, wfV 8 a) → awp 0 Try.prog (at? h49) [] (Try.f49.body.getD .skip) (finK Try.prog Try.f49.results.toList r) (env0 args) []) : Ret Try.prog 49 args r :=
 Ret.of mixed (at? h49) [] Try.func49 rfl Try.call49 (by kernel_rfl) (by rw [hn]; exact of_decide_eq_true (by kernel_rfl)) hk
def h51 : List (List Nat) := [[1], [1, 15], [2], [1, 17], [1, 17, 19, 20], [1], [2], [1, 17, 25, 26], [4], [2], [1, 17, 30, 31], [1, 5], [2], [1, 17, 41, 42], [1], [2], [52, 53], [7], [2], [2]]
theorem r51 {args : List V} {r : V} (hn : args.length = 1) (hk : (∀ a ∈ args, wfV 8 a) → awp 0 Try.prog (at? h51) [] (Try.f51.body.getD .skip) (finK Try.prog Try.f51.results.toList r) (env0 args) []) : Ret Try.prog 51 args r :=
 Ret.of mixed (at? h51) [] Try.func51 rfl Try.call51 (by kernel_rfl) (by rw [hn]; exact of_decide_eq_true (by kernel_rfl)) hk
def h52 : List (List Nat) := [[0], [2]]
theorem r52 {args : List V} {r : V} (hn : args.length = 1) (hk : (∀ a ∈ args, wfV 8 a) → awp 0 Try.prog (at? h52) [] (Try.f52.body.getD .skip) (finK Try.prog Try.f52.results.toList r) (env0 args) []) : Ret Try.prog 52 args r :=
 Ret.of mixed (at? h52) [] Try.func52 rfl Try.call52 (by kernel_rfl) (by rw [hn]; exact of_decide_eq_true (by kernel_rfl)) hk
def h54 : List (List Nat) := [[2, 3], [2, 3, 7], [2, 3, 7, 11], [2, 3, 7], [2, 3, 7, 19], [2, 7], [2, 7], [2, 7, 23], [2, 7, 23, 24], [2, 7, 23, 24], [4, 5, 6], [2, 7, 30], [4, 5, 6], [4, 5, 6]]
theorem r54 {args : List V} {r : V} (hn : args.length = 2) (hk : (∀ a ∈ args, wfV 8 a) → awp 0 Try.prog (at? h54) [] (Try.f54.body.getD .skip) (finK Try.prog Try.f54.results.toList r) (env0 args) []) : Ret Try.prog 54 args r :=
 Ret.of mixed (at? h54) [] Try.func54 rfl Try.call54 (by kernel_rfl) (by rw [hn]; exact of_decide_eq_true (by kernel_rfl)) hk
def h55 : List (List Nat) := [[0], [3], [2], [2]]
theorem r55 {args : List V} {r : V} (hn : args.length = 1) (hk : (∀ a ∈ args, wfV 8 a) → awp 0 Try.prog (at? h55) [] (Try.f55.body.getD .skip) (finK Try.prog Try.f55.results.toList r) (env0 args) []) : Ret Try.prog 55 args r :=
 Ret.of mixed (at? h55) [] Try.func55 rfl Try.call55 (by kernel_rfl) (by rw [hn]; exact of_decide_eq_true (by kernel_rfl)) hk
abbrev F_octavolaw21_LookupCounts : FuncId := 6
abbrev r_octavolaw21_LookupCounts := @r6
abbrev F_octavolaw21_lives : FuncId := 8
abbrev r_octavolaw21_lives := @r8
abbrev F_lookup_Call : FuncId := 9
abbrev r_lookup_Call := @r9
abbrev F_octavoref06_Good : FuncId := 10
abbrev r_octavoref06_Good := @r10
abbrev F_octavolaw21_ask : FuncId := 11
abbrev r_octavolaw21_ask := @r11
abbrev F_octavolaw21_number : FuncId := 12
abbrev r_octavolaw21_number := @r12
abbrev F_lookup_find : FuncId := 14
abbrev r_lookup_find := @r14
abbrev F_value_Bad : FuncId := 15
abbrev r_value_Bad := @r15
abbrev F_octavoref05_Good : FuncId := 16
abbrev r_octavoref05_Good := @r16
abbrev F_octavolaw21_one : FuncId := 17
abbrev r_octavolaw21_one := @r17
abbrev F_lookup_sized : FuncId := 18
abbrev r_lookup_sized := @r18
abbrev F_lookup_find_1 : FuncId := 19
abbrev r_lookup_find_1 := @r19
abbrev F_lookup_find_2 : FuncId := 20
abbrev r_lookup_find_2 := @r20
abbrev F_lookup_unlike : FuncId := 21
abbrev r_lookup_unlike := @r21
abbrev F_lookup_index : FuncId := 22
abbrev r_lookup_index := @r22
abbrev F_lookup_place : FuncId := 24
abbrev r_lookup_place := @r24
abbrev F_lookup_sized_1 : FuncId := 27
abbrev r_lookup_sized_1 := @r27
abbrev F_lookup_goods : FuncId := 28
abbrev r_lookup_goods := @r28
abbrev F_lookup_whole : FuncId := 29
abbrev r_lookup_whole := @r29
abbrev F_value_Upper : FuncId := 30
abbrev F_lookup_ints : FuncId := 31
abbrev r_lookup_ints := @r31
abbrev F_lookup_grid_at : FuncId := 32
abbrev r_lookup_grid_at := @r32
abbrev F_maths_One : FuncId := 33
abbrev r_maths_One := @r33
abbrev F_lookup_grid_line : FuncId := 34
abbrev r_lookup_grid_line := @r34
abbrev F_lookup_match : FuncId := 35
abbrev r_lookup_match := @r35
abbrev F_lookup_grid_nth : FuncId := 36
abbrev r_lookup_grid_nth := @r36
abbrev F_maths_Good : FuncId := 42
abbrev r_maths_Good := @r42
abbrev F_value_Of : FuncId := 43
abbrev r_value_Of := @r43
abbrev F_value_ToNum : FuncId := 46
abbrev r_value_ToNum := @r46
abbrev F_num_Whole : FuncId := 47
abbrev r_num_Whole := @r47
abbrev F_value_Cmp : FuncId := 48
abbrev r_value_Cmp := @r48
abbrev F_value_own : FuncId := 49
abbrev r_value_own := @r49
abbrev F_value_Good : FuncId := 51
abbrev r_value_Good := @r51
abbrev F_num_Good : FuncId := 52
abbrev r_num_Good := @r52
abbrev F_value_Cmp_1 : FuncId := 54
abbrev r_value_Cmp_1 := @r54
abbrev F_value_order : FuncId := 55
abbrev r_value_order := @r55
end Go.Proofs.Ytkkfclpodgagdaa.R
