/- Each function of the program: what is kept behind each of its pieces, and its own form of the rule. -/
import Derived.Test.YtllceoncpgebpaaGreatDoorCore1
import Derived.Test.YtllceoncpgebpaaGreatDoorProg
namespace Go.Proofs.YtllceoncpgebpaaGreatDoor.R
open Go.Proofs.YtllceoncpgebpaaGreatDoor.Ab
set_option maxRecDepth 20000
theorem mixed : Tryz.prog.follows .mixedOrders = true := by kernel_rfl
def h7 : List (List Nat) := [[0, 1], [0, 1, 17], [4], [0, 1, 5], [0, 1, 5, 19, 20, 21], [0, 1, 5, 19, 20, 21, 22], [0, 1, 5, 7, 19, 20, 21], [0, 1, 5, 7, 8, 19, 20, 21], [0, 1, 5, 8, 19, 20, 21], [0, 1, 5, 19, 20, 21], [0, 1, 5, 19, 20, 21], [0, 1, 5, 9, 10], [0, 1, 5, 9, 10, 11, 12], [1, 5, 68], [4], [1, 5, 70, 71], [1, 5, 70, 71, 72], [1, 5, 13, 70, 71], [1, 5, 13, 70, 71, 79, 80], [1, 5, 13, 70, 71, 79, 80, 81], [1, 5, 13, 14, 70, 71, 79, 80], [1, 5, 13, 70, 71, 79, 80, 99], [4], [1, 5, 13, 70, 71, 79, 80], [1, 5, 70, 71], [4]]
theorem r7 {args : List V} {r : V} (hn : args.length = 2) (hk : (∀ a ∈ args, wfV 8 a) → awp 0 Tryz.prog (at? h7) [] (Tryz.f7.body.getD .skip) (finK Tryz.prog Tryz.f7.results.toList r) (env0 args) []) : Ret Tryz.prog 7 args r :=
 Ret.of mixed (at? h7) [] Tryz.func7 rfl Tryz.call7 (by kernel_rfl) (by rw [hn]; exact of_decide_eq_true (by kernel_rfl)) hk
def h8 : List (List Nat) := [[0], [0, 3], [3, 10, 11, 12], [3, 10, 11, 12, 13], [3, 5, 10, 11, 12], [3, 5, 10, 11, 12], [3, 10, 11, 12, 22, 23, 24], [3, 10, 11, 12, 22, 23, 24, 25], [3, 7, 10, 11, 12, 22, 23, 24], [3, 10, 11, 12, 22, 23, 24], [3, 10, 11, 12, 22, 23, 24], [3, 10, 11, 12], [2]]
theorem r8 {args : List V} {r : V} (hn : args.length = 1) (hk : (∀ a ∈ args, wfV 8 a) → awp 0 Tryz.prog (at? h8) [] (Tryz.f8.body.getD .skip) (finK Tryz.prog Tryz.f8.results.toList r) (env0 args) []) : Ret Tryz.prog 8 args r :=
 Ret.of mixed (at? h8) [] Tryz.func8 rfl Tryz.call8 (by kernel_rfl) (by rw [hn]; exact of_decide_eq_true (by kernel_rfl)) hk
def h9 : List (List Nat) := [[], [0]]
theorem r9 {args : List V} {r : V} (hn : args.length = 0) (hk : (∀ a ∈ args, wfV 8 a) → awp 0 Tryz.prog (at? h9) [] (Tryz.f9.body.getD .skip) (finK Tryz.prog Tryz.f9.results.toList r) (env0 args) []) : Ret Tryz.prog 9 args r :=
 Ret.of mixed (at? h9) [] Tryz.func9 rfl Tryz.call9 (by kernel_rfl) (by rw [hn]; exact of_decide_eq_true (by kernel_rfl)) hk
def h10 : List (List Nat) := [[0, 1, 4], [1, 4, 6, 7], [1, 4, 6, 7, 13], [4, 5], [1, 4, 6, 7, 17], [1, 4, 6, 17], [4, 5], [4, 5]]
theorem r10 {args : List V} {r : V} (hn : args.length = 2) (hk : (∀ a ∈ args, wfV 8 a) → awp 0 Tryz.prog (at? h10) [] (Tryz.f10.body.getD .skip) (finK Tryz.prog Tryz.f10.results.toList r) (env0 args) []) : Ret Tryz.prog 10 args r :=
 Ret.of mixed (at? h10) [] Tryz.func10 rfl Tryz.call10 (by kernel_rfl) (by rw [hn]; exact of_decide_eq_true (by kernel_rfl)) hk
def h11 : List (List Nat) := [[1], [1, 4], [1, 4, 5], [2], [1, 4, 10], [2], [1, 4, 20], [2], [1, 4, 31], [2], [1, 46], [2], [2]]
theorem r11 {args : List V} {r : V} (hn : args.length = 1) (hk : (∀ a ∈ args, wfV 8 a) → awp 0 Tryz.prog (at? h11) [] (Tryz.f11.body.getD .skip) (finK Tryz.prog Tryz.f11.results.toList r) (env0 args) []) : Ret Tryz.prog 11 args r :=
 Ret.of mixed (at? h11) [] Tryz.func11 rfl Tryz.call11 (by kernel_rfl) (by rw [hn]; exact of_decide_eq_true (by kernel_rfl)) hk
def h12 : List (List Nat) := [[1, 2], [2]]
theorem r12 {args : List V} {r : V} (hn : args.length = 1) (hk : (∀ a ∈ args, wfV 8 a) → awp 0 Tryz.prog (at? h12) [] (Tryz.f12.body.getD .skip) (finK Tryz.prog Tryz.f12.results.toList r) (env0 args) []) : Ret Tryz.prog 12 args r :=
 Ret.of mixed (at? h12) [] Tryz.func12 rfl Tryz.call12 (by kernel_rfl) (by rw [hn]; exact of_decide_eq_true (by kernel_rfl)) hk
def h13 : List (List Nat) := [[0, 1, 4], [4, 5], [4]]
theorem r13 {args : List V} {r : V} (hn : args.length = 2) (hk : (∀ a ∈ args, wfV 8 a) → awp 0 Tryz.prog (at? h13) [] (Tryz.f13.body.getD .skip) (finK Tryz.prog Tryz.f13.results.toList r) (env0 args) []) : Ret Tryz.prog 13 args r :=
 Ret.of mixed (at? h13) [] Tryz.func13 rfl Tryz.call13 (by kernel_rfl) (by rw [hn]; exact of_decide_eq_true (by kernel_rfl)) hk
def h14 : List (List Nat) := [[0, 2], [2]]
theorem r14 {args : List V} {r : V} (hn : args.length = 1) (hk : (∀ a ∈ args, wfV 8 a) → awp 0 Tryz.prog (at? h14) [] (Tryz.f14.body.getD .skip) (finK Tryz.prog Tryz.f14.results.toList r) (env0 args) []) : Ret Tryz.prog 14 args r :=
 Ret.of mixed (at? h14) [] Tryz.func14 rfl Tryz.call14 (by kernel_rfl) (by rw [hn]; exact of_decide_eq_true (by kernel_rfl)) hk
def h15 : List (List Nat) := [[0, 1, 4], [0, 1, 4, 20], [4, 5], [0, 1, 4, 6], [0, 1, 4, 40], [4, 5], [0, 1, 4, 42], [0, 1, 4, 42, 43], [0, 1, 4, 42, 43], [0, 1, 4, 42, 43], [0, 4, 7, 8, 9], [0, 4, 7, 8, 9, 53], [4, 5], [0, 4, 7, 8, 58], [4, 5], [4, 7, 64], [4, 5], [4, 5], [0, 1, 4, 42, 74], [4, 10, 11], [4, 10, 11, 85], [4, 5], [4, 5], [0, 1, 4, 42, 91], [0, 1, 4, 42, 91], [4, 5], [0, 1, 4, 42, 97], [4, 5], [0, 1, 4, 42, 100], [4, 5], [0, 1, 4, 42, 104], [0, 1, 4, 42, 104], [0, 1, 4, 42, 104], [4, 5], [0, 1, 4, 111], [4, 12, 13], [4, 12, 13, 122], [4, 5], [4, 14, 15], [4, 14, 131], [4, 5], [4, 5], [0, 1, 4, 136], [0, 4, 16, 17], [0, 4, 16, 17, 145], [4, 5], [4, 5], [0, 1, 4, 163], [4, 5], [4, 5]]
theorem r15 {args : List V} {r : V} (hn : args.length = 2) (hk : (∀ a ∈ args, wfV 8 a) → awp 0 Tryz.prog (at? h15) [] (Tryz.f15.body.getD .skip) (finK Tryz.prog Tryz.f15.results.toList r) (env0 args) []) : Ret Tryz.prog 15 args r :=
 Ret.of mixed (at? h15) [] Tryz.func15 rfl Tryz.call15 (by kernel_rfl) (by rw [hn]; exact of_decide_eq_true (by kernel_rfl)) hk
def h16 : List (List Nat) := [[0], [3], [2]]
theorem r16 {args : List V} {r : V} (hn : args.length = 1) (hk : (∀ a ∈ args, wfV 8 a) → awp 0 Tryz.prog (at? h16) [] (Tryz.f16.body.getD .skip) (finK Tryz.prog Tryz.f16.results.toList r) (env0 args) []) : Ret Tryz.prog 16 args r :=
 Ret.of mixed (at? h16) [] Tryz.func16 rfl Tryz.call16 (by kernel_rfl) (by rw [hn]; exact of_decide_eq_true (by kernel_rfl)) hk
def h17 : List (List Nat) := [[0], [2]]
theorem r17 {args : List V} {r : V} (hn : args.length = 1) (hk : (∀ a ∈ args, wfV 8 a) → awp 0 Tryz.prog (at? h17) [] (Tryz.f17.body.getD .skip) (finK Tryz.prog Tryz.f17.results.toList r) (env0 args) []) : Ret Tryz.prog 17 args r :=
 Ret.of mixed (at? h17) [] Tryz.func17 rfl Tryz.call17 (by kernel_rfl) (by rw [hn]; exact of_decide_eq_true (by kernel_rfl)) hk
def h18 : List (List Nat) := [[0, 2], [2]]
theorem r18 {args : List V} {r : V} (hn : args.length = 1) (hk : (∀ a ∈ args, wfV 8 a) → awp 0 Tryz.prog (at? h18) [] (Tryz.f18.body.getD .skip) (finK Tryz.prog Tryz.f18.results.toList r) (env0 args) []) : Ret Tryz.prog 18 args r :=
 Ret.of mixed (at? h18) [] Tryz.func18 rfl Tryz.call18 (by kernel_rfl) (by rw [hn]; exact of_decide_eq_true (by kernel_rfl)) hk
def h19 : List (List Nat) := [[0], [0, 5], [0, 5, 6], [2, 3], [0, 5, 9], [2, 3], [0, 5, 12], [2, 3], [0, 5, 15], [2, 3], [0, 5, 17], [2, 3], [0, 5, 21], [2, 3], [0, 5, 25], [2, 3], [0, 5, 29], [2, 3], [0, 5, 31], [2, 3], [0, 5, 34], [2, 3], [0, 5, 37], [2, 3], [0, 39], [2, 3], [0, 4], [0, 4, 44], [2, 3], [2, 3]]
theorem r19 {args : List V} {r : V} (hn : args.length = 1) (hk : (∀ a ∈ args, wfV 8 a) → awp 0 Tryz.prog (at? h19) [] (Tryz.f19.body.getD .skip) (finK Tryz.prog Tryz.f19.results.toList r) (env0 args) []) : Ret Tryz.prog 19 args r :=
 Ret.of mixed (at? h19) [] Tryz.func19 rfl Tryz.call19 (by kernel_rfl) (by rw [hn]; exact of_decide_eq_true (by kernel_rfl)) hk
def h20 : List (List Nat) := [[0, 2], [0, 2, 8], [0, 2], [2]]
theorem r20 {args : List V} {r : V} (hn : args.length = 1) (hk : (∀ a ∈ args, wfV 8 a) → awp 0 Tryz.prog (at? h20) [] (Tryz.f20.body.getD .skip) (finK Tryz.prog Tryz.f20.results.toList r) (env0 args) []) : Ret Tryz.prog 20 args r :=
 Ret.of mixed (at? h20) [] Tryz.func20 rfl Tryz.call20 (by kernel_rfl) (by rw [hn]; exact of_decide_eq_true (by kernel_rfl)) hk
def h21 : List (List Nat) := [[0], [2]]
theorem r21 {args : List V} {r : V} (hn : args.length = 1) (hk : (∀ a ∈ args, wfV 8 a) → awp 0 Tryz.prog (at? h21) [] (Tryz.f21.body.getD .skip) (finK Tryz.prog Tryz.f21.results.toList r) (env0 args) []) : Ret Tryz.prog 21 args r :=
 Ret.of mixed (at? h21) [] Tryz.func21 rfl Tryz.call21 (by kernel_rfl) (by rw [hn]; exact of_decide_eq_true (by kernel_rfl)) hk
def h22 : List (List Nat) := [[0], [3], [3, 4], [3, 4], [3, 4], [2], [3, 8], [3, 8], [3, 8], [2], [3, 12], [2], [3, 14], [3, 14], [14], [2], [2]]
theorem r22 {args : List V} {r : V} (hn : args.length = 1) (hk : (∀ a ∈ args, wfV 8 a) → awp 0 Tryz.prog (at? h22) [] (Tryz.f22.body.getD .skip) (finK Tryz.prog Tryz.f22.results.toList r) (env0 args) []) : Ret Tryz.prog 22 args r :=
 Ret.of mixed (at? h22) [] Tryz.func22 rfl Tryz.call22 (by kernel_rfl) (by rw [hn]; exact of_decide_eq_true (by kernel_rfl)) hk
def h23 : List (List Nat) := [[0, 2], [2]]
theorem r23 {args : List V} {r : V} (hn : args.length = 1) (hk : (∀ a ∈ args, wfV 8 a) → awp 0 Tryz.prog (at? h23) [] (Tryz.f23.body.getD .skip) (finK Tryz.prog Tryz.f23.results.toList r) (env0 args) []) : Ret Tryz.prog 23 args r :=
 Ret.of mixed (at? h23) [] Tryz.func23 rfl Tryz.call23 (by kernel_rfl) (by rw [hn]; exact of_decide_eq_true (by kernel_rfl)) hk
def h24 : List (List Nat) := [[0], [0, 5, 6], [5, 6, 13, 14, 15], [5, 6, 13, 14, 15, 16], [5, 6, 8, 13, 14, 15], [5, 6, 8, 13, 14, 15, 21], [2, 3, 4], [5, 6, 8, 13, 14, 15, 23, 24, 25], [5, 6, 8, 13, 14, 15, 23, 24, 25, 26], [5, 6, 8, 10, 13, 14, 15, 23, 24, 25], [5, 6, 8, 10, 13, 14, 15, 23, 24, 25, 42], [5, 6, 8, 11, 12, 13, 14, 15, 23, 24, 25], [5, 6, 8, 11, 12, 13, 14, 15, 23, 24, 25, 49], [2, 3, 4], [5, 6, 8, 13, 14, 15, 23, 24, 25, 51], [5, 6, 8, 13, 14, 15, 23, 24, 25], [5, 6, 8, 13, 14, 15, 23, 24, 25], [5, 6, 8, 13, 14, 15, 23, 24, 25], [5, 6, 13, 14, 15], [2, 3, 4]]
theorem r24 {args : List V} {r : V} (hn : args.length = 1) (hk : (∀ a ∈ args, wfV 8 a) → awp 0 Tryz.prog (at? h24) [] (Tryz.f24.body.getD .skip) (finK Tryz.prog Tryz.f24.results.toList r) (env0 args) []) : Ret Tryz.prog 24 args r :=
 Ret.of mixed (at? h24) [] Tryz.func24 rfl Tryz.call24 (by kernel_rfl) (by rw [hn]; exact of_decide_eq_true (by kernel_rfl)) hk
def h25 : List (List Nat) := [[0, 2], [2, 3], [2], [2]]
theorem r25 {args : List V} {r : V} (hn : args.length = 1) (hk : (∀ a ∈ args, wfV 8 a) → awp 0 Tryz.prog (at? h25) [] (Tryz.f25.body.getD .skip) (finK Tryz.prog Tryz.f25.results.toList r) (env0 args) []) : Ret Tryz.prog 25 args r :=
 Ret.of mixed (at? h25) [] Tryz.func25 rfl Tryz.call25 (by kernel_rfl) (by rw [hn]; exact of_decide_eq_true (by kernel_rfl)) hk
def h26 : List (List Nat) := [[1], [1, 6], [1, 6, 7], [2, 3], [1, 6, 9], [1, 6, 9], [2, 3], [1, 6, 15], [4], [4, 21], [2, 3], [1, 24], [2, 3], [2, 3]]
theorem r26 {args : List V} {r : V} (hn : args.length = 1) (hk : (∀ a ∈ args, wfV 8 a) → awp 0 Tryz.prog (at? h26) [] (Tryz.f26.body.getD .skip) (finK Tryz.prog Tryz.f26.results.toList r) (env0 args) []) : Ret Tryz.prog 26 args r :=
 Ret.of mixed (at? h26) [] Tryz.func26 rfl Tryz.call26 (by kernel_rfl) (by rw [hn]; exact of_decide_eq_true (by kernel_rfl)) hk
def h27 : List (List Nat) := [[1, 2], [1, 2, 11], [2], [2]]
theorem r27 {args : List V} {r : V} (hn : args.length = 1) (hk : (∀ a ∈ args, wfV 8 a) → awp 0 Tryz.prog (at? h27) [] (Tryz.f27.body.getD .skip) (finK Tryz.prog Tryz.f27.results.toList r) (env0 args) []) : Ret Tryz.prog 27 args r :=
 Ret.of mixed (at? h27) [] Tryz.func27 rfl Tryz.call27 (by kernel_rfl) (by rw [hn]; exact of_decide_eq_true (by kernel_rfl)) hk
def h28 : List (List Nat) := [[0, 2], [0, 2, 3], [0, 2, 3, 7], [0, 2, 3, 7, 8], [0, 2, 3, 4, 7], [0, 2, 3, 4, 5, 6, 7], [0, 2, 3, 4, 5, 6, 7, 19], [2], [0, 2, 3, 7], [0, 2, 3, 7], [2]]
theorem r28 {args : List V} {r : V} (hn : args.length = 1) (hk : (∀ a ∈ args, wfV 8 a) → awp 0 Tryz.prog (at? h28) [] (Tryz.f28.body.getD .skip) (finK Tryz.prog Tryz.f28.results.toList r) (env0 args) []) : Ret Tryz.prog 28 args r :=
 Ret.of mixed (at? h28) [] Tryz.func28 rfl Tryz.call28 (by kernel_rfl) (by rw [hn]; exact of_decide_eq_true (by kernel_rfl)) hk
def h29 : List (List Nat) := [[0, 1, 4], [0, 1, 4, 5, 6], [0, 1, 4, 5, 6, 18], [4], [0, 1, 4, 5, 22], [4, 5, 7, 8], [4, 5, 7, 8, 31], [4], [4], [0, 4, 5, 6, 9], [0, 4, 5, 6, 9, 46], [4], [4]]
theorem r29 {args : List V} {r : V} (hn : args.length = 2) (hk : (∀ a ∈ args, wfV 8 a) → awp 0 Tryz.prog (at? h29) [] (Tryz.f29.body.getD .skip) (finK Tryz.prog Tryz.f29.results.toList r) (env0 args) []) : Ret Tryz.prog 29 args r :=
 Ret.of mixed (at? h29) [] Tryz.func29 rfl Tryz.call29 (by kernel_rfl) (by rw [hn]; exact of_decide_eq_true (by kernel_rfl)) hk
def h30 : List (List Nat) := [[1], [1, 6], [2, 3], [2, 3]]
theorem r30 {args : List V} {r : V} (hn : args.length = 1) (hk : (∀ a ∈ args, wfV 8 a) → awp 0 Tryz.prog (at? h30) [] (Tryz.f30.body.getD .skip) (finK Tryz.prog Tryz.f30.results.toList r) (env0 args) []) : Ret Tryz.prog 30 args r :=
 Ret.of mixed (at? h30) [] Tryz.func30 rfl Tryz.call30 (by kernel_rfl) (by rw [hn]; exact of_decide_eq_true (by kernel_rfl)) hk
def h32 : List (List Nat) := [[0, 2], [0, 2, 8], [2], [2]]
theorem r32 {args : List V} {r : V} (hn : args.length = 1) (hk : (∀ a ∈ args, wfV 8 a) → awp 0 Tryz.prog (at? h32) [] (Tryz.f32.body.getD .skip) (finK Tryz.prog Tryz.f32.results.toList r) (env0 args) []) : Ret Tryz.prog 32 args r :=
 Ret.of mixed (at? h32) [] Tryz.func32 rfl Tryz.call32 (by kernel_rfl) (by rw [hn]; exact of_decide_eq_true (by kernel_rfl)) hk
def h33 : List (List Nat) := [[0, 1], [0, 1, 5], [0, 1, 5, 6], [0, 1, 5, 6, 10], [0, 1, 5, 6], [0, 1, 5, 6, 22], [0, 1, 6, 32], [4], [0, 1, 5, 6], [4]]
theorem r33 {args : List V} {r : V} (hn : args.length = 2) (hk : (∀ a ∈ args, wfV 8 a) → awp 0 Tryz.prog (at? h33) [] (Tryz.f33.body.getD .skip) (finK Tryz.prog Tryz.f33.results.toList r) (env0 args) []) : Ret Tryz.prog 33 args r :=
 Ret.of mixed (at? h33) [] Tryz.func33 rfl Tryz.call33 (by kernel_rfl) (by rw [hn]; exact of_decide_eq_true (by kernel_rfl)) hk
def h34 : List (List Nat) := [[1], [4, 5], [4, 5, 13], [2, 3], [6], [6, 22], [2, 3], [2, 3]]
theorem r34 {args : List V} {r : V} (hn : args.length = 1) (hk : (∀ a ∈ args, wfV 8 a) → awp 0 Tryz.prog (at? h34) [] (Tryz.f34.body.getD .skip) (finK Tryz.prog Tryz.f34.results.toList r) (env0 args) []) : Ret Tryz.prog 34 args r :=
 Ret.of mixed (at? h34) [] Tryz.func34 rfl Tryz.call34 (by kernel_rfl) (by rw [hn]; exact of_decide_eq_true (by kernel_rfl)) hk
def h35 : List (List Nat) := [[0, 1, 4], [0, 1, 4, 5, 6, 7], [1, 4, 5, 6, 7, 16], [1, 4, 5, 6, 7, 16, 17], [4], [1, 4, 6, 7, 16, 21], [4], [1, 4, 7, 16, 25], [4], [1, 4, 16, 29], [4], [1, 4, 34], [4], [4]]
theorem r35 {args : List V} {r : V} (hn : args.length = 2) (hk : (∀ a ∈ args, wfV 8 a) → awp 0 Tryz.prog (at? h35) [] (Tryz.f35.body.getD .skip) (finK Tryz.prog Tryz.f35.results.toList r) (env0 args) []) : Ret Tryz.prog 35 args r :=
 Ret.of mixed (at? h35) [] Tryz.func35 rfl Tryz.call35 (by kernel_rfl) (by rw [hn]; exact of_decide_eq_true (by kernel_rfl)) hk
def h36 : List (List Nat) := [[1], [1, 33], [2], [35, 36, 37], [35, 36, 37, 38], [4, 35, 36, 37], [35, 36, 37, 43], [2], [35, 36, 37], [2]]
theorem r36 {args : List V} {r : V} (hn : args.length = 1) (hk : (∀ a ∈ args, wfV 8 a) → awp 0 Tryz.prog (at? h36) [] (Tryz.f36.body.getD .skip) (finK Tryz.prog Tryz.f36.results.toList r) (env0 args) []) : Ret Tryz.prog 36 args r :=
 Ret.of mixed (at? h36) [] Tryz.func36 rfl Tryz.call36 (by kernel_rfl) (by rw [hn]; exact of_decide_eq_true (by kernel_rfl)) hk
def h37 : List (List Nat) := [[0, 3, 4], [3, 4, 5], [3, 4, 5, 6], [4], [3, 4, 5, 12], [4], [3, 4, 5, 18], [4], [3, 4, 5, 24], [4], [3, 4, 5, 30], [4], [3, 4, 5, 36], [4], [3, 4, 5, 42], [4], [3, 4, 5, 53], [4], [3, 4, 64], [3, 4, 68], [4], [4], [4, 74], [4, 74, 75], [4], [4, 74, 78], [4], [4, 81], [4], [4]]
theorem r37 {args : List V} {r : V} (hn : args.length = 2) (hk : (∀ a ∈ args, wfV 8 a) → awp 0 Tryz.prog (at? h37) [] (Tryz.f37.body.getD .skip) (finK Tryz.prog Tryz.f37.results.toList r) (env0 args) []) : Ret Tryz.prog 37 args r :=
 Ret.of mixed (at? h37) [] Tryz.func37 rfl Tryz.call37 (by kernel_rfl) (by rw [hn]; exact of_decide_eq_true (by kernel_rfl)) hk
def h38 : List (List Nat) := [[1], [2]]
theorem r38 {args : List V} {r : V} (hn : args.length = 1) (hk : (∀ a ∈ args, wfV 8 a) → awp 0 Tryz.prog (at? h38) [] (Tryz.f38.body.getD .skip) (finK Tryz.prog Tryz.f38.results.toList r) (env0 args) []) : Ret Tryz.prog 38 args r :=
 Ret.of mixed (at? h38) [] Tryz.func38 rfl Tryz.call38 (by kernel_rfl) (by rw [hn]; exact of_decide_eq_true (by kernel_rfl)) hk
def h39 : List (List Nat) := [[1], [4]]
theorem r39 {args : List V} {r : V} (hn : args.length = 2) (hk : (∀ a ∈ args, wfV 8 a) → awp 0 Tryz.prog (at? h39) [] (Tryz.f39.body.getD .skip) (finK Tryz.prog Tryz.f39.results.toList r) (env0 args) []) : Ret Tryz.prog 39 args r :=
 Ret.of mixed (at? h39) [] Tryz.func39 rfl Tryz.call39 (by kernel_rfl) (by rw [hn]; exact of_decide_eq_true (by kernel_rfl)) hk
def h40 : List (List Nat) := [[0], [4]]
theorem r40 {args : List V} {r : V} (hn : args.length = 2) (hk : (∀ a ∈ args, wfV 8 a) → awp 0 Tryz.prog (at? h40) [] (Tryz.f40.body.getD .skip) (finK Tryz.prog Tryz.f40.results.toList r) (env0 args) []) : Ret Tryz.prog 40 args r :=
 Ret.of mixed (at? h40) [] Tryz.func40 rfl Tryz.call40 (by kernel_rfl) (by rw [hn]; exact of_decide_eq_true (by kernel_rfl)) hk
def h41 : List (List Nat) := [[0], [4]]
theorem r41 {args : List V} {r : V} (hn : args.length = 2) (hk : (∀ a ∈ args, wfV 8 a) → awp 0 Tryz.prog (at? h41) [] (Tryz.f41.body.getD .skip) (finK Tryz.prog Tryz.f41.results.toList r) (env0 args) []) : Ret Tryz.prog 41 args r :=
 Ret.of mixed (at? h41) [] Tryz.func41 rfl Tryz.call41 (by kernel_rfl) (by rw [hn]; exact of_decide_eq_true (by kernel_rfl)) hk
def h42 : List (List Nat) := [[0, 2], [2, 3, 4], [2, 3, 4, 14], [2], [2]]
theorem r42 {args : List V} {r : V} (hn : args.length = 1) (hk : (∀ a ∈ args, wfV 8 a) → awp 0 Tryz.prog (at? h42) [] (Tryz.f42.body.getD .skip) (finK Tryz.prog Tryz.f42.results.toList r) (env0 args) []) : Ret Tryz.prog 42 args r :=
 Ret.of mixed (at? h42) [] Tryz.func42 rfl Tryz.call42 (by kernel_rfl) (by rw [hn]; exact of_decide_eq_true (by kernel_rfl)) hk
def h43 : List (List Nat) := [[1], [12], [12, 14, 15], [], [2, 3], [12, 17, 18], [5], [2, 3], [12, 22, 23], [6], [2, 3], [12, 26, 27], [7], [8, 9], [8, 33], [2, 3], [36, 37], [10], [2, 3], [2, 3]]
theorem r43 {args : List V} {r : V} (hn : args.length = 1) (hk : (∀ a ∈ args, wfV 8 a) → awp 0 Tryz.prog (at? h43) [] (Tryz.f43.body.getD .skip) (finK Tryz.prog Tryz.f43.results.toList r) (env0 args) []) : Ret Tryz.prog 43 args r :=
 Ret.of mixed (at? h43) [] Tryz.func43 rfl Tryz.call43 (by kernel_rfl) (by rw [hn]; exact of_decide_eq_true (by kernel_rfl)) hk
def h44 : List (List Nat) := [[1, 2], [1, 2, 11], [2], [2]]
theorem r44 {args : List V} {r : V} (hn : args.length = 1) (hk : (∀ a ∈ args, wfV 8 a) → awp 0 Tryz.prog (at? h44) [] (Tryz.f44.body.getD .skip) (finK Tryz.prog Tryz.f44.results.toList r) (env0 args) []) : Ret Tryz.prog 44 args r :=
 Ret.of mixed (at? h44) [] Tryz.func44 rfl Tryz.call44 (by kernel_rfl) (by rw [hn]; exact of_decide_eq_true (by kernel_rfl)) hk
def h45 : List (List Nat) := [[0, 2], [2, 3], [2], [2]]
theorem r45 {args : List V} {r : V} (hn : args.length = 1) (hk : (∀ a ∈ args, wfV 8 a) → awp 0 Tryz.prog (at? h45) [] (Tryz.f45.body.getD .skip) (finK Tryz.prog Tryz.f45.results.toList r) (env0 args) []) : Ret Tryz.prog 45 args r :=
 Ret.of mixed (at? h45) [] Tryz.func45 rfl Tryz.call45 (by kernel_rfl) (by rw [hn]; exact of_decide_eq_true (by kernel_rfl)) hk
def h46 : List (List Nat) := [[1], [2]]
theorem r46 {args : List V} {r : V} (hn : args.length = 1) (hk : (∀ a ∈ args, wfV 8 a) → awp 0 Tryz.prog (at? h46) [] (Tryz.f46.body.getD .skip) (finK Tryz.prog Tryz.f46.results.toList r) (env0 args) []) : Ret Tryz.prog 46 args r :=
 Ret.of mixed (at? h46) [] Tryz.func46 rfl Tryz.call46 (by kernel_rfl) (by rw [hn]; exact of_decide_eq_true (by kernel_rfl)) hk
def h47 : List (List Nat) := [[0, 2], [2, 3, 4], [2, 3, 4, 11], [2], [2]]
theorem r47 {args : List V} {r : V} (hn : args.length = 1) (hk : (∀ a ∈ args, wfV 8 a) → awp 0 Tryz.prog (at? h47) [] (Tryz.f47.body.getD .skip) (finK Tryz.prog Tryz.f47.results.toList r) (env0 args) []) : Ret Tryz.prog 47 args r :=
 Ret.of mixed (at? h47) [] Tryz.func47 rfl Tryz.call47 (by kernel_rfl) (by rw [hn]; exact of_decide_eq_true (by kernel_rfl)) hk
def h48 : List (List Nat) := [[0], [0, 4], [4, 11, 12, 13], [4, 11, 12, 13, 14], [4, 6, 11, 12, 13], [4, 7, 8, 11, 12, 13], [4, 7, 8, 11, 12, 13, 24], [2, 3], [4, 9, 10, 11, 12, 13], [4, 9, 11, 12, 13, 32], [2, 3], [4, 11, 12, 13], [4, 11, 12, 13], [2, 3]]
theorem r48 {args : List V} {r : V} (hn : args.length = 1) (hk : (∀ a ∈ args, wfV 8 a) → awp 0 Tryz.prog (at? h48) [] (Tryz.f48.body.getD .skip) (finK Tryz.prog Tryz.f48.results.toList r) (env0 args) []) : Ret Tryz.prog 48 args r :=
 Ret.of mixed (at? h48) [] Tryz.func48 rfl Tryz.call48 (by kernel_rfl) (by rw [hn]; exact of_decide_eq_true (by kernel_rfl)) hk
def h49 : List (List Nat) := [[0, 1, 4], [0, 4, 6], [4], [4]]
theorem r49 {args : List V} {r : V} (hn : args.length = 2) (hk : (∀ a ∈ args, wfV 8 a) → awp 0 Tryz.prog (at? h49) [] (Tryz.f49.body.getD .skip) (finK Tryz.prog Tryz.f49.results.toList r) (env0 args) []) : Ret Tryz.prog 49 args r :=
 Ret.of mixed (at? h49) [] Tryz.func49 rfl Tryz.call49 (by kernel_rfl) (by rw [hn]; exact of_decide_eq_true (by kernel_rfl)) hk
def h51 : List (List Nat) := [[1], [2]]
theorem r51 {args : List V} {r : V} (hn : args.length = 1) (hk : (∀ a ∈ args, wfV 8 a) → awp 0 Tryz.prog (at? h51) [] (Tryz.f51.body.getD .skip) (finK Tryz.prog Tryz.f51.results.toList r) (env0 args) []) : Ret Tryz.prog 51 args r :=
 Ret.of mixed (at? h51) [] Tryz.func51 rfl Tryz.call51 (by kernel_rfl) (by rw [hn]; exact of_decide_eq_true (by kernel_rfl)) hk
def h52 : List (List Nat) := [[0, 2], [0, 2, 3, 4], [0, 2, 3, 4, 14], [2], [2, 3, 4, 5], [2, 3, 4, 5, 25], [2], [2]]
theorem r52 {args : List V} {r : V} (hn : args.length = 1) (hk : (∀ a ∈ args, wfV 8 a) → awp 0 Tryz.prog (at? h52) [] (Tryz.f52.body.getD .skip) (finK Tryz.prog Tryz.f52.results.toList r) (env0 args) []) : Ret Tryz.prog 52 args r :=
 Ret.of mixed (at? h52) [] Tryz.func52 rfl Tryz.call52 (by kernel_rfl) (by rw [hn]; exact of_decide_eq_true (by kernel_rfl)) hk
def h53 : List (List Nat) := [[1], [4, 5], [4, 5, 14], [2, 3], [6], [6, 23], [2, 3], [2, 3]]
theorem r53 {args : List V} {r : V} (hn : args.length = 1) (hk : (∀ a ∈ args, wfV 8 a) → awp 0 Tryz.prog (at? h53) [] (Tryz.f53.body.getD .skip) (finK Tryz.prog Tryz.f53.results.toList r) (env0 args) []) : Ret Tryz.prog 53 args r :=
 Ret.of mixed (at? h53) [] Tryz.func53 rfl Tryz.call53 (by kernel_rfl) (by rw [hn]; exact of_decide_eq_true (by kernel_rfl)) hk
def h54 : List (List Nat) := [[0, 2], [2]]
theorem r54 {args : List V} {r : V} (hn : args.length = 1) (hk : (∀ a ∈ args, wfV 8 a) → awp 0 Tryz.prog (at? h54) [] (Tryz.f54.body.getD .skip) (finK Tryz.prog Tryz.f54.results.toList r) (env0 args) []) : Ret Tryz.prog 54 args r :=
 Ret.of mixed (at? h54) [] Tryz.func54 rfl Tryz.call54 (by kernel_rfl) (by rw [hn]; exact of_decide_eq_true (by kernel_rfl)) hk
def h55 : List (List Nat) := [[0, 2], [2, 3, 4], [2, 3, 4, 16], [2], [2, 5, 6], [2, 5, 25], [2], [2]]
theorem r55 {args : List V} {r : V} (hn : args.length = 1) (hk : (∀ a ∈ args, wfV 8 a) → awp 0 Tryz.prog (at? h55) [] (Tryz.f55.body.getD .skip) (finK Tryz.prog Tryz.f55.results.toList r) (env0 args) []) : Ret Tryz.prog 55 args r :=
 Ret.of mixed (at? h55) [] Tryz.func55 rfl Tryz.call55 (by kernel_rfl) (by rw [hn]; exact of_decide_eq_true (by kernel_rfl)) hk
def h56 : List (List Nat) := [[1], [1, 4, 5], [1, 4, 12], [2, 3], [2, 3]]
theorem r56 {args : List V} {r : V} (hn : args.length = 1) (hk : (∀ a ∈ args, wfV 8 a) → awp 0 Tryz.prog (at? h56) [] (Tryz.f56.body.getD .skip) (finK Tryz.prog Tryz.f56.results.toList r) (env0 args) []) : Ret Tryz.prog 56 args r :=
 Ret.of mixed (at? h56) [] Tryz.func56 rfl Tryz.call56 (by kernel_rfl) (by rw [hn]; exact of_decide_eq_true (by kernel_rfl)) hk
def h58 : List (List Nat) := [[0], [3], [3, 4], [2], [3, 7], [2], [3, 10], [2], [3, 13], [2], [3, 16], [2], [3, 19], [2], [3, 22], [2], [3, 25], [2], [3, 28], [2], [30], [2], [2]]
theorem r58 {args : List V} {r : V} (hn : args.length = 1) (hk : (∀ a ∈ args, wfV 8 a) → awp 0 Tryz.prog (at? h58) [] (Tryz.f58.body.getD .skip) (finK Tryz.prog Tryz.f58.results.toList r) (env0 args) []) : Ret Tryz.prog 58 args r :=
 Ret.of mixed (at? h58) [] Tryz.func58 rfl Tryz.call58 (by kernel_rfl) (by rw [hn]; exact of_decide_eq_true (by kernel_rfl)) hk
def h59 : List (List Nat) := [[0], [3], [3, 4], [2], [3, 7], [2], [3, 10], [2], [3, 13], [2], [3, 16], [2], [19], [2], [2]]
theorem r59 {args : List V} {r : V} (hn : args.length = 1) (hk : (∀ a ∈ args, wfV 8 a) → awp 0 Tryz.prog (at? h59) [] (Tryz.f59.body.getD .skip) (finK Tryz.prog Tryz.f59.results.toList r) (env0 args) []) : Ret Tryz.prog 59 args r :=
 Ret.of mixed (at? h59) [] Tryz.func59 rfl Tryz.call59 (by kernel_rfl) (by rw [hn]; exact of_decide_eq_true (by kernel_rfl)) hk
def h60 : List (List Nat) := [[0, 2], [0, 2, 8], [0, 2], [2]]
theorem r60 {args : List V} {r : V} (hn : args.length = 1) (hk : (∀ a ∈ args, wfV 8 a) → awp 0 Tryz.prog (at? h60) [] (Tryz.f60.body.getD .skip) (finK Tryz.prog Tryz.f60.results.toList r) (env0 args) []) : Ret Tryz.prog 60 args r :=
 Ret.of mixed (at? h60) [] Tryz.func60 rfl Tryz.call60 (by kernel_rfl) (by rw [hn]; exact of_decide_eq_true (by kernel_rfl)) hk
def h62 : List (List Nat) := [[1], [4, 5], [4, 5, 14], [2, 3], [6, 7], [6, 22], [2, 3], [2, 3]]
theorem r62 {args : List V} {r : V} (hn : args.length = 1) (hk : (∀ a ∈ args, wfV 8 a) → awp 0 Tryz.prog (at? h62) [] (Tryz.f62.body.getD .skip) (finK Tryz.prog Tryz.f62.results.toList r) (env0 args) []) : Ret Tryz.prog 62 args r :=
 Ret.of mixed (at? h62) [] Tryz.func62 rfl Tryz.call62 (by kernel_rfl) (by rw [hn]; exact of_decide_eq_true (by kernel_rfl)) hk
def h63 : List (List Nat) := [[0, 1, 4], [0, 4, 6], [4], [4]]
theorem r63 {args : List V} {r : V} (hn : args.length = 2) (hk : (∀ a ∈ args, wfV 8 a) → awp 0 Tryz.prog (at? h63) [] (Tryz.f63.body.getD .skip) (finK Tryz.prog Tryz.f63.results.toList r) (env0 args) []) : Ret Tryz.prog 63 args r :=
 Ret.of mixed (at? h63) [] Tryz.func63 rfl Tryz.call63 (by kernel_rfl) (by rw [hn]; exact of_decide_eq_true (by kernel_rfl)) hk
def h66 : List (List Nat) := [[1], [1, 4], [1, 4, 5], [2], [1, 4, 10], [2], [1, 4, 14], [18], [2], [2], [1, 19], [1, 28], [2], [2]]
theorem r66 {args : List V} {r : V} (hn : args.length = 1) (hk : (∀ a ∈ args, wfV 8 a) → awp 0 Tryz.prog (at? h66) [] (Tryz.f66.body.getD .skip) (finK Tryz.prog Tryz.f66.results.toList r) (env0 args) []) : Ret Tryz.prog 66 args r :=
 Ret.of mixed (at? h66) [] Tryz.func66 rfl Tryz.call66 (by kernel_rfl) (by rw [hn]; exact of_decide_eq_true (by kernel_rfl)) hk
def h69 : List (List Nat) := [[0, 1, 4], [0, 4, 11], [4], [4]]
theorem r69 {args : List V} {r : V} (hn : args.length = 2) (hk : (∀ a ∈ args, wfV 8 a) → awp 0 Tryz.prog (at? h69) [] (Tryz.f69.body.getD .skip) (finK Tryz.prog Tryz.f69.results.toList r) (env0 args) []) : Ret Tryz.prog 69 args r :=
 Ret.of mixed (at? h69) [] Tryz.func69 rfl Tryz.call69 (by kernel_rfl) (by rw [hn]; exact of_decide_eq_true (by kernel_rfl)) hk
def h70 : List (List Nat) := [[1], [2, 3]]
theorem r70 {args : List V} {r : V} (hn : args.length = 1) (hk : (∀ a ∈ args, wfV 8 a) → awp 0 Tryz.prog (at? h70) [] (Tryz.f70.body.getD .skip) (finK Tryz.prog Tryz.f70.results.toList r) (env0 args) []) : Ret Tryz.prog 70 args r :=
 Ret.of mixed (at? h70) [] Tryz.func70 rfl Tryz.call70 (by kernel_rfl) (by rw [hn]; exact of_decide_eq_true (by kernel_rfl)) hk
def h74 : List (List Nat) := [[0, 2], [0, 2, 5], [2], [2]]
theorem r74 {args : List V} {r : V} (hn : args.length = 1) (hk : (∀ a ∈ args, wfV 8 a) → awp 0 Tryz.prog (at? h74) [] (Tryz.f74.body.getD .skip) (finK Tryz.prog Tryz.f74.results.toList r) (env0 args) []) : Ret Tryz.prog 74 args r :=
 Ret.of mixed (at? h74) [] Tryz.func74 rfl Tryz.call74 (by kernel_rfl) (by rw [hn]; exact of_decide_eq_true (by kernel_rfl)) hk
def h76 : List (List Nat) := [[0, 1, 3], [0, 1, 3, 4, 5], [1, 3, 4, 5, 12, 13, 14], [1, 3, 4, 5, 12, 13, 14, 15], [1, 3, 4, 5, 7, 12, 13, 14], [1, 3, 4, 5, 7, 12, 13, 14, 20], [3], [1, 3, 4, 5, 7, 12, 13, 14, 23, 24, 25], [1, 3, 4, 5, 7, 12, 13, 14, 23, 24, 25, 26], [1, 3, 4, 5, 7, 9, 12, 13, 14, 23, 24, 25], [1, 3, 4, 5, 7, 9, 12, 13, 14, 23, 24, 25, 42], [1, 3, 4, 5, 7, 10, 11, 12, 13, 14, 23, 24, 25], [1, 3, 4, 5, 7, 12, 13, 14, 23, 24, 25], [1, 3, 4, 5, 7, 10, 11, 12, 13, 14, 23, 24, 25, 50], [3], [1, 3, 4, 5, 7, 12, 13, 14, 23, 24, 25, 55], [1, 3, 4, 5, 7, 12, 13, 14, 23, 24, 25], [1, 3, 4, 5, 7, 12, 13, 14, 23, 24, 25], [1, 3, 4, 5, 12, 13, 14], [3]]
theorem r76 {args : List V} {r : V} (hn : args.length = 2) (hk : (∀ a ∈ args, wfV 8 a) → awp 0 Tryz.prog (at? h76) [] (Tryz.f76.body.getD .skip) (finK Tryz.prog Tryz.f76.results.toList r) (env0 args) []) : Ret Tryz.prog 76 args r :=
 Ret.of mixed (at? h76) [] Tryz.func76 rfl Tryz.call76 (by kernel_rfl) (by rw [hn]; exact of_decide_eq_true (by kernel_rfl)) hk
def h77 : List (List Nat) := [[1], [1, 33], [2], [35, 36, 37], [35, 36, 37, 38], [4, 35, 36, 37], [35, 36, 37, 43], [2], [35, 36, 37], [2]]
theorem r77 {args : List V} {r : V} (hn : args.length = 1) (hk : (∀ a ∈ args, wfV 8 a) → awp 0 Tryz.prog (at? h77) [] (Tryz.f77.body.getD .skip) (finK Tryz.prog Tryz.f77.results.toList r) (env0 args) []) : Ret Tryz.prog 77 args r :=
 Ret.of mixed (at? h77) [] Tryz.func77 rfl Tryz.call77 (by kernel_rfl) (by rw [hn]; exact of_decide_eq_true (by kernel_rfl)) hk
def h78 : List (List Nat) := [[1], [1, 4], [1, 4, 5], [2], [1, 4, 9], [2], [1, 4, 14], [2], [1, 4, 19], [2], [1, 25], [2], [2]]
theorem r78 {args : List V} {r : V} (hn : args.length = 1) (hk : (∀ a ∈ args, wfV 8 a) → awp 0 Tryz.prog (at? h78) [] (Tryz.f78.body.getD .skip) (finK Tryz.prog Tryz.f78.results.toList r) (env0 args) []) : Ret Tryz.prog 78 args r :=
 Ret.of mixed (at? h78) [] Tryz.func78 rfl Tryz.call78 (by kernel_rfl) (by rw [hn]; exact of_decide_eq_true (by kernel_rfl)) hk
def h80 : List (List Nat) := [[1, 3], [3]]
theorem r80 {args : List V} {r : V} (hn : args.length = 2) (hk : (∀ a ∈ args, wfV 8 a) → awp 0 Tryz.prog (at? h80) [] (Tryz.f80.body.getD .skip) (finK Tryz.prog Tryz.f80.results.toList r) (env0 args) []) : Ret Tryz.prog 80 args r :=
 Ret.of mixed (at? h80) [] Tryz.func80 rfl Tryz.call80 (by kernel_rfl) (by rw [hn]; exact of_decide_eq_true (by kernel_rfl)) hk
def h81 : List (List Nat) := [[1], [12], [12, 14, 15], [], [2, 3], [12, 17, 18], [5], [2, 3], [12, 21, 22], [6], [23], [2, 3], [2, 3], [12, 25, 26], [7], [8, 9], [8, 32], [2, 3], [35, 36], [10], [2, 3], [2, 3]]
theorem r81 {args : List V} {r : V} (hn : args.length = 1) (hk : (∀ a ∈ args, wfV 8 a) → awp 0 Tryz.prog (at? h81) [] (Tryz.f81.body.getD .skip) (finK Tryz.prog Tryz.f81.results.toList r) (env0 args) []) : Ret Tryz.prog 81 args r :=
 Ret.of mixed (at? h81) [] Tryz.func81 rfl Tryz.call81 (by kernel_rfl) (by rw [hn]; exact of_decide_eq_true (by kernel_rfl)) hk
def h82 : List (List Nat) := [[0], [0, 11], [2, 3], [2, 3]]
theorem r82 {args : List V} {r : V} (hn : args.length = 1) (hk : (∀ a ∈ args, wfV 8 a) → awp 0 Tryz.prog (at? h82) [] (Tryz.f82.body.getD .skip) (finK Tryz.prog Tryz.f82.results.toList r) (env0 args) []) : Ret Tryz.prog 82 args r :=
 Ret.of mixed (at? h82) [] Tryz.func82 rfl Tryz.call82 (by kernel_rfl) (by rw [hn]; exact of_decide_eq_true (by kernel_rfl)) hk
def h86 : List (List Nat) := [[0, 1, 3], [0, 1, 3, 4, 5], [0, 1, 3, 4, 5, 15], [3], [1, 3, 4, 5, 6], [1, 3, 4, 5, 6, 27], [3], [3]]
theorem r86 {args : List V} {r : V} (hn : args.length = 2) (hk : (∀ a ∈ args, wfV 8 a) → awp 0 Tryz.prog (at? h86) [] (Tryz.f86.body.getD .skip) (finK Tryz.prog Tryz.f86.results.toList r) (env0 args) []) : Ret Tryz.prog 86 args r :=
 Ret.of mixed (at? h86) [] Tryz.func86 rfl Tryz.call86 (by kernel_rfl) (by rw [hn]; exact of_decide_eq_true (by kernel_rfl)) hk
def h88 : List (List Nat) := [[0, 1, 4], [0, 4, 9], [4], [4]]
theorem r88 {args : List V} {r : V} (hn : args.length = 2) (hk : (∀ a ∈ args, wfV 8 a) → awp 0 Tryz.prog (at? h88) [] (Tryz.f88.body.getD .skip) (finK Tryz.prog Tryz.f88.results.toList r) (env0 args) []) : Ret Tryz.prog 88 args r :=
 Ret.of mixed (at? h88) [] Tryz.func88 rfl Tryz.call88 (by kernel_rfl) (by rw [hn]; exact of_decide_eq_true (by kernel_rfl)) hk
def h89 : List (List Nat) := [[1], [8], [8, 10, 11], [3], [2], [8, 15, 16], [4], [2], [8, 19, 20], [5], [21], [2], [2], [23, 24], [6], [6, 30], [2], [2]]
theorem r89 {args : List V} {r : V} (hn : args.length = 1) (hk : (∀ a ∈ args, wfV 8 a) → awp 0 Tryz.prog (at? h89) [] (Tryz.f89.body.getD .skip) (finK Tryz.prog Tryz.f89.results.toList r) (env0 args) []) : Ret Tryz.prog 89 args r :=
 Ret.of mixed (at? h89) [] Tryz.func89 rfl Tryz.call89 (by kernel_rfl) (by rw [hn]; exact of_decide_eq_true (by kernel_rfl)) hk
def h90 : List (List Nat) := [[1], [2]]
theorem r90 {args : List V} {r : V} (hn : args.length = 1) (hk : (∀ a ∈ args, wfV 8 a) → awp 0 Tryz.prog (at? h90) [] (Tryz.f90.body.getD .skip) (finK Tryz.prog Tryz.f90.results.toList r) (env0 args) []) : Ret Tryz.prog 90 args r :=
 Ret.of mixed (at? h90) [] Tryz.func90 rfl Tryz.call90 (by kernel_rfl) (by rw [hn]; exact of_decide_eq_true (by kernel_rfl)) hk
def h91 : List (List Nat) := [[1], [2]]
theorem r91 {args : List V} {r : V} (hn : args.length = 1) (hk : (∀ a ∈ args, wfV 8 a) → awp 0 Tryz.prog (at? h91) [] (Tryz.f91.body.getD .skip) (finK Tryz.prog Tryz.f91.results.toList r) (env0 args) []) : Ret Tryz.prog 91 args r :=
 Ret.of mixed (at? h91) [] Tryz.func91 rfl Tryz.call91 (by kernel_rfl) (by rw [hn]; exact of_decide_eq_true (by kernel_rfl)) hk
def h92 : List (List Nat) := [[1], [2]]
theorem r92 {args : List V} {r : V} (hn : args.length = 1) (hk : (∀ a ∈ args, wfV 8 a) → awp 0 Tryz.prog (at? h92) [] (Tryz.f92.body.getD .skip) (finK Tryz.prog Tryz.f92.results.toList r) (env0 args) []) : Ret Tryz.prog 92 args r :=
 Ret.of mixed (at? h92) [] Tryz.func92 rfl Tryz.call92 (by kernel_rfl) (by rw [hn]; exact of_decide_eq_true (by kernel_rfl)) hk
def h93 : List (List Nat) := [[1], [2]]
theorem r93 {args : List V} {r : V} (hn : args.length = 1) (hk : (∀ a ∈ args, wfV 8 a) → awp 0 Tryz.prog (at? h93) [] (Tryz.f93.body.getD .skip) (finK Tryz.prog Tryz.f93.results.toList r) (env0 args) []) : Ret Tryz.prog 93 args r :=
 Ret.of mixed (at? h93) [] Tryz.func93 rfl Tryz.call93 (by kernel_rfl) (by rw [hn]; exact of_decide_eq_true (by kernel_rfl)) hk
def h94 : List (List Nat) := [[1], [2]]
theorem r94 {args : List V} {r : V} (hn : args.length = 1) (hk : (∀ a ∈ args, wfV 8 a) → awp 0 Tryz.prog (at? h94) [] (Tryz.f94.body.getD .skip) (finK Tryz.prog Tryz.f94.results.toList r) (env0 args) []) : Ret Tryz.prog 94 args r :=
 Ret.of mixed (at? h94) [] Tryz.func94 rfl Tryz.call94 (by kernel_rfl) (by rw [hn]; exact of_decide_eq_true (by kernel_rfl)) hk
def h95 : List (List Nat) := [[0, 2], [2]]
theorem r95 {args : List V} {r : V} (hn : args.length = 1) (hk : (∀ a ∈ args, wfV 8 a) → awp 0 Tryz.prog (at? h95) [] (Tryz.f95.body.getD .skip) (finK Tryz.prog Tryz.f95.results.toList r) (env0 args) []) : Ret Tryz.prog 95 args r :=
 Ret.of mixed (at? h95) [] Tryz.func95 rfl Tryz.call95 (by kernel_rfl) (by rw [hn]; exact of_decide_eq_true (by kernel_rfl)) hk
def h96 : List (List Nat) := [[0, 2], [2, 3], [2, 3, 10], [2], [2]]
theorem r96 {args : List V} {r : V} (hn : args.length = 1) (hk : (∀ a ∈ args, wfV 8 a) → awp 0 Tryz.prog (at? h96) [] (Tryz.f96.body.getD .skip) (finK Tryz.prog Tryz.f96.results.toList r) (env0 args) []) : Ret Tryz.prog 96 args r :=
 Ret.of mixed (at? h96) [] Tryz.func96 rfl Tryz.call96 (by kernel_rfl) (by rw [hn]; exact of_decide_eq_true (by kernel_rfl)) hk
def h97 : List (List Nat) := [[1], [2]]
theorem r97 {args : List V} {r : V} (hn : args.length = 1) (hk : (∀ a ∈ args, wfV 8 a) → awp 0 Tryz.prog (at? h97) [] (Tryz.f97.body.getD .skip) (finK Tryz.prog Tryz.f97.results.toList r) (env0 args) []) : Ret Tryz.prog 97 args r :=
 Ret.of mixed (at? h97) [] Tryz.func97 rfl Tryz.call97 (by kernel_rfl) (by rw [hn]; exact of_decide_eq_true (by kernel_rfl)) hk
def h98 : List (List Nat) := [[1], [2]]
theorem r98 {args : List V} {r : V} (hn : args.length = 1) (hk : (∀ a ∈ args, wfV 8 a) → awp 0 Tryz.prog (at? h98) [] (Tryz.f98.body.getD .skip) (finK Tryz.prog Tryz.f98.results.toList r) (env0 args) []) : Ret Tryz.prog 98 args r :=
 Ret.of mixed (at? h98) [] Tryz.func98 rfl Tryz.call98 (by kernel_rfl) (by rw [hn]; exact of_decide_eq_true (by kernel_rfl)) hk
def h99 : List (List Nat) := [[0, 2], [2]]
theorem r99 {args : List V} {r : V} (hn : args.length = 1) (hk : (∀ a ∈ args, wfV 8 a) → awp 0 Tryz.prog (at? h99) [] (Tryz.f99.body.getD .skip) (finK Tryz.prog Tryz.f99.results.toList r) (env0 args) []) : Ret Tryz.prog 99 args r :=
 Ret.of mixed (at? h99) [] Tryz.func99 rfl Tryz.call99 (by kernel_rfl) (by rw [hn]; exact of_decide_eq_true (by kernel_rfl)) hk
def h101 : List (List Nat) := [[0, 2], [2]]
theorem r101 {args : List V} {r : V} (hn : args.length = 1) (hk : (∀ a ∈ args, wfV 8 a) → awp 0 Tryz.prog (at? h101) [] (Tryz.f101.body.getD .skip) (finK Tryz.prog Tryz.f101.results.toList r) (env0 args) []) : Ret Tryz.prog 101 args r :=
 Ret.of mixed (at? h101) [] Tryz.func101 rfl Tryz.call101 (by kernel_rfl) (by rw [hn]; exact of_decide_eq_true (by kernel_rfl)) hk
def h103 : List (List Nat) := [[0, 2], [2]]
theorem r103 {args : List V} {r : V} (hn : args.length = 1) (hk : (∀ a ∈ args, wfV 8 a) → awp 0 Tryz.prog (at? h103) [] (Tryz.f103.body.getD .skip) (finK Tryz.prog Tryz.f103.results.toList r) (env0 args) []) : Ret Tryz.prog 103 args r :=
 Ret.of mixed (at? h103) [] Tryz.func103 rfl Tryz.call103 (by kernel_rfl) (by rw [hn]; exact of_decide_eq_true (by kernel_rfl)) hk
def h104 : List (List Nat) := [[0, 2], [0, 2, 5], [2], [2]]
theorem r104 {args : List V} {r : V} (hn : args.length = 1) (hk : (∀ a ∈ args, wfV 8 a) → awp 0 Tryz.prog (at? h104) [] (Tryz.f104.body.getD .skip) (finK Tryz.prog Tryz.f104.results.toList r) (env0 args) []) : Ret Tryz.prog 104 args r :=
 Ret.of mixed (at? h104) [] Tryz.func104 rfl Tryz.call104 (by kernel_rfl) (by rw [hn]; exact of_decide_eq_true (by kernel_rfl)) hk
def h107 : List (List Nat) := [[0], [0, 11], [2, 3], [2, 3]]
theorem r107 {args : List V} {r : V} (hn : args.length = 1) (hk : (∀ a ∈ args, wfV 8 a) → awp 0 Tryz.prog (at? h107) [] (Tryz.f107.body.getD .skip) (finK Tryz.prog Tryz.f107.results.toList r) (env0 args) []) : Ret Tryz.prog 107 args r :=
 Ret.of mixed (at? h107) [] Tryz.func107 rfl Tryz.call107 (by kernel_rfl) (by rw [hn]; exact of_decide_eq_true (by kernel_rfl)) hk
def h112 : List (List Nat) := [[1], [1, 7], [1, 7, 8], [2, 3], [1, 7, 10], [2, 3], [1, 7, 14], [18], [2, 3], [2, 3], [1, 7, 19], [4, 5], [4, 27], [2, 3], [1, 29], [2, 3], [2, 3]]
theorem r112 {args : List V} {r : V} (hn : args.length = 1) (hk : (∀ a ∈ args, wfV 8 a) → awp 0 Tryz.prog (at? h112) [] (Tryz.f112.body.getD .skip) (finK Tryz.prog Tryz.f112.results.toList r) (env0 args) []) : Ret Tryz.prog 112 args r :=
 Ret.of mixed (at? h112) [] Tryz.func112 rfl Tryz.call112 (by kernel_rfl) (by rw [hn]; exact of_decide_eq_true (by kernel_rfl)) hk
def h115 : List (List Nat) := [[1], [1, 15], [2], [1, 17], [1, 17, 19, 20], [1], [2], [1, 17, 25, 26], [4], [2], [1, 17, 30, 31], [1, 5], [2], [1, 17, 41, 42], [1], [2], [52, 53], [7], [2], [2]]
theorem r115 {args : List V} {r : V} (hn : args.length = 1) (hk : (∀ a ∈ args, wfV 8 a) → awp 0 Tryz.prog (at? h115) [] (Tryz.f115.body.getD .skip) (finK Tryz.prog Tryz.f115.results.toList r) (env0 args) []) : Ret Tryz.prog 115 args r :=
 Ret.of mixed (at? h115) [] Tryz.func115 rfl Tryz.call115 (by kernel_rfl) (by rw [hn]; exact of_decide_eq_true (by kernel_rfl)) hk
def h118 : List (List Nat) := [[0], [2]]
theorem r118 {args : List V} {r : V} (hn : args.length = 1) (hk : (∀ a ∈ args, wfV 8 a) → awp 0 Tryz.prog (at? h118) [] (Tryz.f118.body.getD .skip) (finK Tryz.prog Tryz.f118.results.toList r) (env0 args) []) : Ret Tryz.prog 118 args r :=
 Ret.of mixed (at? h118) [] Tryz.func118 rfl Tryz.call118 (by kernel_rfl) (by rw [hn]; exact of_decide_eq_true (by kernel_rfl)) hk
def h124 : List (List Nat) := [[1, 2], [3]]
theorem r124 {args : List V} {r : V} (hn : args.length = 2) (hk : (∀ a ∈ args, wfV 8 a) → awp 0 Tryz.prog (at? h124) [] (Tryz.f124.body.getD .skip) (finK Tryz.prog Tryz.f124.results.toList r) (env0 args) []) : Ret Tryz.prog 124 args r :=
 Ret.of mixed (at? h124) [] Tryz.func124 rfl Tryz.call124 (by kernel_rfl) (by rw [hn]; exact of_decide_eq_true (by kernel_rfl)) hk
def h125 : List (List Nat) := [[0, 1, 3], [3]]
theorem r125 {args : List V} {r : V} (hn : args.length = 2) (hk : (∀ a ∈ args, wfV 8 a) → awp 0 Tryz.prog (at? h125) [] (Tryz.f125.body.getD .skip) (finK Tryz.prog Tryz.f125.results.toList r) (env0 args) []) : Ret Tryz.prog 125 args r :=
 Ret.of mixed (at? h125) [] Tryz.func125 rfl Tryz.call125 (by kernel_rfl) (by rw [hn]; exact of_decide_eq_true (by kernel_rfl)) hk
def h126 : List (List Nat) := [[0, 1, 3], [1, 3, 4, 5, 6], [3]]
theorem r126 {args : List V} {r : V} (hn : args.length = 2) (hk : (∀ a ∈ args, wfV 8 a) → awp 0 Tryz.prog (at? h126) [] (Tryz.f126.body.getD .skip) (finK Tryz.prog Tryz.f126.results.toList r) (env0 args) []) : Ret Tryz.prog 126 args r :=
 Ret.of mixed (at? h126) [] Tryz.func126 rfl Tryz.call126 (by kernel_rfl) (by rw [hn]; exact of_decide_eq_true (by kernel_rfl)) hk
def h127 : List (List Nat) := [[0, 1, 3], [1, 3, 4, 5], [1, 3, 4, 5, 14], [3], [3]]
theorem r127 {args : List V} {r : V} (hn : args.length = 2) (hk : (∀ a ∈ args, wfV 8 a) → awp 0 Tryz.prog (at? h127) [] (Tryz.f127.body.getD .skip) (finK Tryz.prog Tryz.f127.results.toList r) (env0 args) []) : Ret Tryz.prog 127 args r :=
 Ret.of mixed (at? h127) [] Tryz.func127 rfl Tryz.call127 (by kernel_rfl) (by rw [hn]; exact of_decide_eq_true (by kernel_rfl)) hk
abbrev F_octavolaw19_LogicCalls : FuncId := 7
abbrev r_octavolaw19_LogicCalls := @r7
abbrev F_octavolaw19_light : FuncId := 8
abbrev r_octavolaw19_light := @r8
abbrev F_octavolaw19_lives : FuncId := 9
abbrev r_octavolaw19_lives := @r9
abbrev F_logic_Call : FuncId := 10
abbrev r_logic_Call := @r10
abbrev F_octavoref06_Good : FuncId := 11
abbrev r_octavoref06_Good := @r11
abbrev F_octavolaw19_one : FuncId := 12
abbrev r_octavolaw19_one := @r12
abbrev F_octavolaw19_ask : FuncId := 13
abbrev r_octavolaw19_ask := @r13
abbrev F_octavolaw19_number : FuncId := 14
abbrev r_octavolaw19_number := @r14
abbrev F_octavoref19_Call : FuncId := 15
abbrev r_octavoref19_Call := @r15
abbrev F_logic_Known : FuncId := 16
abbrev r_logic_Known := @r16
abbrev F_octavoref19_Known : FuncId := 17
abbrev r_octavoref19_Known := @r17
abbrev F_octavolaw19_text : FuncId := 18
abbrev r_octavolaw19_text := @r18
abbrev F_logic_find : FuncId := 19
abbrev r_logic_find := @r19
abbrev F_value_Bad : FuncId := 20
abbrev r_value_Bad := @r20
abbrev F_octavoref05_Good : FuncId := 21
abbrev r_octavoref05_Good := @r21
abbrev F_octavoref19_count : FuncId := 22
abbrev r_octavoref19_count := @r22
abbrev F_octavoref19_bad : FuncId := 23
abbrev r_octavoref19_bad := @r23
abbrev F_octavoref19_truths : FuncId := 24
abbrev r_octavoref19_truths := @r24
abbrev F_octavoref17_Truth : FuncId := 25
abbrev r_octavoref17_Truth := @r25
abbrev F_octavoref06_ToBool : FuncId := 26
abbrev r_octavoref06_ToBool := @r26
abbrev F_octavoref17_One : FuncId := 27
abbrev r_octavoref17_One := @r27
abbrev F_octavoref19_dates : FuncId := 28
abbrev r_octavoref19_dates := @r28
abbrev F_octavoref19_two : FuncId := 29
abbrev r_octavoref19_two := @r29
abbrev F_octavoref06_ToText : FuncId := 30
abbrev r_octavoref06_ToText := @r30
abbrev F_octavoref07_Parse : FuncId := 31
abbrev F_octavoref17_Int : FuncId := 32
abbrev r_octavoref17_Int := @r32
abbrev F_octavoref17_Among : FuncId := 33
abbrev r_octavoref17_Among := @r33
abbrev F_octavoref19_day : FuncId := 34
abbrev r_octavoref19_day := @r34
abbrev F_octavoref19_ofDay : FuncId := 35
abbrev r_octavoref19_ofDay := @r35
abbrev F_octavoref17_Good : FuncId := 36
abbrev r_octavoref17_Good := @r36
abbrev F_octavoref19_kind : FuncId := 37
abbrev r_octavoref19_kind := @r37
abbrev F_logic_votes : FuncId := 38
abbrev r_logic_votes := @r38
abbrev F_logic_find_1 : FuncId := 39
abbrev r_logic_find_1 := @r39
abbrev F_logic_find_2 : FuncId := 40
abbrev r_logic_find_2 := @r40
abbrev F_logic_find_3 : FuncId := 41
abbrev r_logic_find_3 := @r41
abbrev F_logic_find_4 : FuncId := 42
abbrev r_logic_find_4 := @r42
abbrev F_value_ToBool : FuncId := 43
abbrev r_value_ToBool := @r43
abbrev F_maths_One : FuncId := 44
abbrev r_maths_One := @r44
abbrev F_logic_truth : FuncId := 45
abbrev r_logic_truth := @r45
abbrev F_logic_constant : FuncId := 46
abbrev r_logic_constant := @r46
abbrev F_logic_find_5 : FuncId := 47
abbrev r_logic_find_5 := @r47
abbrev F_logic_ints : FuncId := 48
abbrev r_logic_ints := @r48
abbrev F_logic_told : FuncId := 49
abbrev r_logic_told := @r49
abbrev F_date_Of : FuncId := 50
abbrev F_logic_months : FuncId := 51
abbrev r_logic_months := @r51
abbrev F_logic_find_6 : FuncId := 52
abbrev r_logic_find_6 := @r52
abbrev F_logic_day : FuncId := 53
abbrev r_logic_day := @r53
abbrev F_logic_whole : FuncId := 54
abbrev r_logic_whole := @r54
abbrev F_logic_find_7 : FuncId := 55
abbrev r_logic_find_7 := @r55
abbrev F_value_ToText : FuncId := 56
abbrev r_value_ToText := @r56
abbrev F_date_Parse : FuncId := 57
abbrev F_logic_kinds : FuncId := 58
abbrev r_logic_kinds := @r58
abbrev F_logic_days : FuncId := 59
abbrev r_logic_days := @r59
abbrev F_octavoref06_Bad : FuncId := 60
abbrev r_octavoref06_Bad := @r60
abbrev F_octavoref06_Truth : FuncId := 61
abbrev F_octavoref17_Whole : FuncId := 62
abbrev r_octavoref17_Whole := @r62
abbrev F_octavoref19_told : FuncId := 63
abbrev r_octavoref19_told := @r63
abbrev F_octavoref07_Of : FuncId := 64
abbrev F_octavoref07_Months : FuncId := 65
abbrev F_octavoref06_Text : FuncId := 66
abbrev r_octavoref06_Text := @r66
abbrev F_octavoref06_Of : FuncId := 69
abbrev r_octavoref06_Of := @r69
abbrev F_octavoref17_Num : FuncId := 70
abbrev r_octavoref17_Num := @r70
abbrev F_octavoref07_Parts : FuncId := 71
abbrev F_octavoref07_Weekday : FuncId := 72
abbrev F_octavoref07_Week : FuncId := 73
abbrev F_octavoref06_Str : FuncId := 74
abbrev r_octavoref06_Str := @r74
abbrev F_octavoref07_Print : FuncId := 75
abbrev F_logic_votes_1 : FuncId := 76
abbrev r_logic_votes_1 := @r76
abbrev F_maths_Good : FuncId := 77
abbrev r_maths_Good := @r77
abbrev F_value_own : FuncId := 78
abbrev r_value_own := @r78
abbrev F_value_word : FuncId := 79
abbrev F_logic_constant_1 : FuncId := 80
abbrev r_logic_constant_1 := @r80
abbrev F_value_ToNum : FuncId := 81
abbrev r_value_ToNum := @r81
abbrev F_num_Whole : FuncId := 82
abbrev r_num_Whole := @r82
abbrev F_logic_months_1 : FuncId := 86
abbrev r_logic_months_1 := @r86
abbrev F_date_Months : FuncId := 87
abbrev F_value_Of : FuncId := 88
abbrev r_value_Of := @r88
abbrev F_value_Text : FuncId := 89
abbrev r_value_Text := @r89
abbrev F_logic_kind : FuncId := 90
abbrev r_logic_kind := @r90
abbrev F_logic_is : FuncId := 91
abbrev r_logic_is := @r91
abbrev F_logic_kinds_1 : FuncId := 92
abbrev r_logic_kinds_1 := @r92
abbrev F_logic_kinds_2 : FuncId := 93
abbrev r_logic_kinds_2 := @r93
abbrev F_logic_kinds_3 : FuncId := 94
abbrev r_logic_kinds_3 := @r94
abbrev F_logic_kinds_4 : FuncId := 95
abbrev r_logic_kinds_4 := @r95
abbrev F_logic_kinds_5 : FuncId := 96
abbrev r_logic_kinds_5 := @r96
abbrev F_logic_part : FuncId := 97
abbrev r_logic_part := @r97
abbrev F_logic_of : FuncId := 98
abbrev r_logic_of := @r98
abbrev F_logic_days_1 : FuncId := 99
abbrev r_logic_days_1 := @r99
abbrev F_date_Weekday : FuncId := 100
abbrev F_logic_days_2 : FuncId := 101
abbrev r_logic_days_2 := @r101
abbrev F_date_Week : FuncId := 102
abbrev F_logic_days_3 : FuncId := 103
abbrev r_logic_days_3 := @r103
abbrev F_value_Str : FuncId := 104
abbrev r_value_Str := @r104
abbrev F_date_Print : FuncId := 105
abbrev F_octavoref05_Whole : FuncId := 107
abbrev r_octavoref05_Whole := @r107
abbrev F_octavoref05_Print : FuncId := 110
abbrev F_octavoref06_ToNum : FuncId := 112
abbrev r_octavoref06_ToNum := @r112
abbrev F_value_Good : FuncId := 115
abbrev r_value_Good := @r115
abbrev F_num_Parse : FuncId := 117
abbrev F_num_Good : FuncId := 118
abbrev r_num_Good := @r118
abbrev F_date_Parts : FuncId := 121
abbrev F_num_Print : FuncId := 122
abbrev F_logic_kind_1 : FuncId := 124
abbrev r_logic_kind_1 := @r124
abbrev F_logic_is_1 : FuncId := 125
abbrev r_logic_is_1 := @r125
abbrev F_logic_part_1 : FuncId := 126
abbrev r_logic_part_1 := @r126
abbrev F_logic_of_1 : FuncId := 127
abbrev r_logic_of_1 := @r127
abbrev F_octavoref05_Parse : FuncId := 130
end Go.Proofs.YtllceoncpgebpaaGreatDoor.R
