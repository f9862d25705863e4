/- Each function of the program: what is kept behind each of its pieces, and its own form of the rule. -/
import Derived.Test.YtllceoncpgebpaaGreatDoorCore1
import Derived.Test.YtllceoncpgebpaaGreatDoorProg
namespace Go.Proofs.YtllceoncpgebpaaGreatDoor.R
open Go.Proofs.YtllceoncpgebpaaGreatDoor.Ab
set_option maxRecDepth 20000
theorem mixed : Tryz.prog.follows .mixedOrders = true := by kernel_rfl

/-! ### octavo/octavolaw19.LogicFaults: function 3 -/
/-- no loop -/
def h3 : List (List Nat) := [[0, 1], [0, 1, 9], [4], [5, 6], [5, 18], [4], [27], [4], [4]]
theorem r3 {args : List V} {r : V} (hn : args.length = 2) (hk : (∀ a ∈ args, wfV 8 a) → awp Tryz.prog (at? h3) [] (Tryz.f3.body.getD .skip) (finK Tryz.prog Tryz.f3.results.toList r) (env0 args) []) : Ret Tryz.prog 3 args r :=
  Ret.of mixed (at? h3) [] Tryz.func3 rfl Tryz.call3 (by kernel_rfl) (by rw [hn]; exact of_decide_eq_true (by kernel_rfl)) hk

/-! ### octavo/octavolaw19.light: function 8 -/
/-- loop [3, 10, 11, 12] loop [3, 10, 11, 12, 22, 23, 24] -/
def h8 : List (List Nat) := [[0], [0, 3], [3, 10, 11, 12], [3, 10, 11, 12, 13], [3, 5, 10, 11, 12], [3, 5, 10, 11, 12], [3, 10, 11, 12, 22, 23, 24], [3, 10, 11, 12, 22, 23, 24, 25], [3, 7, 10, 11, 12, 22, 23, 24], [3, 10, 11, 12, 22, 23, 24], [3, 10, 11, 12, 22, 23, 24], [3, 10, 11, 12], [2]]
theorem r8 {args : List V} {r : V} (hn : args.length = 1) (hk : (∀ a ∈ args, wfV 8 a) → awp Tryz.prog (at? h8) [] (Tryz.f8.body.getD .skip) (finK Tryz.prog Tryz.f8.results.toList r) (env0 args) []) : Ret Tryz.prog 8 args r :=
  Ret.of mixed (at? h8) [] Tryz.func8 rfl Tryz.call8 (by kernel_rfl) (by rw [hn]; exact of_decide_eq_true (by kernel_rfl)) hk

/-! ### octavo/octavolaw19.lives: function 9 -/
/-- no loop -/
def h9 : List (List Nat) := [[], [0]]
theorem r9 {args : List V} {r : V} (hn : args.length = 0) (hk : (∀ a ∈ args, wfV 8 a) → awp Tryz.prog (at? h9) [] (Tryz.f9.body.getD .skip) (finK Tryz.prog Tryz.f9.results.toList r) (env0 args) []) : Ret Tryz.prog 9 args r :=
  Ret.of mixed (at? h9) [] Tryz.func9 rfl Tryz.call9 (by kernel_rfl) (by rw [hn]; exact of_decide_eq_true (by kernel_rfl)) hk

/-! ### octavo/logic.Call: function 10 -/
/-- no loop -/
def h10 : List (List Nat) := [[0, 1, 4], [1, 4, 6, 7], [1, 4, 6, 7, 13], [4, 5], [1, 4, 6, 7, 17], [1, 4, 6, 17], [4, 5], [4, 5]]
theorem r10 {args : List V} {r : V} (hn : args.length = 2) (hk : (∀ a ∈ args, wfV 8 a) → awp Tryz.prog (at? h10) [] (Tryz.f10.body.getD .skip) (finK Tryz.prog Tryz.f10.results.toList r) (env0 args) []) : Ret Tryz.prog 10 args r :=
  Ret.of mixed (at? h10) [] Tryz.func10 rfl Tryz.call10 (by kernel_rfl) (by rw [hn]; exact of_decide_eq_true (by kernel_rfl)) hk

/-! ### octavo/octavoref06.Good: function 11 -/
/-- no loop -/
def h11 : List (List Nat) := [[1], [1, 4], [1, 4, 5], [2], [1, 4, 10], [2], [1, 4, 20], [2], [1, 4, 31], [2], [1, 46], [2], [2]]
theorem r11 {args : List V} {r : V} (hn : args.length = 1) (hk : (∀ a ∈ args, wfV 8 a) → awp Tryz.prog (at? h11) [] (Tryz.f11.body.getD .skip) (finK Tryz.prog Tryz.f11.results.toList r) (env0 args) []) : Ret Tryz.prog 11 args r :=
  Ret.of mixed (at? h11) [] Tryz.func11 rfl Tryz.call11 (by kernel_rfl) (by rw [hn]; exact of_decide_eq_true (by kernel_rfl)) hk

/-! ### octavo/octavolaw19.one: function 12 -/
/-- no loop -/
def h12 : List (List Nat) := [[1, 2], [2]]
theorem r12 {args : List V} {r : V} (hn : args.length = 1) (hk : (∀ a ∈ args, wfV 8 a) → awp Tryz.prog (at? h12) [] (Tryz.f12.body.getD .skip) (finK Tryz.prog Tryz.f12.results.toList r) (env0 args) []) : Ret Tryz.prog 12 args r :=
  Ret.of mixed (at? h12) [] Tryz.func12 rfl Tryz.call12 (by kernel_rfl) (by rw [hn]; exact of_decide_eq_true (by kernel_rfl)) hk

/-! ### octavo/octavolaw19.ask: function 13 -/
/-- no loop -/
def h13 : List (List Nat) := [[0, 1, 4], [4, 5], [4]]
theorem r13 {args : List V} {r : V} (hn : args.length = 2) (hk : (∀ a ∈ args, wfV 8 a) → awp Tryz.prog (at? h13) [] (Tryz.f13.body.getD .skip) (finK Tryz.prog Tryz.f13.results.toList r) (env0 args) []) : Ret Tryz.prog 13 args r :=
  Ret.of mixed (at? h13) [] Tryz.func13 rfl Tryz.call13 (by kernel_rfl) (by rw [hn]; exact of_decide_eq_true (by kernel_rfl)) hk

/-! ### octavo/octavolaw19.number: function 14 -/
/-- no loop -/
def h14 : List (List Nat) := [[0, 2], [2]]
theorem r14 {args : List V} {r : V} (hn : args.length = 1) (hk : (∀ a ∈ args, wfV 8 a) → awp Tryz.prog (at? h14) [] (Tryz.f14.body.getD .skip) (finK Tryz.prog Tryz.f14.results.toList r) (env0 args) []) : Ret Tryz.prog 14 args r :=
  Ret.of mixed (at? h14) [] Tryz.func14 rfl Tryz.call14 (by kernel_rfl) (by rw [hn]; exact of_decide_eq_true (by kernel_rfl)) hk

/-! ### octavo/octavolaw19.text: function 18 -/
/-- no loop -/
def h18 : List (List Nat) := [[0, 2], [2]]
theorem r18 {args : List V} {r : V} (hn : args.length = 1) (hk : (∀ a ∈ args, wfV 8 a) → awp Tryz.prog (at? h18) [] (Tryz.f18.body.getD .skip) (finK Tryz.prog Tryz.f18.results.toList r) (env0 args) []) : Ret Tryz.prog 18 args r :=
  Ret.of mixed (at? h18) [] Tryz.func18 rfl Tryz.call18 (by kernel_rfl) (by rw [hn]; exact of_decide_eq_true (by kernel_rfl)) hk

/-! ### octavo/logic.find: function 19 -/
/-- no loop -/
def h19 : List (List Nat) := [[0], [0, 5], [0, 5, 6], [2, 3], [0, 5, 9], [2, 3], [0, 5, 12], [2, 3], [0, 5, 15], [2, 3], [0, 5, 17], [2, 3], [0, 5, 21], [2, 3], [0, 5, 25], [2, 3], [0, 5, 29], [2, 3], [0, 5, 31], [2, 3], [0, 5, 34], [2, 3], [0, 5, 37], [2, 3], [0, 39], [2, 3], [0, 4], [0, 4, 44], [2, 3], [2, 3]]
theorem r19 {args : List V} {r : V} (hn : args.length = 1) (hk : (∀ a ∈ args, wfV 8 a) → awp Tryz.prog (at? h19) [] (Tryz.f19.body.getD .skip) (finK Tryz.prog Tryz.f19.results.toList r) (env0 args) []) : Ret Tryz.prog 19 args r :=
  Ret.of mixed (at? h19) [] Tryz.func19 rfl Tryz.call19 (by kernel_rfl) (by rw [hn]; exact of_decide_eq_true (by kernel_rfl)) hk

/-! ### octavo/value.Bad: function 20 -/
/-- no loop -/
def h20 : List (List Nat) := [[0, 2], [0, 2, 8], [0, 2], [2]]
theorem r20 {args : List V} {r : V} (hn : args.length = 1) (hk : (∀ a ∈ args, wfV 8 a) → awp Tryz.prog (at? h20) [] (Tryz.f20.body.getD .skip) (finK Tryz.prog Tryz.f20.results.toList r) (env0 args) []) : Ret Tryz.prog 20 args r :=
  Ret.of mixed (at? h20) [] Tryz.func20 rfl Tryz.call20 (by kernel_rfl) (by rw [hn]; exact of_decide_eq_true (by kernel_rfl)) hk

/-! ### octavo/octavoref05.Good: function 21 -/
/-- no loop -/
def h21 : List (List Nat) := [[0], [2]]
theorem r21 {args : List V} {r : V} (hn : args.length = 1) (hk : (∀ a ∈ args, wfV 8 a) → awp Tryz.prog (at? h21) [] (Tryz.f21.body.getD .skip) (finK Tryz.prog Tryz.f21.results.toList r) (env0 args) []) : Ret Tryz.prog 21 args r :=
  Ret.of mixed (at? h21) [] Tryz.func21 rfl Tryz.call21 (by kernel_rfl) (by rw [hn]; exact of_decide_eq_true (by kernel_rfl)) hk

/-! ### octavo/logic.votes: function 38 -/
/-- no loop -/
def h38 : List (List Nat) := [[1], [2]]
theorem r38 {args : List V} {r : V} (hn : args.length = 1) (hk : (∀ a ∈ args, wfV 8 a) → awp Tryz.prog (at? h38) [] (Tryz.f38.body.getD .skip) (finK Tryz.prog Tryz.f38.results.toList r) (env0 args) []) : Ret Tryz.prog 38 args r :=
  Ret.of mixed (at? h38) [] Tryz.func38 rfl Tryz.call38 (by kernel_rfl) (by rw [hn]; exact of_decide_eq_true (by kernel_rfl)) hk

/-! ### octavo/logic.find$1: function 39 -/
/-- no loop -/
def h39 : List (List Nat) := [[1], [4]]
theorem r39 {args : List V} {r : V} (hn : args.length = 2) (hk : (∀ a ∈ args, wfV 8 a) → awp Tryz.prog (at? h39) [] (Tryz.f39.body.getD .skip) (finK Tryz.prog Tryz.f39.results.toList r) (env0 args) []) : Ret Tryz.prog 39 args r :=
  Ret.of mixed (at? h39) [] Tryz.func39 rfl Tryz.call39 (by kernel_rfl) (by rw [hn]; exact of_decide_eq_true (by kernel_rfl)) hk

/-! ### octavo/logic.find$2: function 40 -/
/-- no loop -/
def h40 : List (List Nat) := [[0], [4]]
theorem r40 {args : List V} {r : V} (hn : args.length = 2) (hk : (∀ a ∈ args, wfV 8 a) → awp Tryz.prog (at? h40) [] (Tryz.f40.body.getD .skip) (finK Tryz.prog Tryz.f40.results.toList r) (env0 args) []) : Ret Tryz.prog 40 args r :=
  Ret.of mixed (at? h40) [] Tryz.func40 rfl Tryz.call40 (by kernel_rfl) (by rw [hn]; exact of_decide_eq_true (by kernel_rfl)) hk

/-! ### octavo/logic.find$3: function 41 -/
/-- no loop -/
def h41 : List (List Nat) := [[0], [4]]
theorem r41 {args : List V} {r : V} (hn : args.length = 2) (hk : (∀ a ∈ args, wfV 8 a) → awp Tryz.prog (at? h41) [] (Tryz.f41.body.getD .skip) (finK Tryz.prog Tryz.f41.results.toList r) (env0 args) []) : Ret Tryz.prog 41 args r :=
  Ret.of mixed (at? h41) [] Tryz.func41 rfl Tryz.call41 (by kernel_rfl) (by rw [hn]; exact of_decide_eq_true (by kernel_rfl)) hk

/-! ### octavo/logic.find$4: function 42 -/
/-- no loop -/
def h42 : List (List Nat) := [[0, 2], [2, 3, 4], [2, 3, 4, 14], [2], [2]]
theorem r42 {args : List V} {r : V} (hn : args.length = 1) (hk : (∀ a ∈ args, wfV 8 a) → awp Tryz.prog (at? h42) [] (Tryz.f42.body.getD .skip) (finK Tryz.prog Tryz.f42.results.toList r) (env0 args) []) : Ret Tryz.prog 42 args r :=
  Ret.of mixed (at? h42) [] Tryz.func42 rfl Tryz.call42 (by kernel_rfl) (by rw [hn]; exact of_decide_eq_true (by kernel_rfl)) hk

/-! ### octavo/value.ToBool: function 43 -/
/-- no loop -/
def h43 : List (List Nat) := [[1], [12], [12, 14, 15], [], [2, 3], [12, 17, 18], [5], [2, 3], [12, 22, 23], [6], [2, 3], [12, 26, 27], [7], [8, 9], [8, 33], [2, 3], [36, 37], [10], [2, 3], [2, 3]]
theorem r43 {args : List V} {r : V} (hn : args.length = 1) (hk : (∀ a ∈ args, wfV 8 a) → awp Tryz.prog (at? h43) [] (Tryz.f43.body.getD .skip) (finK Tryz.prog Tryz.f43.results.toList r) (env0 args) []) : Ret Tryz.prog 43 args r :=
  Ret.of mixed (at? h43) [] Tryz.func43 rfl Tryz.call43 (by kernel_rfl) (by rw [hn]; exact of_decide_eq_true (by kernel_rfl)) hk

/-! ### octavo/maths.One: function 44 -/
/-- no loop -/
def h44 : List (List Nat) := [[1, 2], [1, 2, 11], [2], [2]]
theorem r44 {args : List V} {r : V} (hn : args.length = 1) (hk : (∀ a ∈ args, wfV 8 a) → awp Tryz.prog (at? h44) [] (Tryz.f44.body.getD .skip) (finK Tryz.prog Tryz.f44.results.toList r) (env0 args) []) : Ret Tryz.prog 44 args r :=
  Ret.of mixed (at? h44) [] Tryz.func44 rfl Tryz.call44 (by kernel_rfl) (by rw [hn]; exact of_decide_eq_true (by kernel_rfl)) hk

/-! ### octavo/logic.truth: function 45 -/
/-- no loop -/
def h45 : List (List Nat) := [[0, 2], [2, 3], [2], [2]]
theorem r45 {args : List V} {r : V} (hn : args.length = 1) (hk : (∀ a ∈ args, wfV 8 a) → awp Tryz.prog (at? h45) [] (Tryz.f45.body.getD .skip) (finK Tryz.prog Tryz.f45.results.toList r) (env0 args) []) : Ret Tryz.prog 45 args r :=
  Ret.of mixed (at? h45) [] Tryz.func45 rfl Tryz.call45 (by kernel_rfl) (by rw [hn]; exact of_decide_eq_true (by kernel_rfl)) hk

/-! ### octavo/logic.constant: function 46 -/
/-- no loop -/
def h46 : List (List Nat) := [[1], [2]]
theorem r46 {args : List V} {r : V} (hn : args.length = 1) (hk : (∀ a ∈ args, wfV 8 a) → awp Tryz.prog (at? h46) [] (Tryz.f46.body.getD .skip) (finK Tryz.prog Tryz.f46.results.toList r) (env0 args) []) : Ret Tryz.prog 46 args r :=
  Ret.of mixed (at? h46) [] Tryz.func46 rfl Tryz.call46 (by kernel_rfl) (by rw [hn]; exact of_decide_eq_true (by kernel_rfl)) hk

/-! ### octavo/logic.find$5: function 47 -/
/-- no loop -/
def h47 : List (List Nat) := [[0, 2], [2, 3, 4], [2, 3, 4, 11], [2], [2]]
theorem r47 {args : List V} {r : V} (hn : args.length = 1) (hk : (∀ a ∈ args, wfV 8 a) → awp Tryz.prog (at? h47) [] (Tryz.f47.body.getD .skip) (finK Tryz.prog Tryz.f47.results.toList r) (env0 args) []) : Ret Tryz.prog 47 args r :=
  Ret.of mixed (at? h47) [] Tryz.func47 rfl Tryz.call47 (by kernel_rfl) (by rw [hn]; exact of_decide_eq_true (by kernel_rfl)) hk

/-! ### octavo/logic.ints: function 48 -/
/-- loop [4, 11, 12, 13] -/
def h48 : List (List Nat) := [[0], [0, 4], [4, 11, 12, 13], [4, 11, 12, 13, 14], [4, 6, 11, 12, 13], [4, 7, 8, 11, 12, 13], [4, 7, 8, 11, 12, 13, 24], [2, 3], [4, 9, 10, 11, 12, 13], [4, 9, 11, 12, 13, 32], [2, 3], [4, 11, 12, 13], [4, 11, 12, 13], [2, 3]]
theorem r48 {args : List V} {r : V} (hn : args.length = 1) (hk : (∀ a ∈ args, wfV 8 a) → awp Tryz.prog (at? h48) [] (Tryz.f48.body.getD .skip) (finK Tryz.prog Tryz.f48.results.toList r) (env0 args) []) : Ret Tryz.prog 48 args r :=
  Ret.of mixed (at? h48) [] Tryz.func48 rfl Tryz.call48 (by kernel_rfl) (by rw [hn]; exact of_decide_eq_true (by kernel_rfl)) hk

/-! ### octavo/logic.told: function 49 -/
/-- no loop -/
def h49 : List (List Nat) := [[0, 1, 4], [0, 4, 6], [4], [4]]
theorem r49 {args : List V} {r : V} (hn : args.length = 2) (hk : (∀ a ∈ args, wfV 8 a) → awp Tryz.prog (at? h49) [] (Tryz.f49.body.getD .skip) (finK Tryz.prog Tryz.f49.results.toList r) (env0 args) []) : Ret Tryz.prog 49 args r :=
  Ret.of mixed (at? h49) [] Tryz.func49 rfl Tryz.call49 (by kernel_rfl) (by rw [hn]; exact of_decide_eq_true (by kernel_rfl)) hk

/-! ### octavo/date.Of: function 50 -/
/-- loop [0, 1, 2, 15, 16] -/
def h50 : List (List Nat) := [[0, 1, 2], [0, 1, 2, 15, 16], [0, 1, 2, 15, 16, 17], [0, 1, 2, 9, 15, 16], [0, 1, 2, 15, 16, 24], [6, 7], [0, 1, 2, 15, 16], [0, 1, 2], [2, 10, 11], [2, 10, 47], [6, 7], [6, 7]]
theorem r50 {args : List V} {r : V} (hn : args.length = 3) (hk : (∀ a ∈ args, wfV 8 a) → awp Tryz.prog (at? h50) [] (Tryz.f50.body.getD .skip) (finK Tryz.prog Tryz.f50.results.toList r) (env0 args) []) : Ret Tryz.prog 50 args r :=
  Ret.of mixed (at? h50) [] Tryz.func50 rfl Tryz.call50 (by kernel_rfl) (by rw [hn]; exact of_decide_eq_true (by kernel_rfl)) hk

/-! ### octavo/logic.months: function 51 -/
/-- no loop -/
def h51 : List (List Nat) := [[1], [2]]
theorem r51 {args : List V} {r : V} (hn : args.length = 1) (hk : (∀ a ∈ args, wfV 8 a) → awp Tryz.prog (at? h51) [] (Tryz.f51.body.getD .skip) (finK Tryz.prog Tryz.f51.results.toList r) (env0 args) []) : Ret Tryz.prog 51 args r :=
  Ret.of mixed (at? h51) [] Tryz.func51 rfl Tryz.call51 (by kernel_rfl) (by rw [hn]; exact of_decide_eq_true (by kernel_rfl)) hk

/-! ### octavo/logic.find$6: function 52 -/
/-- no loop -/
def h52 : List (List Nat) := [[0, 2], [0, 2, 3, 4], [0, 2, 3, 4, 14], [2], [2, 3, 4, 5], [2, 3, 4, 5, 25], [2], [2]]
theorem r52 {args : List V} {r : V} (hn : args.length = 1) (hk : (∀ a ∈ args, wfV 8 a) → awp Tryz.prog (at? h52) [] (Tryz.f52.body.getD .skip) (finK Tryz.prog Tryz.f52.results.toList r) (env0 args) []) : Ret Tryz.prog 52 args r :=
  Ret.of mixed (at? h52) [] Tryz.func52 rfl Tryz.call52 (by kernel_rfl) (by rw [hn]; exact of_decide_eq_true (by kernel_rfl)) hk

/-! ### octavo/logic.day: function 53 -/
/-- no loop -/
def h53 : List (List Nat) := [[1], [4, 5], [4, 5, 14], [2, 3], [6], [6, 23], [2, 3], [2, 3]]
theorem r53 {args : List V} {r : V} (hn : args.length = 1) (hk : (∀ a ∈ args, wfV 8 a) → awp Tryz.prog (at? h53) [] (Tryz.f53.body.getD .skip) (finK Tryz.prog Tryz.f53.results.toList r) (env0 args) []) : Ret Tryz.prog 53 args r :=
  Ret.of mixed (at? h53) [] Tryz.func53 rfl Tryz.call53 (by kernel_rfl) (by rw [hn]; exact of_decide_eq_true (by kernel_rfl)) hk

/-! ### octavo/logic.whole: function 54 -/
/-- no loop -/
def h54 : List (List Nat) := [[0, 2], [2]]
theorem r54 {args : List V} {r : V} (hn : args.length = 1) (hk : (∀ a ∈ args, wfV 8 a) → awp Tryz.prog (at? h54) [] (Tryz.f54.body.getD .skip) (finK Tryz.prog Tryz.f54.results.toList r) (env0 args) []) : Ret Tryz.prog 54 args r :=
  Ret.of mixed (at? h54) [] Tryz.func54 rfl Tryz.call54 (by kernel_rfl) (by rw [hn]; exact of_decide_eq_true (by kernel_rfl)) hk

/-! ### octavo/logic.find$7: function 55 -/
/-- no loop -/
def h55 : List (List Nat) := [[0, 2], [2, 3, 4], [2, 3, 4, 16], [2], [2, 5, 6], [2, 5, 25], [2], [2]]
theorem r55 {args : List V} {r : V} (hn : args.length = 1) (hk : (∀ a ∈ args, wfV 8 a) → awp Tryz.prog (at? h55) [] (Tryz.f55.body.getD .skip) (finK Tryz.prog Tryz.f55.results.toList r) (env0 args) []) : Ret Tryz.prog 55 args r :=
  Ret.of mixed (at? h55) [] Tryz.func55 rfl Tryz.call55 (by kernel_rfl) (by rw [hn]; exact of_decide_eq_true (by kernel_rfl)) hk

/-! ### octavo/value.ToText: function 56 -/
/-- no loop -/
def h56 : List (List Nat) := [[1], [1, 4, 5], [1, 4, 12], [2, 3], [2, 3]]
theorem r56 {args : List V} {r : V} (hn : args.length = 1) (hk : (∀ a ∈ args, wfV 8 a) → awp Tryz.prog (at? h56) [] (Tryz.f56.body.getD .skip) (finK Tryz.prog Tryz.f56.results.toList r) (env0 args) []) : Ret Tryz.prog 56 args r :=
  Ret.of mixed (at? h56) [] Tryz.func56 rfl Tryz.call56 (by kernel_rfl) (by rw [hn]; exact of_decide_eq_true (by kernel_rfl)) hk

/-! ### octavo/date.Parse: function 57 -/
/-- loop [0, 4, 5, 12, 13] -/
def h57 : List (List Nat) := [[0], [0, 10], [2, 3], [0, 4], [0, 4, 5], [0, 4, 5, 12, 13], [0, 4, 5, 12, 13, 14], [0, 4, 5, 6, 12, 13], [0, 4, 5, 6, 7, 12, 13], [0, 4, 5, 12, 13], [0, 4, 5, 7, 12, 13, 29], [0, 4, 5, 12, 13, 37], [2, 3], [0, 4, 5, 12, 13], [0, 4, 5, 7, 12, 13, 40], [2, 3], [0, 4, 5, 12, 13], [2, 3]]
theorem r57 {args : List V} {r : V} (hn : args.length = 1) (hk : (∀ a ∈ args, wfV 8 a) → awp Tryz.prog (at? h57) [] (Tryz.f57.body.getD .skip) (finK Tryz.prog Tryz.f57.results.toList r) (env0 args) []) : Ret Tryz.prog 57 args r :=
  Ret.of mixed (at? h57) [] Tryz.func57 rfl Tryz.call57 (by kernel_rfl) (by rw [hn]; exact of_decide_eq_true (by kernel_rfl)) hk

/-! ### octavo/logic.kinds: function 58 -/
/-- no loop -/
def h58 : List (List Nat) := [[0], [3], [3, 4], [2], [3, 7], [2], [3, 10], [2], [3, 13], [2], [3, 16], [2], [3, 19], [2], [3, 22], [2], [3, 25], [2], [3, 28], [2], [30], [2], [2]]
theorem r58 {args : List V} {r : V} (hn : args.length = 1) (hk : (∀ a ∈ args, wfV 8 a) → awp Tryz.prog (at? h58) [] (Tryz.f58.body.getD .skip) (finK Tryz.prog Tryz.f58.results.toList r) (env0 args) []) : Ret Tryz.prog 58 args r :=
  Ret.of mixed (at? h58) [] Tryz.func58 rfl Tryz.call58 (by kernel_rfl) (by rw [hn]; exact of_decide_eq_true (by kernel_rfl)) hk

/-! ### octavo/logic.days: function 59 -/
/-- no loop -/
def h59 : List (List Nat) := [[0], [3], [3, 4], [2], [3, 7], [2], [3, 10], [2], [3, 13], [2], [3, 16], [2], [19], [2], [2]]
theorem r59 {args : List V} {r : V} (hn : args.length = 1) (hk : (∀ a ∈ args, wfV 8 a) → awp Tryz.prog (at? h59) [] (Tryz.f59.body.getD .skip) (finK Tryz.prog Tryz.f59.results.toList r) (env0 args) []) : Ret Tryz.prog 59 args r :=
  Ret.of mixed (at? h59) [] Tryz.func59 rfl Tryz.call59 (by kernel_rfl) (by rw [hn]; exact of_decide_eq_true (by kernel_rfl)) hk

/-! ### octavo/logic.votes$1: function 76 -/
/-- loop [1, 3, 4, 5, 12, 13, 14] loop [1, 3, 4, 5, 7, 12, 13, 14, 23, 24, 25] -/
def h76 : List (List Nat) := [[0, 1, 3], [0, 1, 3, 4, 5], [1, 3, 4, 5, 12, 13, 14], [1, 3, 4, 5, 12, 13, 14, 15], [1, 3, 4, 5, 7, 12, 13, 14], [1, 3, 4, 5, 7, 12, 13, 14, 20], [3], [1, 3, 4, 5, 7, 12, 13, 14, 23, 24, 25], [1, 3, 4, 5, 7, 12, 13, 14, 23, 24, 25, 26], [1, 3, 4, 5, 7, 9, 12, 13, 14, 23, 24, 25], [1, 3, 4, 5, 7, 9, 12, 13, 14, 23, 24, 25, 42], [1, 3, 4, 5, 7, 10, 11, 12, 13, 14, 23, 24, 25], [1, 3, 4, 5, 7, 12, 13, 14, 23, 24, 25], [1, 3, 4, 5, 7, 10, 11, 12, 13, 14, 23, 24, 25, 50], [3], [1, 3, 4, 5, 7, 12, 13, 14, 23, 24, 25, 55], [1, 3, 4, 5, 7, 12, 13, 14, 23, 24, 25], [1, 3, 4, 5, 7, 12, 13, 14, 23, 24, 25], [1, 3, 4, 5, 12, 13, 14], [3]]
theorem r76 {args : List V} {r : V} (hn : args.length = 2) (hk : (∀ a ∈ args, wfV 8 a) → awp Tryz.prog (at? h76) [] (Tryz.f76.body.getD .skip) (finK Tryz.prog Tryz.f76.results.toList r) (env0 args) []) : Ret Tryz.prog 76 args r :=
  Ret.of mixed (at? h76) [] Tryz.func76 rfl Tryz.call76 (by kernel_rfl) (by rw [hn]; exact of_decide_eq_true (by kernel_rfl)) hk

/-! ### octavo/maths.Good: function 77 -/
/-- loop [35, 36, 37] -/
def h77 : List (List Nat) := [[1], [1, 33], [2], [35, 36, 37], [35, 36, 37, 38], [4, 35, 36, 37], [35, 36, 37, 43], [2], [35, 36, 37], [2]]
theorem r77 {args : List V} {r : V} (hn : args.length = 1) (hk : (∀ a ∈ args, wfV 8 a) → awp Tryz.prog (at? h77) [] (Tryz.f77.body.getD .skip) (finK Tryz.prog Tryz.f77.results.toList r) (env0 args) []) : Ret Tryz.prog 77 args r :=
  Ret.of mixed (at? h77) [] Tryz.func77 rfl Tryz.call77 (by kernel_rfl) (by rw [hn]; exact of_decide_eq_true (by kernel_rfl)) hk

/-! ### octavo/value.own: function 78 -/
/-- no loop -/
def h78 : List (List Nat) := [[1], [1, 4], [1, 4, 5], [2], [1, 4, 9], [2], [1, 4, 14], [2], [1, 4, 19], [2], [1, 25], [2], [2]]
theorem r78 {args : List V} {r : V} (hn : args.length = 1) (hk : (∀ a ∈ args, wfV 8 a) → awp Tryz.prog (at? h78) [] (Tryz.f78.body.getD .skip) (finK Tryz.prog Tryz.f78.results.toList r) (env0 args) []) : Ret Tryz.prog 78 args r :=
  Ret.of mixed (at? h78) [] Tryz.func78 rfl Tryz.call78 (by kernel_rfl) (by rw [hn]; exact of_decide_eq_true (by kernel_rfl)) hk

/-! ### octavo/logic.constant$1: function 80 -/
/-- no loop -/
def h80 : List (List Nat) := [[1, 3], [3]]
theorem r80 {args : List V} {r : V} (hn : args.length = 2) (hk : (∀ a ∈ args, wfV 8 a) → awp Tryz.prog (at? h80) [] (Tryz.f80.body.getD .skip) (finK Tryz.prog Tryz.f80.results.toList r) (env0 args) []) : Ret Tryz.prog 80 args r :=
  Ret.of mixed (at? h80) [] Tryz.func80 rfl Tryz.call80 (by kernel_rfl) (by rw [hn]; exact of_decide_eq_true (by kernel_rfl)) hk

/-! ### octavo/value.ToNum: function 81 -/
/-- no loop -/
def h81 : List (List Nat) := [[1], [12], [12, 14, 15], [], [2, 3], [12, 17, 18], [5], [2, 3], [12, 21, 22], [6], [23], [2, 3], [2, 3], [12, 25, 26], [7], [8, 9], [8, 32], [2, 3], [35, 36], [10], [2, 3], [2, 3]]
theorem r81 {args : List V} {r : V} (hn : args.length = 1) (hk : (∀ a ∈ args, wfV 8 a) → awp Tryz.prog (at? h81) [] (Tryz.f81.body.getD .skip) (finK Tryz.prog Tryz.f81.results.toList r) (env0 args) []) : Ret Tryz.prog 81 args r :=
  Ret.of mixed (at? h81) [] Tryz.func81 rfl Tryz.call81 (by kernel_rfl) (by rw [hn]; exact of_decide_eq_true (by kernel_rfl)) hk

/-! ### octavo/num.Whole: function 82 -/
/-- no loop -/
def h82 : List (List Nat) := [[0], [0, 11], [2, 3], [2, 3]]
theorem r82 {args : List V} {r : V} (hn : args.length = 1) (hk : (∀ a ∈ args, wfV 8 a) → awp Tryz.prog (at? h82) [] (Tryz.f82.body.getD .skip) (finK Tryz.prog Tryz.f82.results.toList r) (env0 args) []) : Ret Tryz.prog 82 args r :=
  Ret.of mixed (at? h82) [] Tryz.func82 rfl Tryz.call82 (by kernel_rfl) (by rw [hn]; exact of_decide_eq_true (by kernel_rfl)) hk

/-! ### octavo/logic.months$1: function 86 -/
/-- no loop -/
def h86 : List (List Nat) := [[0, 1, 3], [0, 1, 3, 4, 5], [0, 1, 3, 4, 5, 15], [3], [1, 3, 4, 5, 6], [1, 3, 4, 5, 6, 27], [3], [3]]
theorem r86 {args : List V} {r : V} (hn : args.length = 2) (hk : (∀ a ∈ args, wfV 8 a) → awp Tryz.prog (at? h86) [] (Tryz.f86.body.getD .skip) (finK Tryz.prog Tryz.f86.results.toList r) (env0 args) []) : Ret Tryz.prog 86 args r :=
  Ret.of mixed (at? h86) [] Tryz.func86 rfl Tryz.call86 (by kernel_rfl) (by rw [hn]; exact of_decide_eq_true (by kernel_rfl)) hk

/-! ### octavo/date.Months: function 87 -/
/-- no loop -/
def h87 : List (List Nat) := [[0, 1, 2], [1, 2, 8, 9, 10, 11], [1, 2, 8, 9, 10, 29], [6, 7], [2, 8, 9, 10], [2, 8, 9, 10, 12], [8, 9, 10, 12, 41], [8, 9, 10, 12], [6, 7]]
theorem r87 {args : List V} {r : V} (hn : args.length = 3) (hk : (∀ a ∈ args, wfV 8 a) → awp Tryz.prog (at? h87) [] (Tryz.f87.body.getD .skip) (finK Tryz.prog Tryz.f87.results.toList r) (env0 args) []) : Ret Tryz.prog 87 args r :=
  Ret.of mixed (at? h87) [] Tryz.func87 rfl Tryz.call87 (by kernel_rfl) (by rw [hn]; exact of_decide_eq_true (by kernel_rfl)) hk

/-! ### octavo/value.Of: function 88 -/
/-- no loop -/
def h88 : List (List Nat) := [[0, 1, 4], [0, 4, 9], [4], [4]]
theorem r88 {args : List V} {r : V} (hn : args.length = 2) (hk : (∀ a ∈ args, wfV 8 a) → awp Tryz.prog (at? h88) [] (Tryz.f88.body.getD .skip) (finK Tryz.prog Tryz.f88.results.toList r) (env0 args) []) : Ret Tryz.prog 88 args r :=
  Ret.of mixed (at? h88) [] Tryz.func88 rfl Tryz.call88 (by kernel_rfl) (by rw [hn]; exact of_decide_eq_true (by kernel_rfl)) hk

/-! ### octavo/logic.kind: function 90 -/
/-- no loop -/
def h90 : List (List Nat) := [[1], [2]]
theorem r90 {args : List V} {r : V} (hn : args.length = 1) (hk : (∀ a ∈ args, wfV 8 a) → awp Tryz.prog (at? h90) [] (Tryz.f90.body.getD .skip) (finK Tryz.prog Tryz.f90.results.toList r) (env0 args) []) : Ret Tryz.prog 90 args r :=
  Ret.of mixed (at? h90) [] Tryz.func90 rfl Tryz.call90 (by kernel_rfl) (by rw [hn]; exact of_decide_eq_true (by kernel_rfl)) hk

/-! ### octavo/logic.is: function 91 -/
/-- no loop -/
def h91 : List (List Nat) := [[1], [2]]
theorem r91 {args : List V} {r : V} (hn : args.length = 1) (hk : (∀ a ∈ args, wfV 8 a) → awp Tryz.prog (at? h91) [] (Tryz.f91.body.getD .skip) (finK Tryz.prog Tryz.f91.results.toList r) (env0 args) []) : Ret Tryz.prog 91 args r :=
  Ret.of mixed (at? h91) [] Tryz.func91 rfl Tryz.call91 (by kernel_rfl) (by rw [hn]; exact of_decide_eq_true (by kernel_rfl)) hk

/-! ### octavo/logic.kinds$1: function 92 -/
/-- no loop -/
def h92 : List (List Nat) := [[1], [2]]
theorem r92 {args : List V} {r : V} (hn : args.length = 1) (hk : (∀ a ∈ args, wfV 8 a) → awp Tryz.prog (at? h92) [] (Tryz.f92.body.getD .skip) (finK Tryz.prog Tryz.f92.results.toList r) (env0 args) []) : Ret Tryz.prog 92 args r :=
  Ret.of mixed (at? h92) [] Tryz.func92 rfl Tryz.call92 (by kernel_rfl) (by rw [hn]; exact of_decide_eq_true (by kernel_rfl)) hk

/-! ### octavo/logic.kinds$2: function 93 -/
/-- no loop -/
def h93 : List (List Nat) := [[1], [2]]
theorem r93 {args : List V} {r : V} (hn : args.length = 1) (hk : (∀ a ∈ args, wfV 8 a) → awp Tryz.prog (at? h93) [] (Tryz.f93.body.getD .skip) (finK Tryz.prog Tryz.f93.results.toList r) (env0 args) []) : Ret Tryz.prog 93 args r :=
  Ret.of mixed (at? h93) [] Tryz.func93 rfl Tryz.call93 (by kernel_rfl) (by rw [hn]; exact of_decide_eq_true (by kernel_rfl)) hk

/-! ### octavo/logic.kinds$3: function 94 -/
/-- no loop -/
def h94 : List (List Nat) := [[1], [2]]
theorem r94 {args : List V} {r : V} (hn : args.length = 1) (hk : (∀ a ∈ args, wfV 8 a) → awp Tryz.prog (at? h94) [] (Tryz.f94.body.getD .skip) (finK Tryz.prog Tryz.f94.results.toList r) (env0 args) []) : Ret Tryz.prog 94 args r :=
  Ret.of mixed (at? h94) [] Tryz.func94 rfl Tryz.call94 (by kernel_rfl) (by rw [hn]; exact of_decide_eq_true (by kernel_rfl)) hk

/-! ### octavo/logic.kinds$4: function 95 -/
/-- no loop -/
def h95 : List (List Nat) := [[0, 2], [2]]
theorem r95 {args : List V} {r : V} (hn : args.length = 1) (hk : (∀ a ∈ args, wfV 8 a) → awp Tryz.prog (at? h95) [] (Tryz.f95.body.getD .skip) (finK Tryz.prog Tryz.f95.results.toList r) (env0 args) []) : Ret Tryz.prog 95 args r :=
  Ret.of mixed (at? h95) [] Tryz.func95 rfl Tryz.call95 (by kernel_rfl) (by rw [hn]; exact of_decide_eq_true (by kernel_rfl)) hk

/-! ### octavo/logic.kinds$5: function 96 -/
/-- no loop -/
def h96 : List (List Nat) := [[0, 2], [2, 3], [2, 3, 10], [2], [2]]
theorem r96 {args : List V} {r : V} (hn : args.length = 1) (hk : (∀ a ∈ args, wfV 8 a) → awp Tryz.prog (at? h96) [] (Tryz.f96.body.getD .skip) (finK Tryz.prog Tryz.f96.results.toList r) (env0 args) []) : Ret Tryz.prog 96 args r :=
  Ret.of mixed (at? h96) [] Tryz.func96 rfl Tryz.call96 (by kernel_rfl) (by rw [hn]; exact of_decide_eq_true (by kernel_rfl)) hk

/-! ### octavo/logic.part: function 97 -/
/-- no loop -/
def h97 : List (List Nat) := [[1], [2]]
theorem r97 {args : List V} {r : V} (hn : args.length = 1) (hk : (∀ a ∈ args, wfV 8 a) → awp Tryz.prog (at? h97) [] (Tryz.f97.body.getD .skip) (finK Tryz.prog Tryz.f97.results.toList r) (env0 args) []) : Ret Tryz.prog 97 args r :=
  Ret.of mixed (at? h97) [] Tryz.func97 rfl Tryz.call97 (by kernel_rfl) (by rw [hn]; exact of_decide_eq_true (by kernel_rfl)) hk

/-! ### octavo/logic.of: function 98 -/
/-- no loop -/
def h98 : List (List Nat) := [[1], [2]]
theorem r98 {args : List V} {r : V} (hn : args.length = 1) (hk : (∀ a ∈ args, wfV 8 a) → awp Tryz.prog (at? h98) [] (Tryz.f98.body.getD .skip) (finK Tryz.prog Tryz.f98.results.toList r) (env0 args) []) : Ret Tryz.prog 98 args r :=
  Ret.of mixed (at? h98) [] Tryz.func98 rfl Tryz.call98 (by kernel_rfl) (by rw [hn]; exact of_decide_eq_true (by kernel_rfl)) hk

/-! ### octavo/logic.days$1: function 99 -/
/-- no loop -/
def h99 : List (List Nat) := [[0, 2], [2]]
theorem r99 {args : List V} {r : V} (hn : args.length = 1) (hk : (∀ a ∈ args, wfV 8 a) → awp Tryz.prog (at? h99) [] (Tryz.f99.body.getD .skip) (finK Tryz.prog Tryz.f99.results.toList r) (env0 args) []) : Ret Tryz.prog 99 args r :=
  Ret.of mixed (at? h99) [] Tryz.func99 rfl Tryz.call99 (by kernel_rfl) (by rw [hn]; exact of_decide_eq_true (by kernel_rfl)) hk

/-! ### octavo/date.Weekday: function 100 -/
/-- no loop -/
def h100 : List (List Nat) := [[0], [0, 5], [2], [2]]
theorem r100 {args : List V} {r : V} (hn : args.length = 1) (hk : (∀ a ∈ args, wfV 8 a) → awp Tryz.prog (at? h100) [] (Tryz.f100.body.getD .skip) (finK Tryz.prog Tryz.f100.results.toList r) (env0 args) []) : Ret Tryz.prog 100 args r :=
  Ret.of mixed (at? h100) [] Tryz.func100 rfl Tryz.call100 (by kernel_rfl) (by rw [hn]; exact of_decide_eq_true (by kernel_rfl)) hk

/-! ### octavo/logic.days$2: function 101 -/
/-- no loop -/
def h101 : List (List Nat) := [[0, 2], [2]]
theorem r101 {args : List V} {r : V} (hn : args.length = 1) (hk : (∀ a ∈ args, wfV 8 a) → awp Tryz.prog (at? h101) [] (Tryz.f101.body.getD .skip) (finK Tryz.prog Tryz.f101.results.toList r) (env0 args) []) : Ret Tryz.prog 101 args r :=
  Ret.of mixed (at? h101) [] Tryz.func101 rfl Tryz.call101 (by kernel_rfl) (by rw [hn]; exact of_decide_eq_true (by kernel_rfl)) hk

/-! ### octavo/date.Week: function 102 -/
/-- no loop -/
def h102 : List (List Nat) := [[0], [0, 12], [2], [3], [3, 4], [3, 8], [2]]
theorem r102 {args : List V} {r : V} (hn : args.length = 1) (hk : (∀ a ∈ args, wfV 8 a) → awp Tryz.prog (at? h102) [] (Tryz.f102.body.getD .skip) (finK Tryz.prog Tryz.f102.results.toList r) (env0 args) []) : Ret Tryz.prog 102 args r :=
  Ret.of mixed (at? h102) [] Tryz.func102 rfl Tryz.call102 (by kernel_rfl) (by rw [hn]; exact of_decide_eq_true (by kernel_rfl)) hk

/-! ### octavo/logic.days$3: function 103 -/
/-- no loop -/
def h103 : List (List Nat) := [[0, 2], [2]]
theorem r103 {args : List V} {r : V} (hn : args.length = 1) (hk : (∀ a ∈ args, wfV 8 a) → awp Tryz.prog (at? h103) [] (Tryz.f103.body.getD .skip) (finK Tryz.prog Tryz.f103.results.toList r) (env0 args) []) : Ret Tryz.prog 103 args r :=
  Ret.of mixed (at? h103) [] Tryz.func103 rfl Tryz.call103 (by kernel_rfl) (by rw [hn]; exact of_decide_eq_true (by kernel_rfl)) hk

/-! ### octavo/value.Str: function 104 -/
/-- no loop -/
def h104 : List (List Nat) := [[0, 2], [0, 2, 5], [2], [2]]
theorem r104 {args : List V} {r : V} (hn : args.length = 1) (hk : (∀ a ∈ args, wfV 8 a) → awp Tryz.prog (at? h104) [] (Tryz.f104.body.getD .skip) (finK Tryz.prog Tryz.f104.results.toList r) (env0 args) []) : Ret Tryz.prog 104 args r :=
  Ret.of mixed (at? h104) [] Tryz.func104 rfl Tryz.call104 (by kernel_rfl) (by rw [hn]; exact of_decide_eq_true (by kernel_rfl)) hk

/-! ### octavo/date.Print: function 105 -/
/-- loop [3, 4, 5, 7, 22, 23] loop [3, 4, 5, 7, 9, 10, 22, 23] -/
def h105 : List (List Nat) := [[0], [3, 4, 5, 6], [3, 4, 5, 19], [2], [3, 4, 5, 7], [3, 4, 5, 7, 22, 23], [3, 4, 5, 7, 22, 23, 24], [3, 4, 5, 7, 8, 9, 22, 23], [3, 4, 5, 7, 9, 10, 22, 23], [3, 4, 5, 7, 9, 10, 22, 23, 34], [3, 4, 5, 7, 9, 10, 22, 23], [3, 4, 5, 7, 9, 10, 22, 23], [3, 4, 5, 7, 9, 10, 22, 23], [3, 4, 5, 7, 22, 23], [2]]
theorem r105 {args : List V} {r : V} (hn : args.length = 1) (hk : (∀ a ∈ args, wfV 8 a) → awp Tryz.prog (at? h105) [] (Tryz.f105.body.getD .skip) (finK Tryz.prog Tryz.f105.results.toList r) (env0 args) []) : Ret Tryz.prog 105 args r :=
  Ret.of mixed (at? h105) [] Tryz.func105 rfl Tryz.call105 (by kernel_rfl) (by rw [hn]; exact of_decide_eq_true (by kernel_rfl)) hk

/-! ### octavo/value.Good: function 115 -/
/-- no loop -/
def h115 : List (List Nat) := [[1], [1, 15], [2], [1, 17], [1, 17, 19, 20], [1], [2], [1, 17, 25, 26], [4], [2], [1, 17, 30, 31], [1, 5], [2], [1, 17, 41, 42], [1], [2], [52, 53], [7], [2], [2]]
theorem r115 {args : List V} {r : V} (hn : args.length = 1) (hk : (∀ a ∈ args, wfV 8 a) → awp Tryz.prog (at? h115) [] (Tryz.f115.body.getD .skip) (finK Tryz.prog Tryz.f115.results.toList r) (env0 args) []) : Ret Tryz.prog 115 args r :=
  Ret.of mixed (at? h115) [] Tryz.func115 rfl Tryz.call115 (by kernel_rfl) (by rw [hn]; exact of_decide_eq_true (by kernel_rfl)) hk

/-! ### octavo/num.Good: function 118 -/
/-- no loop -/
def h118 : List (List Nat) := [[0], [2]]
theorem r118 {args : List V} {r : V} (hn : args.length = 1) (hk : (∀ a ∈ args, wfV 8 a) → awp Tryz.prog (at? h118) [] (Tryz.f118.body.getD .skip) (finK Tryz.prog Tryz.f118.results.toList r) (env0 args) []) : Ret Tryz.prog 118 args r :=
  Ret.of mixed (at? h118) [] Tryz.func118 rfl Tryz.call118 (by kernel_rfl) (by rw [hn]; exact of_decide_eq_true (by kernel_rfl)) hk

/-! ### octavo/date.Parts: function 121 -/
/-- no loop -/
def h121 : List (List Nat) := [[2, 3, 4, 5]]
theorem r121 {args : List V} {r : V} (hn : args.length = 1) (hk : (∀ a ∈ args, wfV 8 a) → awp Tryz.prog (at? h121) [] (Tryz.f121.body.getD .skip) (finK Tryz.prog Tryz.f121.results.toList r) (env0 args) []) : Ret Tryz.prog 121 args r :=
  Ret.of mixed (at? h121) [] Tryz.func121 rfl Tryz.call121 (by kernel_rfl) (by rw [hn]; exact of_decide_eq_true (by kernel_rfl)) hk

/-! ### octavo/logic.kind$1: function 124 -/
/-- no loop -/
def h124 : List (List Nat) := [[1, 2], [3]]
theorem r124 {args : List V} {r : V} (hn : args.length = 2) (hk : (∀ a ∈ args, wfV 8 a) → awp Tryz.prog (at? h124) [] (Tryz.f124.body.getD .skip) (finK Tryz.prog Tryz.f124.results.toList r) (env0 args) []) : Ret Tryz.prog 124 args r :=
  Ret.of mixed (at? h124) [] Tryz.func124 rfl Tryz.call124 (by kernel_rfl) (by rw [hn]; exact of_decide_eq_true (by kernel_rfl)) hk

/-! ### octavo/logic.is$1: function 125 -/
/-- no loop -/
def h125 : List (List Nat) := [[0, 1, 3], [3]]
theorem r125 {args : List V} {r : V} (hn : args.length = 2) (hk : (∀ a ∈ args, wfV 8 a) → awp Tryz.prog (at? h125) [] (Tryz.f125.body.getD .skip) (finK Tryz.prog Tryz.f125.results.toList r) (env0 args) []) : Ret Tryz.prog 125 args r :=
  Ret.of mixed (at? h125) [] Tryz.func125 rfl Tryz.call125 (by kernel_rfl) (by rw [hn]; exact of_decide_eq_true (by kernel_rfl)) hk

/-! ### octavo/logic.part$1: function 126 -/
/-- no loop -/
def h126 : List (List Nat) := [[0, 1, 3], [1, 3, 4, 5, 6], [3]]
theorem r126 {args : List V} {r : V} (hn : args.length = 2) (hk : (∀ a ∈ args, wfV 8 a) → awp Tryz.prog (at? h126) [] (Tryz.f126.body.getD .skip) (finK Tryz.prog Tryz.f126.results.toList r) (env0 args) []) : Ret Tryz.prog 126 args r :=
  Ret.of mixed (at? h126) [] Tryz.func126 rfl Tryz.call126 (by kernel_rfl) (by rw [hn]; exact of_decide_eq_true (by kernel_rfl)) hk

/-! ### octavo/logic.of$1: function 127 -/
/-- no loop -/
def h127 : List (List Nat) := [[0, 1, 3], [1, 3, 4, 5], [1, 3, 4, 5, 14], [3], [3]]
theorem r127 {args : List V} {r : V} (hn : args.length = 2) (hk : (∀ a ∈ args, wfV 8 a) → awp Tryz.prog (at? h127) [] (Tryz.f127.body.getD .skip) (finK Tryz.prog Tryz.f127.results.toList r) (env0 args) []) : Ret Tryz.prog 127 args r :=
  Ret.of mixed (at? h127) [] Tryz.func127 rfl Tryz.call127 (by kernel_rfl) (by rw [hn]; exact of_decide_eq_true (by kernel_rfl)) hk
abbrev F_octavolaw19_LogicFaults : FuncId := 3
abbrev r_octavolaw19_LogicFaults := @r3
abbrev F_octavolaw19_light : FuncId := 8
abbrev r_octavolaw19_light := @r8
abbrev F_octavolaw19_lives : FuncId := 9
abbrev r_octavolaw19_lives := @r9
abbrev F_logic_Call : FuncId := 10
abbrev r_logic_Call := @r10
abbrev F_octavoref06_Good : FuncId := 11
abbrev r_octavoref06_Good := @r11
abbrev F_octavolaw19_one : FuncId := 12
abbrev r_octavolaw19_one := @r12
abbrev F_octavolaw19_ask : FuncId := 13
abbrev r_octavolaw19_ask := @r13
abbrev F_octavolaw19_number : FuncId := 14
abbrev r_octavolaw19_number := @r14
abbrev F_octavolaw19_text : FuncId := 18
abbrev r_octavolaw19_text := @r18
abbrev F_logic_find : FuncId := 19
abbrev r_logic_find := @r19
abbrev F_value_Bad : FuncId := 20
abbrev r_value_Bad := @r20
abbrev F_octavoref05_Good : FuncId := 21
abbrev r_octavoref05_Good := @r21
abbrev F_logic_votes : FuncId := 38
abbrev r_logic_votes := @r38
abbrev F_logic_find_1 : FuncId := 39
abbrev r_logic_find_1 := @r39
abbrev F_logic_find_2 : FuncId := 40
abbrev r_logic_find_2 := @r40
abbrev F_logic_find_3 : FuncId := 41
abbrev r_logic_find_3 := @r41
abbrev F_logic_find_4 : FuncId := 42
abbrev r_logic_find_4 := @r42
abbrev F_value_ToBool : FuncId := 43
abbrev r_value_ToBool := @r43
abbrev F_maths_One : FuncId := 44
abbrev r_maths_One := @r44
abbrev F_logic_truth : FuncId := 45
abbrev r_logic_truth := @r45
abbrev F_logic_constant : FuncId := 46
abbrev r_logic_constant := @r46
abbrev F_logic_find_5 : FuncId := 47
abbrev r_logic_find_5 := @r47
abbrev F_logic_ints : FuncId := 48
abbrev r_logic_ints := @r48
abbrev F_logic_told : FuncId := 49
abbrev r_logic_told := @r49
abbrev F_date_Of : FuncId := 50
abbrev r_date_Of := @r50
abbrev F_logic_months : FuncId := 51
abbrev r_logic_months := @r51
abbrev F_logic_find_6 : FuncId := 52
abbrev r_logic_find_6 := @r52
abbrev F_logic_day : FuncId := 53
abbrev r_logic_day := @r53
abbrev F_logic_whole : FuncId := 54
abbrev r_logic_whole := @r54
abbrev F_logic_find_7 : FuncId := 55
abbrev r_logic_find_7 := @r55
abbrev F_value_ToText : FuncId := 56
abbrev r_value_ToText := @r56
abbrev F_date_Parse : FuncId := 57
abbrev r_date_Parse := @r57
abbrev F_logic_kinds : FuncId := 58
abbrev r_logic_kinds := @r58
abbrev F_logic_days : FuncId := 59
abbrev r_logic_days := @r59
abbrev F_logic_votes_1 : FuncId := 76
abbrev r_logic_votes_1 := @r76
abbrev F_maths_Good : FuncId := 77
abbrev r_maths_Good := @r77
abbrev F_value_own : FuncId := 78
abbrev r_value_own := @r78
abbrev F_logic_constant_1 : FuncId := 80
abbrev r_logic_constant_1 := @r80
abbrev F_value_ToNum : FuncId := 81
abbrev r_value_ToNum := @r81
abbrev F_num_Whole : FuncId := 82
abbrev r_num_Whole := @r82
abbrev F_logic_months_1 : FuncId := 86
abbrev r_logic_months_1 := @r86
abbrev F_date_Months : FuncId := 87
abbrev r_date_Months := @r87
abbrev F_value_Of : FuncId := 88
abbrev r_value_Of := @r88
abbrev F_logic_kind : FuncId := 90
abbrev r_logic_kind := @r90
abbrev F_logic_is : FuncId := 91
abbrev r_logic_is := @r91
abbrev F_logic_kinds_1 : FuncId := 92
abbrev r_logic_kinds_1 := @r92
abbrev F_logic_kinds_2 : FuncId := 93
abbrev r_logic_kinds_2 := @r93
abbrev F_logic_kinds_3 : FuncId := 94
abbrev r_logic_kinds_3 := @r94
abbrev F_logic_kinds_4 : FuncId := 95
abbrev r_logic_kinds_4 := @r95
abbrev F_logic_kinds_5 : FuncId := 96
abbrev r_logic_kinds_5 := @r96
abbrev F_logic_part : FuncId := 97
abbrev r_logic_part := @r97
abbrev F_logic_of : FuncId := 98
abbrev r_logic_of := @r98
abbrev F_logic_days_1 : FuncId := 99
abbrev r_logic_days_1 := @r99
abbrev F_date_Weekday : FuncId := 100
abbrev r_date_Weekday := @r100
abbrev F_logic_days_2 : FuncId := 101
abbrev r_logic_days_2 := @r101
abbrev F_date_Week : FuncId := 102
abbrev r_date_Week := @r102
abbrev F_logic_days_3 : FuncId := 103
abbrev r_logic_days_3 := @r103
abbrev F_value_Str : FuncId := 104
abbrev r_value_Str := @r104
abbrev F_date_Print : FuncId := 105
abbrev r_date_Print := @r105
abbrev F_value_Good : FuncId := 115
abbrev r_value_Good := @r115
abbrev F_num_Good : FuncId := 118
abbrev r_num_Good := @r118
abbrev F_date_Parts : FuncId := 121
abbrev r_date_Parts := @r121
abbrev F_logic_kind_1 : FuncId := 124
abbrev r_logic_kind_1 := @r124
abbrev F_logic_is_1 : FuncId := 125
abbrev r_logic_is_1 := @r125
abbrev F_logic_part_1 : FuncId := 126
abbrev r_logic_part_1 := @r126
abbrev F_logic_of_1 : FuncId := 127
abbrev r_logic_of_1 := @r127
end Go.Proofs.YtllceoncpgebpaaGreatDoor.R
