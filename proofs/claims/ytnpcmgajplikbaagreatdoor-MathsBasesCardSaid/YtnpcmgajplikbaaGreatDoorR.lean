/- Each function of the program: what is kept behind each of its pieces, and its own form of the rule. -/
import Derived.Test.YtnpcmgajplikbaaGreatDoorCore1
import Derived.Test.YtnpcmgajplikbaaGreatDoorProg
namespace Go.Proofs.YtnpcmgajplikbaaGreatDoor.R
open Go.Proofs.YtnpcmgajplikbaaGreatDoor.Ab
set_option maxRecDepth 20000
theorem mixed : Tryz.prog.follows .mixedOrders = true := by kernel_rfl

/-! ### octavo/octavolaw17.MathsBases: function 5 -/
/-- no loop -/
def h5 : List (List Nat) := [[0, 1], [5, 6], [5, 6, 7], [5, 6, 7, 25], [4], [5, 6, 7, 29], [4], [4]]
theorem r5 {args : List V} {r : V} (hn : args.length = 2) (hk : (∀ a ∈ args, wfV 8 a) → awp Tryz.prog (at? h5) [] (Tryz.f5.body.getD .skip) (finK Tryz.prog Tryz.f5.results.toList r) (env0 args) []) : Ret Tryz.prog 5 args r :=
  Ret.of mixed (at? h5) [] Tryz.func5 rfl Tryz.call5 (by kernel_rfl) (by rw [hn]; exact of_decide_eq_true (by kernel_rfl)) hk

/-! ### octavo/octavolaw17.lives: function 10 -/
/-- no loop -/
def h10 : List (List Nat) := [[], [0]]
theorem r10 {args : List V} {r : V} (hn : args.length = 0) (hk : (∀ a ∈ args, wfV 8 a) → awp Tryz.prog (at? h10) [] (Tryz.f10.body.getD .skip) (finK Tryz.prog Tryz.f10.results.toList r) (env0 args) []) : Ret Tryz.prog 10 args r :=
  Ret.of mixed (at? h10) [] Tryz.func10 rfl Tryz.call10 (by kernel_rfl) (by rw [hn]; exact of_decide_eq_true (by kernel_rfl)) hk

/-! ### octavo/maths.Call: function 11 -/
/-- no loop -/
def h11 : List (List Nat) := [[0, 1, 4], [1, 4, 6], [1, 4, 6, 10], [4, 5], [4, 5]]
theorem r11 {args : List V} {r : V} (hn : args.length = 2) (hk : (∀ a ∈ args, wfV 8 a) → awp Tryz.prog (at? h11) [] (Tryz.f11.body.getD .skip) (finK Tryz.prog Tryz.f11.results.toList r) (env0 args) []) : Ret Tryz.prog 11 args r :=
  Ret.of mixed (at? h11) [] Tryz.func11 rfl Tryz.call11 (by kernel_rfl) (by rw [hn]; exact of_decide_eq_true (by kernel_rfl)) hk

/-! ### octavo/maths.Good: function 13 -/
/-- loop [35, 36, 37] -/
def h13 : List (List Nat) := [[1], [1, 33], [2], [35, 36, 37], [35, 36, 37, 38], [4, 35, 36, 37], [35, 36, 37, 43], [2], [35, 36, 37], [2]]
theorem r13 {args : List V} {r : V} (hn : args.length = 1) (hk : (∀ a ∈ args, wfV 8 a) → awp Tryz.prog (at? h13) [] (Tryz.f13.body.getD .skip) (finK Tryz.prog Tryz.f13.results.toList r) (env0 args) []) : Ret Tryz.prog 13 args r :=
  Ret.of mixed (at? h13) [] Tryz.func13 rfl Tryz.call13 (by kernel_rfl) (by rw [hn]; exact of_decide_eq_true (by kernel_rfl)) hk

/-! ### octavo/maths.One: function 15 -/
/-- no loop -/
def h15 : List (List Nat) := [[1, 2], [1, 2, 11], [2], [2]]
theorem r15 {args : List V} {r : V} (hn : args.length = 1) (hk : (∀ a ∈ args, wfV 8 a) → awp Tryz.prog (at? h15) [] (Tryz.f15.body.getD .skip) (finK Tryz.prog Tryz.f15.results.toList r) (env0 args) []) : Ret Tryz.prog 15 args r :=
  Ret.of mixed (at? h15) [] Tryz.func15 rfl Tryz.call15 (by kernel_rfl) (by rw [hn]; exact of_decide_eq_true (by kernel_rfl)) hk

/-! ### octavo/octavolaw17.ask: function 17 -/
/-- no loop -/
def h17 : List (List Nat) := [[0, 1, 4], [4, 5], [4]]
theorem r17 {args : List V} {r : V} (hn : args.length = 2) (hk : (∀ a ∈ args, wfV 8 a) → awp Tryz.prog (at? h17) [] (Tryz.f17.body.getD .skip) (finK Tryz.prog Tryz.f17.results.toList r) (env0 args) []) : Ret Tryz.prog 17 args r :=
  Ret.of mixed (at? h17) [] Tryz.func17 rfl Tryz.call17 (by kernel_rfl) (by rw [hn]; exact of_decide_eq_true (by kernel_rfl)) hk

/-! ### octavo/octavolaw17.number: function 18 -/
/-- no loop -/
def h18 : List (List Nat) := [[0, 2], [2]]
theorem r18 {args : List V} {r : V} (hn : args.length = 1) (hk : (∀ a ∈ args, wfV 8 a) → awp Tryz.prog (at? h18) [] (Tryz.f18.body.getD .skip) (finK Tryz.prog Tryz.f18.results.toList r) (env0 args) []) : Ret Tryz.prog 18 args r :=
  Ret.of mixed (at? h18) [] Tryz.func18 rfl Tryz.call18 (by kernel_rfl) (by rw [hn]; exact of_decide_eq_true (by kernel_rfl)) hk

/-! ### octavo/octavolaw17.one: function 19 -/
/-- no loop -/
def h19 : List (List Nat) := [[1, 2], [2]]
theorem r19 {args : List V} {r : V} (hn : args.length = 1) (hk : (∀ a ∈ args, wfV 8 a) → awp Tryz.prog (at? h19) [] (Tryz.f19.body.getD .skip) (finK Tryz.prog Tryz.f19.results.toList r) (env0 args) []) : Ret Tryz.prog 19 args r :=
  Ret.of mixed (at? h19) [] Tryz.func19 rfl Tryz.call19 (by kernel_rfl) (by rw [hn]; exact of_decide_eq_true (by kernel_rfl)) hk

/-! ### octavo/maths.find: function 23 -/
/-- no loop -/
def h23 : List (List Nat) := [[0], [0, 3], [0, 3, 4], [2], [0, 3, 7], [2], [0, 3, 10], [2], [0, 3, 13], [2], [0, 3, 15], [2], [0, 3, 18], [2], [0, 3, 21], [2], [0, 3, 24], [2], [0, 3, 28], [2], [0, 3, 31], [2], [0, 3, 34], [2], [0, 3, 37], [2], [0, 3, 40], [2], [0, 3, 43], [2], [0, 3, 46], [2], [0, 50], [2], [2]]
theorem r23 {args : List V} {r : V} (hn : args.length = 1) (hk : (∀ a ∈ args, wfV 8 a) → awp Tryz.prog (at? h23) [] (Tryz.f23.body.getD .skip) (finK Tryz.prog Tryz.f23.results.toList r) (env0 args) []) : Ret Tryz.prog 23 args r :=
  Ret.of mixed (at? h23) [] Tryz.func23 rfl Tryz.call23 (by kernel_rfl) (by rw [hn]; exact of_decide_eq_true (by kernel_rfl)) hk

/-! ### octavo/value.Good: function 25 -/
/-- no loop -/
def h25 : List (List Nat) := [[1], [1, 15], [2], [1, 17], [1, 17, 19, 20], [1], [2], [1, 17, 25, 26], [4], [2], [1, 17, 30, 31], [1, 5], [2], [1, 17, 41, 42], [1], [2], [52, 53], [7], [2], [2]]
theorem r25 {args : List V} {r : V} (hn : args.length = 1) (hk : (∀ a ∈ args, wfV 8 a) → awp Tryz.prog (at? h25) [] (Tryz.f25.body.getD .skip) (finK Tryz.prog Tryz.f25.results.toList r) (env0 args) []) : Ret Tryz.prog 25 args r :=
  Ret.of mixed (at? h25) [] Tryz.func25 rfl Tryz.call25 (by kernel_rfl) (by rw [hn]; exact of_decide_eq_true (by kernel_rfl)) hk

/-! ### octavo/value.Bad: function 26 -/
/-- no loop -/
def h26 : List (List Nat) := [[0, 2], [0, 2, 8], [0, 2], [2]]
theorem r26 {args : List V} {r : V} (hn : args.length = 1) (hk : (∀ a ∈ args, wfV 8 a) → awp Tryz.prog (at? h26) [] (Tryz.f26.body.getD .skip) (finK Tryz.prog Tryz.f26.results.toList r) (env0 args) []) : Ret Tryz.prog 26 args r :=
  Ret.of mixed (at? h26) [] Tryz.func26 rfl Tryz.call26 (by kernel_rfl) (by rw [hn]; exact of_decide_eq_true (by kernel_rfl)) hk

/-! ### octavo/maths.rounds: function 35 -/
/-- no loop -/
def h35 : List (List Nat) := [[1], [2]]
theorem r35 {args : List V} {r : V} (hn : args.length = 1) (hk : (∀ a ∈ args, wfV 8 a) → awp Tryz.prog (at? h35) [] (Tryz.f35.body.getD .skip) (finK Tryz.prog Tryz.f35.results.toList r) (env0 args) []) : Ret Tryz.prog 35 args r :=
  Ret.of mixed (at? h35) [] Tryz.func35 rfl Tryz.call35 (by kernel_rfl) (by rw [hn]; exact of_decide_eq_true (by kernel_rfl)) hk

/-! ### octavo/maths.plain: function 37 -/
/-- no loop -/
def h37 : List (List Nat) := [[1], [2]]
theorem r37 {args : List V} {r : V} (hn : args.length = 1) (hk : (∀ a ∈ args, wfV 8 a) → awp Tryz.prog (at? h37) [] (Tryz.f37.body.getD .skip) (finK Tryz.prog Tryz.f37.results.toList r) (env0 args) []) : Ret Tryz.prog 37 args r :=
  Ret.of mixed (at? h37) [] Tryz.func37 rfl Tryz.call37 (by kernel_rfl) (by rw [hn]; exact of_decide_eq_true (by kernel_rfl)) hk

/-! ### octavo/num.Round: function 39 -/
/-- loop [0, 2, 8, 32, 33] -/
def h39 : List (List Nat) := [[0, 1, 2], [0, 1, 2, 30], [6, 7], [0, 1, 2, 8], [0, 2, 8, 32, 33], [0, 2, 8, 32, 33, 34], [0, 2, 8, 32, 33], [0, 2, 8, 32, 33], [0, 2, 8, 9], [0, 2, 8, 9, 46], [6, 7], [0, 2, 8, 9, 10], [8, 10, 11], [8, 10, 72], [10], [6, 7]]
theorem r39 {args : List V} {r : V} (hn : args.length = 3) (hk : (∀ a ∈ args, wfV 8 a) → awp Tryz.prog (at? h39) [] (Tryz.f39.body.getD .skip) (finK Tryz.prog Tryz.f39.results.toList r) (env0 args) []) : Ret Tryz.prog 39 args r :=
  Ret.of mixed (at? h39) [] Tryz.func39 rfl Tryz.call39 (by kernel_rfl) (by rw [hn]; exact of_decide_eq_true (by kernel_rfl)) hk

/-! ### octavo/maths.of: function 44 -/
/-- no loop -/
def h44 : List (List Nat) := [[2, 3], [4]]
theorem r44 {args : List V} {r : V} (hn : args.length = 2) (hk : (∀ a ∈ args, wfV 8 a) → awp Tryz.prog (at? h44) [] (Tryz.f44.body.getD .skip) (finK Tryz.prog Tryz.f44.results.toList r) (env0 args) []) : Ret Tryz.prog 44 args r :=
  Ret.of mixed (at? h44) [] Tryz.func44 rfl Tryz.call44 (by kernel_rfl) (by rw [hn]; exact of_decide_eq_true (by kernel_rfl)) hk

/-! ### octavo/value.Of: function 46 -/
/-- no loop -/
def h46 : List (List Nat) := [[0, 1, 4], [0, 4, 9], [4], [4]]
theorem r46 {args : List V} {r : V} (hn : args.length = 2) (hk : (∀ a ∈ args, wfV 8 a) → awp Tryz.prog (at? h46) [] (Tryz.f46.body.getD .skip) (finK Tryz.prog Tryz.f46.results.toList r) (env0 args) []) : Ret Tryz.prog 46 args r :=
  Ret.of mixed (at? h46) [] Tryz.func46 rfl Tryz.call46 (by kernel_rfl) (by rw [hn]; exact of_decide_eq_true (by kernel_rfl)) hk

/-! ### octavo/maths.based: function 55 -/
/-- loop [2, 3, 4, 5, 6] -/
def h55 : List (List Nat) := [[0, 2], [2, 3, 4], [2, 3, 4, 22], [2], [2, 3, 4, 5], [2, 3, 4, 5, 6], [2, 3, 4, 5, 28], [2, 3, 4, 5, 6], [2, 3, 4, 5], [2, 3, 4, 5], [2]]
theorem r55 {args : List V} {r : V} (hn : args.length = 1) (hk : (∀ a ∈ args, wfV 8 a) → awp Tryz.prog (at? h55) [] (Tryz.f55.body.getD .skip) (finK Tryz.prog Tryz.f55.results.toList r) (env0 args) []) : Ret Tryz.prog 55 args r :=
  Ret.of mixed (at? h55) [] Tryz.func55 rfl Tryz.call55 (by kernel_rfl) (by rw [hn]; exact of_decide_eq_true (by kernel_rfl)) hk

/-! ### octavo/maths.unbased: function 56 -/
/-- loop [2, 8, 9, 62, 63, 64] loop [2, 8, 9, 11, 12, 62, 63, 64, 69, 70] -/
def h56 : List (List Nat) := [[0, 2], [0, 2, 16], [2], [0, 2, 3, 4], [0, 2, 3, 4, 27], [2], [2, 3, 5, 6, 7], [2, 3, 5, 6, 39], [2], [2, 3, 8], [2, 3, 8, 58], [2], [2, 3, 8, 9], [2, 8, 9, 62, 63, 64], [2, 8, 9, 62, 63, 64, 65], [2, 8, 9, 11, 62, 63, 64], [2, 8, 9, 11, 12, 62, 63, 64], [2, 8, 9, 11, 12, 62, 63, 64, 69, 70], [2, 8, 9, 11, 12, 62, 63, 64, 69, 70, 71], [2, 8, 9, 11, 12, 13, 62, 63, 64, 69, 70], [2, 8, 9, 11, 12, 13, 62, 63, 64, 69, 70, 76], [2, 8, 9, 11, 12, 62, 63, 64, 69, 70], [2, 8, 9, 11, 12, 62, 63, 64, 69, 70], [2, 8, 9, 12, 62, 63, 64, 81], [2], [2, 8, 9, 62, 63, 64], [2, 8, 9, 62, 63, 64], [2]]
theorem r56 {args : List V} {r : V} (hn : args.length = 1) (hk : (∀ a ∈ args, wfV 8 a) → awp Tryz.prog (at? h56) [] (Tryz.f56.body.getD .skip) (finK Tryz.prog Tryz.f56.results.toList r) (env0 args) []) : Ret Tryz.prog 56 args r :=
  Ret.of mixed (at? h56) [] Tryz.func56 rfl Tryz.call56 (by kernel_rfl) (by rw [hn]; exact of_decide_eq_true (by kernel_rfl)) hk

/-! ### octavo/maths.unary: function 57 -/
/-- no loop -/
def h57 : List (List Nat) := [[0], [3], [3, 4], [2], [3, 7], [2], [3, 10], [3, 10], [2], [3, 14], [2], [3, 17], [2], [3, 20], [2], [3, 23], [2], [3, 26], [2], [3, 29], [2], [32], [2], [2]]
theorem r57 {args : List V} {r : V} (hn : args.length = 1) (hk : (∀ a ∈ args, wfV 8 a) → awp Tryz.prog (at? h57) [] (Tryz.f57.body.getD .skip) (finK Tryz.prog Tryz.f57.results.toList r) (env0 args) []) : Ret Tryz.prog 57 args r :=
  Ret.of mixed (at? h57) [] Tryz.func57 rfl Tryz.call57 (by kernel_rfl) (by rw [hn]; exact of_decide_eq_true (by kernel_rfl)) hk

/-! ### octavo/value.own: function 58 -/
/-- no loop -/
def h58 : List (List Nat) := [[1], [1, 4], [1, 4, 5], [2], [1, 4, 9], [2], [1, 4, 14], [2], [1, 4, 19], [2], [1, 25], [2], [2]]
theorem r58 {args : List V} {r : V} (hn : args.length = 1) (hk : (∀ a ∈ args, wfV 8 a) → awp Tryz.prog (at? h58) [] (Tryz.f58.body.getD .skip) (finK Tryz.prog Tryz.f58.results.toList r) (env0 args) []) : Ret Tryz.prog 58 args r :=
  Ret.of mixed (at? h58) [] Tryz.func58 rfl Tryz.call58 (by kernel_rfl) (by rw [hn]; exact of_decide_eq_true (by kernel_rfl)) hk

/-! ### octavo/num.Good: function 59 -/
/-- no loop -/
def h59 : List (List Nat) := [[0], [2]]
theorem r59 {args : List V} {r : V} (hn : args.length = 1) (hk : (∀ a ∈ args, wfV 8 a) → awp Tryz.prog (at? h59) [] (Tryz.f59.body.getD .skip) (finK Tryz.prog Tryz.f59.results.toList r) (env0 args) []) : Ret Tryz.prog 59 args r :=
  Ret.of mixed (at? h59) [] Tryz.func59 rfl Tryz.call59 (by kernel_rfl) (by rw [hn]; exact of_decide_eq_true (by kernel_rfl)) hk

/-! ### octavo/maths.rounds$1: function 73 -/
/-- no loop -/
def h73 : List (List Nat) := [[0, 1, 3], [3]]
theorem r73 {args : List V} {r : V} (hn : args.length = 2) (hk : (∀ a ∈ args, wfV 8 a) → awp Tryz.prog (at? h73) [] (Tryz.f73.body.getD .skip) (finK Tryz.prog Tryz.f73.results.toList r) (env0 args) []) : Ret Tryz.prog 73 args r :=
  Ret.of mixed (at? h73) [] Tryz.func73 rfl Tryz.call73 (by kernel_rfl) (by rw [hn]; exact of_decide_eq_true (by kernel_rfl)) hk

/-! ### octavo/maths.plain$1: function 74 -/
/-- no loop -/
def h74 : List (List Nat) := [[0, 1, 3], [3]]
theorem r74 {args : List V} {r : V} (hn : args.length = 2) (hk : (∀ a ∈ args, wfV 8 a) → awp Tryz.prog (at? h74) [] (Tryz.f74.body.getD .skip) (finK Tryz.prog Tryz.f74.results.toList r) (env0 args) []) : Ret Tryz.prog 74 args r :=
  Ret.of mixed (at? h74) [] Tryz.func74 rfl Tryz.call74 (by kernel_rfl) (by rw [hn]; exact of_decide_eq_true (by kernel_rfl)) hk

/-! ### octavo/num.Whole: function 80 -/
/-- no loop -/
def h80 : List (List Nat) := [[0], [0, 11], [2, 3], [2, 3]]
theorem r80 {args : List V} {r : V} (hn : args.length = 1) (hk : (∀ a ∈ args, wfV 8 a) → awp Tryz.prog (at? h80) [] (Tryz.f80.body.getD .skip) (finK Tryz.prog Tryz.f80.results.toList r) (env0 args) []) : Ret Tryz.prog 80 args r :=
  Ret.of mixed (at? h80) [] Tryz.func80 rfl Tryz.call80 (by kernel_rfl) (by rw [hn]; exact of_decide_eq_true (by kernel_rfl)) hk

/-! ### octavo/maths.of$1: function 84 -/
/-- no loop -/
def h84 : List (List Nat) := [[0, 1, 2, 4], [2, 4, 5, 6, 7], [2, 4, 5, 6, 16], [4], [4]]
theorem r84 {args : List V} {r : V} (hn : args.length = 3) (hk : (∀ a ∈ args, wfV 8 a) → awp Tryz.prog (at? h84) [] (Tryz.f84.body.getD .skip) (finK Tryz.prog Tryz.f84.results.toList r) (env0 args) []) : Ret Tryz.prog 84 args r :=
  Ret.of mixed (at? h84) [] Tryz.func84 rfl Tryz.call84 (by kernel_rfl) (by rw [hn]; exact of_decide_eq_true (by kernel_rfl)) hk

/-! ### octavo/maths.numbers: function 85 -/
/-- loop [1, 5, 7, 20, 21, 22] -/
def h85 : List (List Nat) := [[0, 1, 5], [0, 1, 5, 18], [4, 5, 6], [0, 1, 5, 7], [1, 5, 7, 20, 21, 22], [1, 5, 7, 20, 21, 22, 23], [1, 5, 7, 8, 9, 20, 21, 22], [1, 5, 7, 8, 10, 11, 20, 21, 22], [1, 5, 7, 8, 10, 11, 20, 21, 22, 34], [4, 5, 6], [1, 5, 7, 10, 20, 21, 22, 40], [1, 5, 7, 12, 13, 20, 21, 22], [1, 5, 7, 12, 20, 21, 22, 47], [4, 5, 6], [1, 5, 7, 10, 20, 21, 22], [1, 5, 7, 20, 21, 22], [1, 5, 7, 20, 21, 22], [4, 5, 6]]
theorem r85 {args : List V} {r : V} (hn : args.length = 2) (hk : (∀ a ∈ args, wfV 8 a) → awp Tryz.prog (at? h85) [] (Tryz.f85.body.getD .skip) (finK Tryz.prog Tryz.f85.results.toList r) (env0 args) []) : Ret Tryz.prog 85 args r :=
  Ret.of mixed (at? h85) [] Tryz.func85 rfl Tryz.call85 (by kernel_rfl) (by rw [hn]; exact of_decide_eq_true (by kernel_rfl)) hk

/-! ### octavo/maths.whole: function 88 -/
/-- no loop -/
def h88 : List (List Nat) := [[0, 2], [0, 2, 7], [2], [2]]
theorem r88 {args : List V} {r : V} (hn : args.length = 1) (hk : (∀ a ∈ args, wfV 8 a) → awp Tryz.prog (at? h88) [] (Tryz.f88.body.getD .skip) (finK Tryz.prog Tryz.f88.results.toList r) (env0 args) []) : Ret Tryz.prog 88 args r :=
  Ret.of mixed (at? h88) [] Tryz.func88 rfl Tryz.call88 (by kernel_rfl) (by rw [hn]; exact of_decide_eq_true (by kernel_rfl)) hk

/-! ### octavo/value.ToText: function 90 -/
/-- no loop -/
def h90 : List (List Nat) := [[1], [1, 4, 5], [1, 4, 12], [2, 3], [2, 3]]
theorem r90 {args : List V} {r : V} (hn : args.length = 1) (hk : (∀ a ∈ args, wfV 8 a) → awp Tryz.prog (at? h90) [] (Tryz.f90.body.getD .skip) (finK Tryz.prog Tryz.f90.results.toList r) (env0 args) []) : Ret Tryz.prog 90 args r :=
  Ret.of mixed (at? h90) [] Tryz.func90 rfl Tryz.call90 (by kernel_rfl) (by rw [hn]; exact of_decide_eq_true (by kernel_rfl)) hk

/-! ### octavo/value.Upper: function 91 -/
/-- no loop -/
def h91 : List (List Nat) := [[0], [2]]
theorem r91 {args : List V} {r : V} (hn : args.length = 1) (hk : (∀ a ∈ args, wfV 8 a) → awp Tryz.prog (at? h91) [] (Tryz.f91.body.getD .skip) (finK Tryz.prog Tryz.f91.results.toList r) (env0 args) []) : Ret Tryz.prog 91 args r :=
  Ret.of mixed (at? h91) [] Tryz.func91 rfl Tryz.call91 (by kernel_rfl) (by rw [hn]; exact of_decide_eq_true (by kernel_rfl)) hk

/-! ### octavo/maths.unary$1: function 92 -/
/-- no loop -/
def h92 : List (List Nat) := [[0], [2, 3]]
theorem r92 {args : List V} {r : V} (hn : args.length = 1) (hk : (∀ a ∈ args, wfV 8 a) → awp Tryz.prog (at? h92) [] (Tryz.f92.body.getD .skip) (finK Tryz.prog Tryz.f92.results.toList r) (env0 args) []) : Ret Tryz.prog 92 args r :=
  Ret.of mixed (at? h92) [] Tryz.func92 rfl Tryz.call92 (by kernel_rfl) (by rw [hn]; exact of_decide_eq_true (by kernel_rfl)) hk

/-! ### octavo/value.ToNum: function 115 -/
/-- no loop -/
def h115 : List (List Nat) := [[1], [12], [12, 14, 15], [], [2, 3], [12, 17, 18], [5], [2, 3], [12, 21, 22], [6], [23], [2, 3], [2, 3], [12, 25, 26], [7], [8, 9], [8, 32], [2, 3], [35, 36], [10], [2, 3], [2, 3]]
theorem r115 {args : List V} {r : V} (hn : args.length = 1) (hk : (∀ a ∈ args, wfV 8 a) → awp Tryz.prog (at? h115) [] (Tryz.f115.body.getD .skip) (finK Tryz.prog Tryz.f115.results.toList r) (env0 args) []) : Ret Tryz.prog 115 args r :=
  Ret.of mixed (at? h115) [] Tryz.func115 rfl Tryz.call115 (by kernel_rfl) (by rw [hn]; exact of_decide_eq_true (by kernel_rfl)) hk
abbrev F_octavolaw17_MathsBases : FuncId := 5
abbrev r_octavolaw17_MathsBases := @r5
abbrev F_octavolaw17_lives : FuncId := 10
abbrev r_octavolaw17_lives := @r10
abbrev F_maths_Call : FuncId := 11
abbrev r_maths_Call := @r11
abbrev F_maths_Good : FuncId := 13
abbrev r_maths_Good := @r13
abbrev F_maths_One : FuncId := 15
abbrev r_maths_One := @r15
abbrev F_octavolaw17_ask : FuncId := 17
abbrev r_octavolaw17_ask := @r17
abbrev F_octavolaw17_number : FuncId := 18
abbrev r_octavolaw17_number := @r18
abbrev F_octavolaw17_one : FuncId := 19
abbrev r_octavolaw17_one := @r19
abbrev F_maths_find : FuncId := 23
abbrev r_maths_find := @r23
abbrev F_value_Good : FuncId := 25
abbrev r_value_Good := @r25
abbrev F_value_Bad : FuncId := 26
abbrev r_value_Bad := @r26
abbrev F_maths_rounds : FuncId := 35
abbrev r_maths_rounds := @r35
abbrev F_maths_plain : FuncId := 37
abbrev r_maths_plain := @r37
abbrev F_num_Round : FuncId := 39
abbrev r_num_Round := @r39
abbrev F_maths_of : FuncId := 44
abbrev r_maths_of := @r44
abbrev F_value_Of : FuncId := 46
abbrev r_value_Of := @r46
abbrev F_maths_based : FuncId := 55
abbrev r_maths_based := @r55
abbrev F_maths_unbased : FuncId := 56
abbrev r_maths_unbased := @r56
abbrev F_maths_unary : FuncId := 57
abbrev r_maths_unary := @r57
abbrev F_value_own : FuncId := 58
abbrev r_value_own := @r58
abbrev F_num_Good : FuncId := 59
abbrev r_num_Good := @r59
abbrev F_maths_rounds_1 : FuncId := 73
abbrev r_maths_rounds_1 := @r73
abbrev F_maths_plain_1 : FuncId := 74
abbrev r_maths_plain_1 := @r74
abbrev F_num_Whole : FuncId := 80
abbrev r_num_Whole := @r80
abbrev F_maths_of_1 : FuncId := 84
abbrev r_maths_of_1 := @r84
abbrev F_maths_numbers : FuncId := 85
abbrev r_maths_numbers := @r85
abbrev F_maths_whole : FuncId := 88
abbrev r_maths_whole := @r88
abbrev F_value_ToText : FuncId := 90
abbrev r_value_ToText := @r90
abbrev F_value_Upper : FuncId := 91
abbrev r_value_Upper := @r91
abbrev F_maths_unary_1 : FuncId := 92
abbrev r_maths_unary_1 := @r92
abbrev F_value_ToNum : FuncId := 115
abbrev r_value_ToNum := @r115
end Go.Proofs.YtnpcmgajplikbaaGreatDoor.R
