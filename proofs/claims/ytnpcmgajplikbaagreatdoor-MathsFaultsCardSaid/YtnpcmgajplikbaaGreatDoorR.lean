/- Each function of the program: what is kept behind each of its pieces, and its own form of the rule. -/
import Derived.Test.YtnpcmgajplikbaaGreatDoorCore1
import Derived.Test.YtnpcmgajplikbaaGreatDoorProg
namespace Go.Proofs.YtnpcmgajplikbaaGreatDoor.R
open Go.Proofs.YtnpcmgajplikbaaGreatDoor.Ab
set_option maxRecDepth 20000
theorem mixed : Tryz.prog.follows .mixedOrders = true := by kernel_rfl

/-! ### octavo/octavolaw17.MathsFaults: function 3 -/
/-- no loop -/
def h3 : List (List Nat) := [[0, 1], [0, 1, 9], [4], [5, 6], [5, 18], [4], [27], [4], [4]]
theorem r3 {args : List V} {r : V} (hn : args.length = 2) (hk : (∀ a ∈ args, wfV 8 a) → awp Tryz.prog (at? h3) [] (Tryz.f3.body.getD .skip) (finK Tryz.prog Tryz.f3.results.toList r) (env0 args) []) : Ret Tryz.prog 3 args r :=
  Ret.of mixed (at? h3) [] Tryz.func3 rfl Tryz.call3 (by kernel_rfl) (by rw [hn]; exact of_decide_eq_true (by kernel_rfl)) hk

/-! ### octavo/octavolaw17.light: function 9 -/
/-- loop [3, 10, 11, 12] loop [3, 10, 11, 12, 22, 23, 24] -/
def h9 : List (List Nat) := [[0], [0, 3], [3, 10, 11, 12], [3, 10, 11, 12, 13], [3, 5, 10, 11, 12], [3, 5, 10, 11, 12], [3, 10, 11, 12, 22, 23, 24], [3, 10, 11, 12, 22, 23, 24, 25], [3, 7, 10, 11, 12, 22, 23, 24], [3, 10, 11, 12, 22, 23, 24], [3, 10, 11, 12, 22, 23, 24], [3, 10, 11, 12], [2]]
theorem r9 {args : List V} {r : V} (hn : args.length = 1) (hk : (∀ a ∈ args, wfV 8 a) → awp Tryz.prog (at? h9) [] (Tryz.f9.body.getD .skip) (finK Tryz.prog Tryz.f9.results.toList r) (env0 args) []) : Ret Tryz.prog 9 args r :=
  Ret.of mixed (at? h9) [] Tryz.func9 rfl Tryz.call9 (by kernel_rfl) (by rw [hn]; exact of_decide_eq_true (by kernel_rfl)) hk

/-! ### octavo/octavolaw17.lives: function 10 -/
/-- no loop -/
def h10 : List (List Nat) := [[], [0]]
theorem r10 {args : List V} {r : V} (hn : args.length = 0) (hk : (∀ a ∈ args, wfV 8 a) → awp Tryz.prog (at? h10) [] (Tryz.f10.body.getD .skip) (finK Tryz.prog Tryz.f10.results.toList r) (env0 args) []) : Ret Tryz.prog 10 args r :=
  Ret.of mixed (at? h10) [] Tryz.func10 rfl Tryz.call10 (by kernel_rfl) (by rw [hn]; exact of_decide_eq_true (by kernel_rfl)) hk

/-! ### octavo/maths.Call: function 11 -/
/-- no loop -/
def h11 : List (List Nat) := [[0, 1, 4], [1, 4, 6], [1, 4, 6, 10], [4, 5], [4, 5]]
theorem r11 {args : List V} {r : V} (hn : args.length = 2) (hk : (∀ a ∈ args, wfV 8 a) → awp Tryz.prog (at? h11) [] (Tryz.f11.body.getD .skip) (finK Tryz.prog Tryz.f11.results.toList r) (env0 args) []) : Ret Tryz.prog 11 args r :=
  Ret.of mixed (at? h11) [] Tryz.func11 rfl Tryz.call11 (by kernel_rfl) (by rw [hn]; exact of_decide_eq_true (by kernel_rfl)) hk

/-! ### octavo/octavoref06.Good: function 12 -/
/-- no loop -/
def h12 : List (List Nat) := [[1], [1, 4], [1, 4, 5], [2], [1, 4, 10], [2], [1, 4, 20], [2], [1, 4, 31], [2], [1, 46], [2], [2]]
theorem r12 {args : List V} {r : V} (hn : args.length = 1) (hk : (∀ a ∈ args, wfV 8 a) → awp Tryz.prog (at? h12) [] (Tryz.f12.body.getD .skip) (finK Tryz.prog Tryz.f12.results.toList r) (env0 args) []) : Ret Tryz.prog 12 args r :=
  Ret.of mixed (at? h12) [] Tryz.func12 rfl Tryz.call12 (by kernel_rfl) (by rw [hn]; exact of_decide_eq_true (by kernel_rfl)) hk

/-! ### octavo/maths.Good: function 13 -/
/-- loop [35, 36, 37] -/
def h13 : List (List Nat) := [[1], [1, 33], [2], [35, 36, 37], [35, 36, 37, 38], [4, 35, 36, 37], [35, 36, 37, 43], [2], [35, 36, 37], [2]]
theorem r13 {args : List V} {r : V} (hn : args.length = 1) (hk : (∀ a ∈ args, wfV 8 a) → awp Tryz.prog (at? h13) [] (Tryz.f13.body.getD .skip) (finK Tryz.prog Tryz.f13.results.toList r) (env0 args) []) : Ret Tryz.prog 13 args r :=
  Ret.of mixed (at? h13) [] Tryz.func13 rfl Tryz.call13 (by kernel_rfl) (by rw [hn]; exact of_decide_eq_true (by kernel_rfl)) hk

/-! ### octavo/maths.One: function 15 -/
/-- no loop -/
def h15 : List (List Nat) := [[1, 2], [1, 2, 11], [2], [2]]
theorem r15 {args : List V} {r : V} (hn : args.length = 1) (hk : (∀ a ∈ args, wfV 8 a) → awp Tryz.prog (at? h15) [] (Tryz.f15.body.getD .skip) (finK Tryz.prog Tryz.f15.results.toList r) (env0 args) []) : Ret Tryz.prog 15 args r :=
  Ret.of mixed (at? h15) [] Tryz.func15 rfl Tryz.call15 (by kernel_rfl) (by rw [hn]; exact of_decide_eq_true (by kernel_rfl)) hk

/-! ### octavo/octavolaw17.ask: function 17 -/
/-- no loop -/
def h17 : List (List Nat) := [[0, 1, 4], [4, 5], [4]]
theorem r17 {args : List V} {r : V} (hn : args.length = 2) (hk : (∀ a ∈ args, wfV 8 a) → awp Tryz.prog (at? h17) [] (Tryz.f17.body.getD .skip) (finK Tryz.prog Tryz.f17.results.toList r) (env0 args) []) : Ret Tryz.prog 17 args r :=
  Ret.of mixed (at? h17) [] Tryz.func17 rfl Tryz.call17 (by kernel_rfl) (by rw [hn]; exact of_decide_eq_true (by kernel_rfl)) hk

/-! ### octavo/octavolaw17.number: function 18 -/
/-- no loop -/
def h18 : List (List Nat) := [[0, 2], [2]]
theorem r18 {args : List V} {r : V} (hn : args.length = 1) (hk : (∀ a ∈ args, wfV 8 a) → awp Tryz.prog (at? h18) [] (Tryz.f18.body.getD .skip) (finK Tryz.prog Tryz.f18.results.toList r) (env0 args) []) : Ret Tryz.prog 18 args r :=
  Ret.of mixed (at? h18) [] Tryz.func18 rfl Tryz.call18 (by kernel_rfl) (by rw [hn]; exact of_decide_eq_true (by kernel_rfl)) hk

/-! ### octavo/octavolaw17.one: function 19 -/
/-- no loop -/
def h19 : List (List Nat) := [[1, 2], [2]]
theorem r19 {args : List V} {r : V} (hn : args.length = 1) (hk : (∀ a ∈ args, wfV 8 a) → awp Tryz.prog (at? h19) [] (Tryz.f19.body.getD .skip) (finK Tryz.prog Tryz.f19.results.toList r) (env0 args) []) : Ret Tryz.prog 19 args r :=
  Ret.of mixed (at? h19) [] Tryz.func19 rfl Tryz.call19 (by kernel_rfl) (by rw [hn]; exact of_decide_eq_true (by kernel_rfl)) hk

/-! ### octavo/maths.find: function 23 -/
/-- no loop -/
def h23 : List (List Nat) := [[0], [0, 3], [0, 3, 4], [2], [0, 3, 7], [2], [0, 3, 10], [2], [0, 3, 13], [2], [0, 3, 15], [2], [0, 3, 18], [2], [0, 3, 21], [2], [0, 3, 24], [2], [0, 3, 28], [2], [0, 3, 31], [2], [0, 3, 34], [2], [0, 3, 37], [2], [0, 3, 40], [2], [0, 3, 43], [2], [0, 3, 46], [2], [0, 50], [2], [2]]
theorem r23 {args : List V} {r : V} (hn : args.length = 1) (hk : (∀ a ∈ args, wfV 8 a) → awp Tryz.prog (at? h23) [] (Tryz.f23.body.getD .skip) (finK Tryz.prog Tryz.f23.results.toList r) (env0 args) []) : Ret Tryz.prog 23 args r :=
  Ret.of mixed (at? h23) [] Tryz.func23 rfl Tryz.call23 (by kernel_rfl) (by rw [hn]; exact of_decide_eq_true (by kernel_rfl)) hk

/-! ### octavo/octavoref05.Good: function 24 -/
/-- no loop -/
def h24 : List (List Nat) := [[0], [2]]
theorem r24 {args : List V} {r : V} (hn : args.length = 1) (hk : (∀ a ∈ args, wfV 8 a) → awp Tryz.prog (at? h24) [] (Tryz.f24.body.getD .skip) (finK Tryz.prog Tryz.f24.results.toList r) (env0 args) []) : Ret Tryz.prog 24 args r :=
  Ret.of mixed (at? h24) [] Tryz.func24 rfl Tryz.call24 (by kernel_rfl) (by rw [hn]; exact of_decide_eq_true (by kernel_rfl)) hk

/-! ### octavo/value.Good: function 25 -/
/-- no loop -/
def h25 : List (List Nat) := [[1], [1, 15], [2], [1, 17], [1, 17, 19, 20], [1], [2], [1, 17, 25, 26], [4], [2], [1, 17, 30, 31], [1, 5], [2], [1, 17, 41, 42], [1], [2], [52, 53], [7], [2], [2]]
theorem r25 {args : List V} {r : V} (hn : args.length = 1) (hk : (∀ a ∈ args, wfV 8 a) → awp Tryz.prog (at? h25) [] (Tryz.f25.body.getD .skip) (finK Tryz.prog Tryz.f25.results.toList r) (env0 args) []) : Ret Tryz.prog 25 args r :=
  Ret.of mixed (at? h25) [] Tryz.func25 rfl Tryz.call25 (by kernel_rfl) (by rw [hn]; exact of_decide_eq_true (by kernel_rfl)) hk

/-! ### octavo/value.Bad: function 26 -/
/-- no loop -/
def h26 : List (List Nat) := [[0, 2], [0, 2, 8], [0, 2], [2]]
theorem r26 {args : List V} {r : V} (hn : args.length = 1) (hk : (∀ a ∈ args, wfV 8 a) → awp Tryz.prog (at? h26) [] (Tryz.f26.body.getD .skip) (finK Tryz.prog Tryz.f26.results.toList r) (env0 args) []) : Ret Tryz.prog 26 args r :=
  Ret.of mixed (at? h26) [] Tryz.func26 rfl Tryz.call26 (by kernel_rfl) (by rw [hn]; exact of_decide_eq_true (by kernel_rfl)) hk

/-! ### octavo/maths.rounds: function 35 -/
/-- no loop -/
def h35 : List (List Nat) := [[1], [2]]
theorem r35 {args : List V} {r : V} (hn : args.length = 1) (hk : (∀ a ∈ args, wfV 8 a) → awp Tryz.prog (at? h35) [] (Tryz.f35.body.getD .skip) (finK Tryz.prog Tryz.f35.results.toList r) (env0 args) []) : Ret Tryz.prog 35 args r :=
  Ret.of mixed (at? h35) [] Tryz.func35 rfl Tryz.call35 (by kernel_rfl) (by rw [hn]; exact of_decide_eq_true (by kernel_rfl)) hk

/-! ### octavo/maths.find$1: function 36 -/
/-- no loop -/
def h36 : List (List Nat) := [[0, 2], [0, 2, 5], [2], [2]]
theorem r36 {args : List V} {r : V} (hn : args.length = 1) (hk : (∀ a ∈ args, wfV 8 a) → awp Tryz.prog (at? h36) [] (Tryz.f36.body.getD .skip) (finK Tryz.prog Tryz.f36.results.toList r) (env0 args) []) : Ret Tryz.prog 36 args r :=
  Ret.of mixed (at? h36) [] Tryz.func36 rfl Tryz.call36 (by kernel_rfl) (by rw [hn]; exact of_decide_eq_true (by kernel_rfl)) hk

/-! ### octavo/maths.plain: function 37 -/
/-- no loop -/
def h37 : List (List Nat) := [[1], [2]]
theorem r37 {args : List V} {r : V} (hn : args.length = 1) (hk : (∀ a ∈ args, wfV 8 a) → awp Tryz.prog (at? h37) [] (Tryz.f37.body.getD .skip) (finK Tryz.prog Tryz.f37.results.toList r) (env0 args) []) : Ret Tryz.prog 37 args r :=
  Ret.of mixed (at? h37) [] Tryz.func37 rfl Tryz.call37 (by kernel_rfl) (by rw [hn]; exact of_decide_eq_true (by kernel_rfl)) hk

/-! ### octavo/maths.find$1$1: function 38 -/
/-- no loop -/
def h38 : List (List Nat) := [[0], [2, 3]]
theorem r38 {args : List V} {r : V} (hn : args.length = 1) (hk : (∀ a ∈ args, wfV 8 a) → awp Tryz.prog (at? h38) [] (Tryz.f38.body.getD .skip) (finK Tryz.prog Tryz.f38.results.toList r) (env0 args) []) : Ret Tryz.prog 38 args r :=
  Ret.of mixed (at? h38) [] Tryz.func38 rfl Tryz.call38 (by kernel_rfl) (by rw [hn]; exact of_decide_eq_true (by kernel_rfl)) hk

/-! ### octavo/num.Round: function 39 -/
/-- loop [0, 2, 8, 32, 33] -/
def h39 : List (List Nat) := [[0, 1, 2], [0, 1, 2, 30], [6, 7], [0, 1, 2, 8], [0, 2, 8, 32, 33], [0, 2, 8, 32, 33, 34], [0, 2, 8, 32, 33], [0, 2, 8, 32, 33], [0, 2, 8, 9], [0, 2, 8, 9, 46], [6, 7], [0, 2, 8, 9, 10], [8, 10, 11], [8, 10, 72], [10], [6, 7]]
theorem r39 {args : List V} {r : V} (hn : args.length = 3) (hk : (∀ a ∈ args, wfV 8 a) → awp Tryz.prog (at? h39) [] (Tryz.f39.body.getD .skip) (finK Tryz.prog Tryz.f39.results.toList r) (env0 args) []) : Ret Tryz.prog 39 args r :=
  Ret.of mixed (at? h39) [] Tryz.func39 rfl Tryz.call39 (by kernel_rfl) (by rw [hn]; exact of_decide_eq_true (by kernel_rfl)) hk

/-! ### octavo/maths.pair: function 40 -/
/-- no loop -/
def h40 : List (List Nat) := [[2, 3], [4]]
theorem r40 {args : List V} {r : V} (hn : args.length = 2) (hk : (∀ a ∈ args, wfV 8 a) → awp Tryz.prog (at? h40) [] (Tryz.f40.body.getD .skip) (finK Tryz.prog Tryz.f40.results.toList r) (env0 args) []) : Ret Tryz.prog 40 args r :=
  Ret.of mixed (at? h40) [] Tryz.func40 rfl Tryz.call40 (by kernel_rfl) (by rw [hn]; exact of_decide_eq_true (by kernel_rfl)) hk

/-! ### octavo/num.Mod: function 41 -/
/-- no loop -/
def h41 : List (List Nat) := [[0, 1], [0, 1, 14], [4, 5], [4, 5]]
theorem r41 {args : List V} {r : V} (hn : args.length = 2) (hk : (∀ a ∈ args, wfV 8 a) → awp Tryz.prog (at? h41) [] (Tryz.f41.body.getD .skip) (finK Tryz.prog Tryz.f41.results.toList r) (env0 args) []) : Ret Tryz.prog 41 args r :=
  Ret.of mixed (at? h41) [] Tryz.func41 rfl Tryz.call41 (by kernel_rfl) (by rw [hn]; exact of_decide_eq_true (by kernel_rfl)) hk

/-! ### octavo/num.Quo: function 42 -/
/-- no loop -/
def h42 : List (List Nat) := [[0, 1], [0, 1, 15], [4, 5], [6], [6, 21], [4, 5], [4, 5]]
theorem r42 {args : List V} {r : V} (hn : args.length = 2) (hk : (∀ a ∈ args, wfV 8 a) → awp Tryz.prog (at? h42) [] (Tryz.f42.body.getD .skip) (finK Tryz.prog Tryz.f42.results.toList r) (env0 args) []) : Ret Tryz.prog 42 args r :=
  Ret.of mixed (at? h42) [] Tryz.func42 rfl Tryz.call42 (by kernel_rfl) (by rw [hn]; exact of_decide_eq_true (by kernel_rfl)) hk

/-! ### octavo/num.Pow: function 43 -/
/-- no loop -/
def h43 : List (List Nat) := [[1, 2], [2, 6, 7], [2, 6, 7, 37], [4, 5], [2, 6, 7, 8], [6, 7, 8, 9], [6, 7, 8], [6, 8, 45], [4, 5], [8, 48], [4, 5], [4, 5]]
theorem r43 {args : List V} {r : V} (hn : args.length = 2) (hk : (∀ a ∈ args, wfV 8 a) → awp Tryz.prog (at? h43) [] (Tryz.f43.body.getD .skip) (finK Tryz.prog Tryz.f43.results.toList r) (env0 args) []) : Ret Tryz.prog 43 args r :=
  Ret.of mixed (at? h43) [] Tryz.func43 rfl Tryz.call43 (by kernel_rfl) (by rw [hn]; exact of_decide_eq_true (by kernel_rfl)) hk

/-! ### octavo/maths.of: function 44 -/
/-- no loop -/
def h44 : List (List Nat) := [[2, 3], [4]]
theorem r44 {args : List V} {r : V} (hn : args.length = 2) (hk : (∀ a ∈ args, wfV 8 a) → awp Tryz.prog (at? h44) [] (Tryz.f44.body.getD .skip) (finK Tryz.prog Tryz.f44.results.toList r) (env0 args) []) : Ret Tryz.prog 44 args r :=
  Ret.of mixed (at? h44) [] Tryz.func44 rfl Tryz.call44 (by kernel_rfl) (by rw [hn]; exact of_decide_eq_true (by kernel_rfl)) hk

/-! ### octavo/maths.find$2: function 45 -/
/-- no loop -/
def h45 : List (List Nat) := [[0, 2], [2]]
theorem r45 {args : List V} {r : V} (hn : args.length = 1) (hk : (∀ a ∈ args, wfV 8 a) → awp Tryz.prog (at? h45) [] (Tryz.f45.body.getD .skip) (finK Tryz.prog Tryz.f45.results.toList r) (env0 args) []) : Ret Tryz.prog 45 args r :=
  Ret.of mixed (at? h45) [] Tryz.func45 rfl Tryz.call45 (by kernel_rfl) (by rw [hn]; exact of_decide_eq_true (by kernel_rfl)) hk

/-! ### octavo/value.Of: function 46 -/
/-- no loop -/
def h46 : List (List Nat) := [[0, 1, 4], [0, 4, 9], [4], [4]]
theorem r46 {args : List V} {r : V} (hn : args.length = 2) (hk : (∀ a ∈ args, wfV 8 a) → awp Tryz.prog (at? h46) [] (Tryz.f46.body.getD .skip) (finK Tryz.prog Tryz.f46.results.toList r) (env0 args) []) : Ret Tryz.prog 46 args r :=
  Ret.of mixed (at? h46) [] Tryz.func46 rfl Tryz.call46 (by kernel_rfl) (by rw [hn]; exact of_decide_eq_true (by kernel_rfl)) hk

/-! ### octavo/num.Comb: function 47 -/
/-- loop [0, 6, 24, 25] -/
def h47 : List (List Nat) := [[0, 1], [0, 1, 10], [0, 1, 10], [4, 5], [0, 1, 15], [4, 5], [0, 1], [0, 1, 6], [0, 6, 24, 25], [0, 6, 24, 25, 26], [0, 6, 7, 24, 25], [0, 7, 8, 9, 24, 25], [0, 7, 9, 24, 25, 38], [4, 5], [0, 6, 24, 25], [0, 6, 24, 25, 45], [4, 5], [0, 6, 24, 25], [6, 48], [4, 5], [4, 5]]
theorem r47 {args : List V} {r : V} (hn : args.length = 2) (hk : (∀ a ∈ args, wfV 8 a) → awp Tryz.prog (at? h47) [] (Tryz.f47.body.getD .skip) (finK Tryz.prog Tryz.f47.results.toList r) (env0 args) []) : Ret Tryz.prog 47 args r :=
  Ret.of mixed (at? h47) [] Tryz.func47 rfl Tryz.call47 (by kernel_rfl) (by rw [hn]; exact of_decide_eq_true (by kernel_rfl)) hk

/-! ### octavo/maths.ints: function 48 -/
/-- no loop -/
def h48 : List (List Nat) := [[1], [2]]
theorem r48 {args : List V} {r : V} (hn : args.length = 1) (hk : (∀ a ∈ args, wfV 8 a) → awp Tryz.prog (at? h48) [] (Tryz.f48.body.getD .skip) (finK Tryz.prog Tryz.f48.results.toList r) (env0 args) []) : Ret Tryz.prog 48 args r :=
  Ret.of mixed (at? h48) [] Tryz.func48 rfl Tryz.call48 (by kernel_rfl) (by rw [hn]; exact of_decide_eq_true (by kernel_rfl)) hk

/-! ### octavo/num.Gcd: function 49 -/
/-- no loop -/
def h49 : List (List Nat) := [[0, 1], [0, 1, 9], [4], [0, 1, 11], [4], [4]]
theorem r49 {args : List V} {r : V} (hn : args.length = 2) (hk : (∀ a ∈ args, wfV 8 a) → awp Tryz.prog (at? h49) [] (Tryz.f49.body.getD .skip) (finK Tryz.prog Tryz.f49.results.toList r) (env0 args) []) : Ret Tryz.prog 49 args r :=
  Ret.of mixed (at? h49) [] Tryz.func49 rfl Tryz.call49 (by kernel_rfl) (by rw [hn]; exact of_decide_eq_true (by kernel_rfl)) hk

/-! ### octavo/maths.find$3: function 50 -/
/-- no loop -/
def h50 : List (List Nat) := [[0, 1], [0, 1, 10], [4], [4]]
theorem r50 {args : List V} {r : V} (hn : args.length = 2) (hk : (∀ a ∈ args, wfV 8 a) → awp Tryz.prog (at? h50) [] (Tryz.f50.body.getD .skip) (finK Tryz.prog Tryz.f50.results.toList r) (env0 args) []) : Ret Tryz.prog 50 args r :=
  Ret.of mixed (at? h50) [] Tryz.func50 rfl Tryz.call50 (by kernel_rfl) (by rw [hn]; exact of_decide_eq_true (by kernel_rfl)) hk

/-! ### octavo/maths.find$4: function 51 -/
/-- no loop -/
def h51 : List (List Nat) := [[0, 1], [4]]
theorem r51 {args : List V} {r : V} (hn : args.length = 2) (hk : (∀ a ∈ args, wfV 8 a) → awp Tryz.prog (at? h51) [] (Tryz.f51.body.getD .skip) (finK Tryz.prog Tryz.f51.results.toList r) (env0 args) []) : Ret Tryz.prog 51 args r :=
  Ret.of mixed (at? h51) [] Tryz.func51 rfl Tryz.call51 (by kernel_rfl) (by rw [hn]; exact of_decide_eq_true (by kernel_rfl)) hk

/-! ### octavo/maths.find$5: function 52 -/
/-- no loop -/
def h52 : List (List Nat) := [[0, 1], [4]]
theorem r52 {args : List V} {r : V} (hn : args.length = 2) (hk : (∀ a ∈ args, wfV 8 a) → awp Tryz.prog (at? h52) [] (Tryz.f52.body.getD .skip) (finK Tryz.prog Tryz.f52.results.toList r) (env0 args) []) : Ret Tryz.prog 52 args r :=
  Ret.of mixed (at? h52) [] Tryz.func52 rfl Tryz.call52 (by kernel_rfl) (by rw [hn]; exact of_decide_eq_true (by kernel_rfl)) hk

/-! ### octavo/maths.find$6: function 53 -/
/-- no loop -/
def h53 : List (List Nat) := [[0, 1], [4]]
theorem r53 {args : List V} {r : V} (hn : args.length = 2) (hk : (∀ a ∈ args, wfV 8 a) → awp Tryz.prog (at? h53) [] (Tryz.f53.body.getD .skip) (finK Tryz.prog Tryz.f53.results.toList r) (env0 args) []) : Ret Tryz.prog 53 args r :=
  Ret.of mixed (at? h53) [] Tryz.func53 rfl Tryz.call53 (by kernel_rfl) (by rw [hn]; exact of_decide_eq_true (by kernel_rfl)) hk

/-! ### octavo/maths.find$7: function 54 -/
/-- no loop -/
def h54 : List (List Nat) := [[2], [2]]
theorem r54 {args : List V} {r : V} (hn : args.length = 1) (hk : (∀ a ∈ args, wfV 8 a) → awp Tryz.prog (at? h54) [] (Tryz.f54.body.getD .skip) (finK Tryz.prog Tryz.f54.results.toList r) (env0 args) []) : Ret Tryz.prog 54 args r :=
  Ret.of mixed (at? h54) [] Tryz.func54 rfl Tryz.call54 (by kernel_rfl) (by rw [hn]; exact of_decide_eq_true (by kernel_rfl)) hk

/-! ### octavo/maths.based: function 55 -/
/-- loop [2, 3, 4, 5, 6] -/
def h55 : List (List Nat) := [[0, 2], [2, 3, 4], [2, 3, 4, 22], [2], [2, 3, 4, 5], [2, 3, 4, 5, 6], [2, 3, 4, 5, 28], [2, 3, 4, 5, 6], [2, 3, 4, 5], [2, 3, 4, 5], [2]]
theorem r55 {args : List V} {r : V} (hn : args.length = 1) (hk : (∀ a ∈ args, wfV 8 a) → awp Tryz.prog (at? h55) [] (Tryz.f55.body.getD .skip) (finK Tryz.prog Tryz.f55.results.toList r) (env0 args) []) : Ret Tryz.prog 55 args r :=
  Ret.of mixed (at? h55) [] Tryz.func55 rfl Tryz.call55 (by kernel_rfl) (by rw [hn]; exact of_decide_eq_true (by kernel_rfl)) hk

/-! ### octavo/maths.unbased: function 56 -/
/-- loop [2, 8, 9, 62, 63, 64] loop [2, 8, 9, 11, 12, 62, 63, 64, 69, 70] -/
def h56 : List (List Nat) := [[0, 2], [0, 2, 16], [2], [0, 2, 3, 4], [0, 2, 3, 4, 27], [2], [2, 3, 5, 6, 7], [2, 3, 5, 6, 39], [2], [2, 3, 8], [2, 3, 8, 58], [2], [2, 3, 8, 9], [2, 8, 9, 62, 63, 64], [2, 8, 9, 62, 63, 64, 65], [2, 8, 9, 11, 62, 63, 64], [2, 8, 9, 11, 12, 62, 63, 64], [2, 8, 9, 11, 12, 62, 63, 64, 69, 70], [2, 8, 9, 11, 12, 62, 63, 64, 69, 70, 71], [2, 8, 9, 11, 12, 13, 62, 63, 64, 69, 70], [2, 8, 9, 11, 12, 13, 62, 63, 64, 69, 70, 76], [2, 8, 9, 11, 12, 62, 63, 64, 69, 70], [2, 8, 9, 11, 12, 62, 63, 64, 69, 70], [2, 8, 9, 12, 62, 63, 64, 81], [2], [2, 8, 9, 62, 63, 64], [2, 8, 9, 62, 63, 64], [2]]
theorem r56 {args : List V} {r : V} (hn : args.length = 1) (hk : (∀ a ∈ args, wfV 8 a) → awp Tryz.prog (at? h56) [] (Tryz.f56.body.getD .skip) (finK Tryz.prog Tryz.f56.results.toList r) (env0 args) []) : Ret Tryz.prog 56 args r :=
  Ret.of mixed (at? h56) [] Tryz.func56 rfl Tryz.call56 (by kernel_rfl) (by rw [hn]; exact of_decide_eq_true (by kernel_rfl)) hk

/-! ### octavo/maths.unary: function 57 -/
/-- no loop -/
def h57 : List (List Nat) := [[0], [3], [3, 4], [2], [3, 7], [2], [3, 10], [3, 10], [2], [3, 14], [2], [3, 17], [2], [3, 20], [2], [3, 23], [2], [3, 26], [2], [3, 29], [2], [32], [2], [2]]
theorem r57 {args : List V} {r : V} (hn : args.length = 1) (hk : (∀ a ∈ args, wfV 8 a) → awp Tryz.prog (at? h57) [] (Tryz.f57.body.getD .skip) (finK Tryz.prog Tryz.f57.results.toList r) (env0 args) []) : Ret Tryz.prog 57 args r :=
  Ret.of mixed (at? h57) [] Tryz.func57 rfl Tryz.call57 (by kernel_rfl) (by rw [hn]; exact of_decide_eq_true (by kernel_rfl)) hk

/-! ### octavo/value.own: function 58 -/
/-- no loop -/
def h58 : List (List Nat) := [[1], [1, 4], [1, 4, 5], [2], [1, 4, 9], [2], [1, 4, 14], [2], [1, 4, 19], [2], [1, 25], [2], [2]]
theorem r58 {args : List V} {r : V} (hn : args.length = 1) (hk : (∀ a ∈ args, wfV 8 a) → awp Tryz.prog (at? h58) [] (Tryz.f58.body.getD .skip) (finK Tryz.prog Tryz.f58.results.toList r) (env0 args) []) : Ret Tryz.prog 58 args r :=
  Ret.of mixed (at? h58) [] Tryz.func58 rfl Tryz.call58 (by kernel_rfl) (by rw [hn]; exact of_decide_eq_true (by kernel_rfl)) hk

/-! ### octavo/num.Good: function 59 -/
/-- no loop -/
def h59 : List (List Nat) := [[0], [2]]
theorem r59 {args : List V} {r : V} (hn : args.length = 1) (hk : (∀ a ∈ args, wfV 8 a) → awp Tryz.prog (at? h59) [] (Tryz.f59.body.getD .skip) (finK Tryz.prog Tryz.f59.results.toList r) (env0 args) []) : Ret Tryz.prog 59 args r :=
  Ret.of mixed (at? h59) [] Tryz.func59 rfl Tryz.call59 (by kernel_rfl) (by rw [hn]; exact of_decide_eq_true (by kernel_rfl)) hk

/-! ### octavo/maths.rounds$1: function 73 -/
/-- no loop -/
def h73 : List (List Nat) := [[0, 1, 3], [3]]
theorem r73 {args : List V} {r : V} (hn : args.length = 2) (hk : (∀ a ∈ args, wfV 8 a) → awp Tryz.prog (at? h73) [] (Tryz.f73.body.getD .skip) (finK Tryz.prog Tryz.f73.results.toList r) (env0 args) []) : Ret Tryz.prog 73 args r :=
  Ret.of mixed (at? h73) [] Tryz.func73 rfl Tryz.call73 (by kernel_rfl) (by rw [hn]; exact of_decide_eq_true (by kernel_rfl)) hk

/-! ### octavo/maths.plain$1: function 74 -/
/-- no loop -/
def h74 : List (List Nat) := [[0, 1, 3], [3]]
theorem r74 {args : List V} {r : V} (hn : args.length = 2) (hk : (∀ a ∈ args, wfV 8 a) → awp Tryz.prog (at? h74) [] (Tryz.f74.body.getD .skip) (finK Tryz.prog Tryz.f74.results.toList r) (env0 args) []) : Ret Tryz.prog 74 args r :=
  Ret.of mixed (at? h74) [] Tryz.func74 rfl Tryz.call74 (by kernel_rfl) (by rw [hn]; exact of_decide_eq_true (by kernel_rfl)) hk

/-! ### octavo/maths.pair$1: function 77 -/
/-- no loop -/
def h77 : List (List Nat) := [[0, 1, 2, 4], [0, 2, 4, 11], [4], [4]]
theorem r77 {args : List V} {r : V} (hn : args.length = 3) (hk : (∀ a ∈ args, wfV 8 a) → awp Tryz.prog (at? h77) [] (Tryz.f77.body.getD .skip) (finK Tryz.prog Tryz.f77.results.toList r) (env0 args) []) : Ret Tryz.prog 77 args r :=
  Ret.of mixed (at? h77) [] Tryz.func77 rfl Tryz.call77 (by kernel_rfl) (by rw [hn]; exact of_decide_eq_true (by kernel_rfl)) hk

/-! ### octavo/num.Whole: function 80 -/
/-- no loop -/
def h80 : List (List Nat) := [[0], [0, 11], [2, 3], [2, 3]]
theorem r80 {args : List V} {r : V} (hn : args.length = 1) (hk : (∀ a ∈ args, wfV 8 a) → awp Tryz.prog (at? h80) [] (Tryz.f80.body.getD .skip) (finK Tryz.prog Tryz.f80.results.toList r) (env0 args) []) : Ret Tryz.prog 80 args r :=
  Ret.of mixed (at? h80) [] Tryz.func80 rfl Tryz.call80 (by kernel_rfl) (by rw [hn]; exact of_decide_eq_true (by kernel_rfl)) hk

/-! ### octavo/maths.of$1: function 84 -/
/-- no loop -/
def h84 : List (List Nat) := [[0, 1, 2, 4], [2, 4, 5, 6, 7], [2, 4, 5, 6, 16], [4], [4]]
theorem r84 {args : List V} {r : V} (hn : args.length = 3) (hk : (∀ a ∈ args, wfV 8 a) → awp Tryz.prog (at? h84) [] (Tryz.f84.body.getD .skip) (finK Tryz.prog Tryz.f84.results.toList r) (env0 args) []) : Ret Tryz.prog 84 args r :=
  Ret.of mixed (at? h84) [] Tryz.func84 rfl Tryz.call84 (by kernel_rfl) (by rw [hn]; exact of_decide_eq_true (by kernel_rfl)) hk

/-! ### octavo/maths.numbers: function 85 -/
/-- loop [1, 5, 7, 20, 21, 22] -/
def h85 : List (List Nat) := [[0, 1, 5], [0, 1, 5, 18], [4, 5, 6], [0, 1, 5, 7], [1, 5, 7, 20, 21, 22], [1, 5, 7, 20, 21, 22, 23], [1, 5, 7, 8, 9, 20, 21, 22], [1, 5, 7, 8, 10, 11, 20, 21, 22], [1, 5, 7, 8, 10, 11, 20, 21, 22, 34], [4, 5, 6], [1, 5, 7, 10, 20, 21, 22, 40], [1, 5, 7, 12, 13, 20, 21, 22], [1, 5, 7, 12, 20, 21, 22, 47], [4, 5, 6], [1, 5, 7, 10, 20, 21, 22], [1, 5, 7, 20, 21, 22], [1, 5, 7, 20, 21, 22], [4, 5, 6]]
theorem r85 {args : List V} {r : V} (hn : args.length = 2) (hk : (∀ a ∈ args, wfV 8 a) → awp Tryz.prog (at? h85) [] (Tryz.f85.body.getD .skip) (finK Tryz.prog Tryz.f85.results.toList r) (env0 args) []) : Ret Tryz.prog 85 args r :=
  Ret.of mixed (at? h85) [] Tryz.func85 rfl Tryz.call85 (by kernel_rfl) (by rw [hn]; exact of_decide_eq_true (by kernel_rfl)) hk

/-! ### octavo/maths.ints$1: function 87 -/
/-- no loop -/
def h87 : List (List Nat) := [[0, 1, 3], [0, 1, 3, 11], [3], [3]]
theorem r87 {args : List V} {r : V} (hn : args.length = 2) (hk : (∀ a ∈ args, wfV 8 a) → awp Tryz.prog (at? h87) [] (Tryz.f87.body.getD .skip) (finK Tryz.prog Tryz.f87.results.toList r) (env0 args) []) : Ret Tryz.prog 87 args r :=
  Ret.of mixed (at? h87) [] Tryz.func87 rfl Tryz.call87 (by kernel_rfl) (by rw [hn]; exact of_decide_eq_true (by kernel_rfl)) hk

/-! ### octavo/maths.whole: function 88 -/
/-- no loop -/
def h88 : List (List Nat) := [[0, 2], [0, 2, 7], [2], [2]]
theorem r88 {args : List V} {r : V} (hn : args.length = 1) (hk : (∀ a ∈ args, wfV 8 a) → awp Tryz.prog (at? h88) [] (Tryz.f88.body.getD .skip) (finK Tryz.prog Tryz.f88.results.toList r) (env0 args) []) : Ret Tryz.prog 88 args r :=
  Ret.of mixed (at? h88) [] Tryz.func88 rfl Tryz.call88 (by kernel_rfl) (by rw [hn]; exact of_decide_eq_true (by kernel_rfl)) hk

/-! ### octavo/value.ToText: function 90 -/
/-- no loop -/
def h90 : List (List Nat) := [[1], [1, 4, 5], [1, 4, 12], [2, 3], [2, 3]]
theorem r90 {args : List V} {r : V} (hn : args.length = 1) (hk : (∀ a ∈ args, wfV 8 a) → awp Tryz.prog (at? h90) [] (Tryz.f90.body.getD .skip) (finK Tryz.prog Tryz.f90.results.toList r) (env0 args) []) : Ret Tryz.prog 90 args r :=
  Ret.of mixed (at? h90) [] Tryz.func90 rfl Tryz.call90 (by kernel_rfl) (by rw [hn]; exact of_decide_eq_true (by kernel_rfl)) hk

/-! ### octavo/value.Upper: function 91 -/
/-- no loop -/
def h91 : List (List Nat) := [[0], [2]]
theorem r91 {args : List V} {r : V} (hn : args.length = 1) (hk : (∀ a ∈ args, wfV 8 a) → awp Tryz.prog (at? h91) [] (Tryz.f91.body.getD .skip) (finK Tryz.prog Tryz.f91.results.toList r) (env0 args) []) : Ret Tryz.prog 91 args r :=
  Ret.of mixed (at? h91) [] Tryz.func91 rfl Tryz.call91 (by kernel_rfl) (by rw [hn]; exact of_decide_eq_true (by kernel_rfl)) hk

/-! ### octavo/maths.unary$1: function 92 -/
/-- no loop -/
def h92 : List (List Nat) := [[0], [2, 3]]
theorem r92 {args : List V} {r : V} (hn : args.length = 1) (hk : (∀ a ∈ args, wfV 8 a) → awp Tryz.prog (at? h92) [] (Tryz.f92.body.getD .skip) (finK Tryz.prog Tryz.f92.results.toList r) (env0 args) []) : Ret Tryz.prog 92 args r :=
  Ret.of mixed (at? h92) [] Tryz.func92 rfl Tryz.call92 (by kernel_rfl) (by rw [hn]; exact of_decide_eq_true (by kernel_rfl)) hk

/-! ### octavo/maths.unary$2: function 93 -/
/-- no loop -/
def h93 : List (List Nat) := [[0], [2, 3]]
theorem r93 {args : List V} {r : V} (hn : args.length = 1) (hk : (∀ a ∈ args, wfV 8 a) → awp Tryz.prog (at? h93) [] (Tryz.f93.body.getD .skip) (finK Tryz.prog Tryz.f93.results.toList r) (env0 args) []) : Ret Tryz.prog 93 args r :=
  Ret.of mixed (at? h93) [] Tryz.func93 rfl Tryz.call93 (by kernel_rfl) (by rw [hn]; exact of_decide_eq_true (by kernel_rfl)) hk

/-! ### octavo/maths.unary$3: function 94 -/
/-- no loop -/
def h94 : List (List Nat) := [[0], [2, 3]]
theorem r94 {args : List V} {r : V} (hn : args.length = 1) (hk : (∀ a ∈ args, wfV 8 a) → awp Tryz.prog (at? h94) [] (Tryz.f94.body.getD .skip) (finK Tryz.prog Tryz.f94.results.toList r) (env0 args) []) : Ret Tryz.prog 94 args r :=
  Ret.of mixed (at? h94) [] Tryz.func94 rfl Tryz.call94 (by kernel_rfl) (by rw [hn]; exact of_decide_eq_true (by kernel_rfl)) hk

/-! ### octavo/maths.unary$4: function 95 -/
/-- no loop -/
def h95 : List (List Nat) := [[0], [2, 3]]
theorem r95 {args : List V} {r : V} (hn : args.length = 1) (hk : (∀ a ∈ args, wfV 8 a) → awp Tryz.prog (at? h95) [] (Tryz.f95.body.getD .skip) (finK Tryz.prog Tryz.f95.results.toList r) (env0 args) []) : Ret Tryz.prog 95 args r :=
  Ret.of mixed (at? h95) [] Tryz.func95 rfl Tryz.call95 (by kernel_rfl) (by rw [hn]; exact of_decide_eq_true (by kernel_rfl)) hk

/-! ### octavo/maths.evens: function 96 -/
/-- no loop -/
def h96 : List (List Nat) := [[1], [2]]
theorem r96 {args : List V} {r : V} (hn : args.length = 1) (hk : (∀ a ∈ args, wfV 8 a) → awp Tryz.prog (at? h96) [] (Tryz.f96.body.getD .skip) (finK Tryz.prog Tryz.f96.results.toList r) (env0 args) []) : Ret Tryz.prog 96 args r :=
  Ret.of mixed (at? h96) [] Tryz.func96 rfl Tryz.call96 (by kernel_rfl) (by rw [hn]; exact of_decide_eq_true (by kernel_rfl)) hk

/-! ### octavo/num.Sqrt: function 97 -/
/-- loop [4, 5, 6] -/
def h97 : List (List Nat) := [[0], [0, 14], [2, 3], [4], [4, 5, 6], [4, 5, 6, 20], [4, 5, 6, 7], [4, 5, 6, 7, 29], [4, 5, 6], [4, 5, 6], [2, 3]]
theorem r97 {args : List V} {r : V} (hn : args.length = 1) (hk : (∀ a ∈ args, wfV 8 a) → awp Tryz.prog (at? h97) [] (Tryz.f97.body.getD .skip) (finK Tryz.prog Tryz.f97.results.toList r) (env0 args) []) : Ret Tryz.prog 97 args r :=
  Ret.of mixed (at? h97) [] Tryz.func97 rfl Tryz.call97 (by kernel_rfl) (by rw [hn]; exact of_decide_eq_true (by kernel_rfl)) hk

/-! ### octavo/maths.parity: function 98 -/
/-- no loop -/
def h98 : List (List Nat) := [[1], [2]]
theorem r98 {args : List V} {r : V} (hn : args.length = 1) (hk : (∀ a ∈ args, wfV 8 a) → awp Tryz.prog (at? h98) [] (Tryz.f98.body.getD .skip) (finK Tryz.prog Tryz.f98.results.toList r) (env0 args) []) : Ret Tryz.prog 98 args r :=
  Ret.of mixed (at? h98) [] Tryz.func98 rfl Tryz.call98 (by kernel_rfl) (by rw [hn]; exact of_decide_eq_true (by kernel_rfl)) hk

/-! ### octavo/maths.unary$5: function 99 -/
/-- no loop -/
def h99 : List (List Nat) := [[0, 2], [2]]
theorem r99 {args : List V} {r : V} (hn : args.length = 1) (hk : (∀ a ∈ args, wfV 8 a) → awp Tryz.prog (at? h99) [] (Tryz.f99.body.getD .skip) (finK Tryz.prog Tryz.f99.results.toList r) (env0 args) []) : Ret Tryz.prog 99 args r :=
  Ret.of mixed (at? h99) [] Tryz.func99 rfl Tryz.call99 (by kernel_rfl) (by rw [hn]; exact of_decide_eq_true (by kernel_rfl)) hk

/-! ### octavo/num.Fact: function 100 -/
/-- loop [4, 12, 13] -/
def h100 : List (List Nat) := [[0], [0, 11], [2, 3], [0, 4], [4, 12, 13], [4, 12, 13, 14], [4, 5, 12, 13], [4, 12, 13], [4, 12, 13], [2, 3]]
theorem r100 {args : List V} {r : V} (hn : args.length = 1) (hk : (∀ a ∈ args, wfV 8 a) → awp Tryz.prog (at? h100) [] (Tryz.f100.body.getD .skip) (finK Tryz.prog Tryz.f100.results.toList r) (env0 args) []) : Ret Tryz.prog 100 args r :=
  Ret.of mixed (at? h100) [] Tryz.func100 rfl Tryz.call100 (by kernel_rfl) (by rw [hn]; exact of_decide_eq_true (by kernel_rfl)) hk

/-! ### octavo/value.ToNum: function 115 -/
/-- no loop -/
def h115 : List (List Nat) := [[1], [12], [12, 14, 15], [], [2, 3], [12, 17, 18], [5], [2, 3], [12, 21, 22], [6], [23], [2, 3], [2, 3], [12, 25, 26], [7], [8, 9], [8, 32], [2, 3], [35, 36], [10], [2, 3], [2, 3]]
theorem r115 {args : List V} {r : V} (hn : args.length = 1) (hk : (∀ a ∈ args, wfV 8 a) → awp Tryz.prog (at? h115) [] (Tryz.f115.body.getD .skip) (finK Tryz.prog Tryz.f115.results.toList r) (env0 args) []) : Ret Tryz.prog 115 args r :=
  Ret.of mixed (at? h115) [] Tryz.func115 rfl Tryz.call115 (by kernel_rfl) (by rw [hn]; exact of_decide_eq_true (by kernel_rfl)) hk

/-! ### octavo/maths.evens$1: function 119 -/
/-- no loop -/
def h119 : List (List Nat) := [[0, 1], [0, 1, 5], [0, 1, 5], [0, 5, 19], [0, 5], [5, 23], [5], [3, 4]]
theorem r119 {args : List V} {r : V} (hn : args.length = 2) (hk : (∀ a ∈ args, wfV 8 a) → awp Tryz.prog (at? h119) [] (Tryz.f119.body.getD .skip) (finK Tryz.prog Tryz.f119.results.toList r) (env0 args) []) : Ret Tryz.prog 119 args r :=
  Ret.of mixed (at? h119) [] Tryz.func119 rfl Tryz.call119 (by kernel_rfl) (by rw [hn]; exact of_decide_eq_true (by kernel_rfl)) hk

/-! ### octavo/maths.parity$1: function 120 -/
/-- no loop -/
def h120 : List (List Nat) := [[0, 1, 3], [3]]
theorem r120 {args : List V} {r : V} (hn : args.length = 2) (hk : (∀ a ∈ args, wfV 8 a) → awp Tryz.prog (at? h120) [] (Tryz.f120.body.getD .skip) (finK Tryz.prog Tryz.f120.results.toList r) (env0 args) []) : Ret Tryz.prog 120 args r :=
  Ret.of mixed (at? h120) [] Tryz.func120 rfl Tryz.call120 (by kernel_rfl) (by rw [hn]; exact of_decide_eq_true (by kernel_rfl)) hk

/-! ### octavo/maths.truth: function 121 -/
/-- no loop -/
def h121 : List (List Nat) := [[0, 2], [0, 2, 3], [2, 3, 5], [2, 3], [2]]
theorem r121 {args : List V} {r : V} (hn : args.length = 1) (hk : (∀ a ∈ args, wfV 8 a) → awp Tryz.prog (at? h121) [] (Tryz.f121.body.getD .skip) (finK Tryz.prog Tryz.f121.results.toList r) (env0 args) []) : Ret Tryz.prog 121 args r :=
  Ret.of mixed (at? h121) [] Tryz.func121 rfl Tryz.call121 (by kernel_rfl) (by rw [hn]; exact of_decide_eq_true (by kernel_rfl)) hk
abbrev F_octavolaw17_MathsFaults : FuncId := 3
abbrev r_octavolaw17_MathsFaults := @r3
abbrev F_octavolaw17_light : FuncId := 9
abbrev r_octavolaw17_light := @r9
abbrev F_octavolaw17_lives : FuncId := 10
abbrev r_octavolaw17_lives := @r10
abbrev F_maths_Call : FuncId := 11
abbrev r_maths_Call := @r11
abbrev F_octavoref06_Good : FuncId := 12
abbrev r_octavoref06_Good := @r12
abbrev F_maths_Good : FuncId := 13
abbrev r_maths_Good := @r13
abbrev F_maths_One : FuncId := 15
abbrev r_maths_One := @r15
abbrev F_octavolaw17_ask : FuncId := 17
abbrev r_octavolaw17_ask := @r17
abbrev F_octavolaw17_number : FuncId := 18
abbrev r_octavolaw17_number := @r18
abbrev F_octavolaw17_one : FuncId := 19
abbrev r_octavolaw17_one := @r19
abbrev F_maths_find : FuncId := 23
abbrev r_maths_find := @r23
abbrev F_octavoref05_Good : FuncId := 24
abbrev r_octavoref05_Good := @r24
abbrev F_value_Good : FuncId := 25
abbrev r_value_Good := @r25
abbrev F_value_Bad : FuncId := 26
abbrev r_value_Bad := @r26
abbrev F_maths_rounds : FuncId := 35
abbrev r_maths_rounds := @r35
abbrev F_maths_find_1 : FuncId := 36
abbrev r_maths_find_1 := @r36
abbrev F_maths_plain : FuncId := 37
abbrev r_maths_plain := @r37
abbrev F_maths_find_1_1 : FuncId := 38
abbrev r_maths_find_1_1 := @r38
abbrev F_num_Round : FuncId := 39
abbrev r_num_Round := @r39
abbrev F_maths_pair : FuncId := 40
abbrev r_maths_pair := @r40
abbrev F_num_Mod : FuncId := 41
abbrev r_num_Mod := @r41
abbrev F_num_Quo : FuncId := 42
abbrev r_num_Quo := @r42
abbrev F_num_Pow : FuncId := 43
abbrev r_num_Pow := @r43
abbrev F_maths_of : FuncId := 44
abbrev r_maths_of := @r44
abbrev F_maths_find_2 : FuncId := 45
abbrev r_maths_find_2 := @r45
abbrev F_value_Of : FuncId := 46
abbrev r_value_Of := @r46
abbrev F_num_Comb : FuncId := 47
abbrev r_num_Comb := @r47
abbrev F_maths_ints : FuncId := 48
abbrev r_maths_ints := @r48
abbrev F_num_Gcd : FuncId := 49
abbrev r_num_Gcd := @r49
abbrev F_maths_find_3 : FuncId := 50
abbrev r_maths_find_3 := @r50
abbrev F_maths_find_4 : FuncId := 51
abbrev r_maths_find_4 := @r51
abbrev F_maths_find_5 : FuncId := 52
abbrev r_maths_find_5 := @r52
abbrev F_maths_find_6 : FuncId := 53
abbrev r_maths_find_6 := @r53
abbrev F_maths_find_7 : FuncId := 54
abbrev r_maths_find_7 := @r54
abbrev F_maths_based : FuncId := 55
abbrev r_maths_based := @r55
abbrev F_maths_unbased : FuncId := 56
abbrev r_maths_unbased := @r56
abbrev F_maths_unary : FuncId := 57
abbrev r_maths_unary := @r57
abbrev F_value_own : FuncId := 58
abbrev r_value_own := @r58
abbrev F_num_Good : FuncId := 59
abbrev r_num_Good := @r59
abbrev F_maths_rounds_1 : FuncId := 73
abbrev r_maths_rounds_1 := @r73
abbrev F_maths_plain_1 : FuncId := 74
abbrev r_maths_plain_1 := @r74
abbrev F_maths_pair_1 : FuncId := 77
abbrev r_maths_pair_1 := @r77
abbrev F_num_Whole : FuncId := 80
abbrev r_num_Whole := @r80
abbrev F_maths_of_1 : FuncId := 84
abbrev r_maths_of_1 := @r84
abbrev F_maths_numbers : FuncId := 85
abbrev r_maths_numbers := @r85
abbrev F_maths_ints_1 : FuncId := 87
abbrev r_maths_ints_1 := @r87
abbrev F_maths_whole : FuncId := 88
abbrev r_maths_whole := @r88
abbrev F_value_ToText : FuncId := 90
abbrev r_value_ToText := @r90
abbrev F_value_Upper : FuncId := 91
abbrev r_value_Upper := @r91
abbrev F_maths_unary_1 : FuncId := 92
abbrev r_maths_unary_1 := @r92
abbrev F_maths_unary_2 : FuncId := 93
abbrev r_maths_unary_2 := @r93
abbrev F_maths_unary_3 : FuncId := 94
abbrev r_maths_unary_3 := @r94
abbrev F_maths_unary_4 : FuncId := 95
abbrev r_maths_unary_4 := @r95
abbrev F_maths_evens : FuncId := 96
abbrev r_maths_evens := @r96
abbrev F_num_Sqrt : FuncId := 97
abbrev r_num_Sqrt := @r97
abbrev F_maths_parity : FuncId := 98
abbrev r_maths_parity := @r98
abbrev F_maths_unary_5 : FuncId := 99
abbrev r_maths_unary_5 := @r99
abbrev F_num_Fact : FuncId := 100
abbrev r_num_Fact := @r100
abbrev F_value_ToNum : FuncId := 115
abbrev r_value_ToNum := @r115
abbrev F_maths_evens_1 : FuncId := 119
abbrev r_maths_evens_1 := @r119
abbrev F_maths_parity_1 : FuncId := 120
abbrev r_maths_parity_1 := @r120
abbrev F_maths_truth : FuncId := 121
abbrev r_maths_truth := @r121
end Go.Proofs.YtnpcmgajplikbaaGreatDoor.R
