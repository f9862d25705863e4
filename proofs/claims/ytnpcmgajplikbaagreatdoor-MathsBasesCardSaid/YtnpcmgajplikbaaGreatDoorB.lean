-- PRINTED (bridge.py)
import Derived.Test.YtnpcmgajplikbaaGreatDoorCore1
import Derived.Test.YtnpcmgajplikbaaGreatDoorPx
namespace Go.Proofs.YtnpcmgajplikbaaGreatDoor
open Go.Proofs.YtnpcmgajplikbaaGreatDoor.P Go.Proofs.YtnpcmgajplikbaaGreatDoor.Ab Go.RowKit Go.Proofs.YtnpcmgajplikbaaGreatDoorW.PrintWords Go.Proofs.YtnpcmgajplikbaaGreatDoorW.PrintLast
set_option linter.all false
set_option maxRecDepth 20000
theorem c_num_Round (a0 : Int) (a1 : Int) (a2 : Int) (r1 : Int) (r2 : Bool) (h : Ev (fun k => num_Round.f k a0 a1 a2) (r1, r2)) (o0 : IntKind.i64.wrap r1 = r1) : Ret Tryz.prog 39 [.int .i64 a0, .int .i64 a1, .int .i64 a2] (.tup [.int .i64 r1, .bool r2]) := by
  obtain ⟨k, hk⟩ := h.rounds
  exact Ret.calls (vs := [.int .i64 a0, .int .i64 a1, .int .i64 a2]) Tryz.call39 ⟨same_int _ _, ⟨same_int _ _, ⟨same_int _ _, True.intro⟩⟩⟩ (fits_tup (xs := [.int .i64 r1, .bool r2]) ⟨fits_int o0, ⟨fits_bool _, True.intro⟩⟩) (fun w => (num_Round.calls k a0 a1 a2 r1 r2 w hk).mono fun e w' q => ⟨q.1, q.2.below⟩)
theorem c_value_ToNum (a0_0 : Int) (a0_1 : Int) (a0_2 : ByteArray) (r1 : Int) (r2 : Int) (h : Ev (fun k => value_ToNum.f k a0_0 a0_1 a0_2) (r1, r2)) (o0 : IntKind.i64.wrap r1 = r1) (o1 : IntKind.i64.wrap r2 = r2) : Ret Tryz.prog 115 [.agg [.int .i64 a0_0, .int .i64 a0_1, .str a0_2]] (.tup [.int .i64 r1, .int .i64 r2]) := by
  obtain ⟨k, hk⟩ := h.rounds
  exact Ret.calls (vs := [.agg #[.int .i64 a0_0, .int .i64 a0_1, .string a0_2]]) Tryz.call115 ⟨same_agg (xs := [.int .i64 a0_0, .int .i64 a0_1, .string a0_2]) ⟨same_int _ _, ⟨same_int _ _, ⟨same_str _, True.intro⟩⟩⟩, True.intro⟩ (fits_tup (xs := [.int .i64 r1, .int .i64 r2]) ⟨fits_int o0, ⟨fits_int o1, True.intro⟩⟩) (fun w => (value_ToNum.calls k a0_0 a0_1 a0_2 r1 r2 w hk).mono fun e w' q => ⟨q.1, q.2⟩)
theorem c_value_ToText (a0_0 : Int) (a0_1 : Int) (a0_2 : ByteArray) (r1 : ByteArray) (r2 : Int) (h : Ev (fun k => value_ToText.f k a0_0 a0_1 a0_2) (r1, r2)) (o0 : r1.size ≤ 9223372036854775807) (o1 : IntKind.i64.wrap r2 = r2) : Ret Tryz.prog 90 [.agg [.int .i64 a0_0, .int .i64 a0_1, .str a0_2]] (.tup [.str r1, .int .i64 r2]) := by
  obtain ⟨k, hk⟩ := h.rounds
  exact Ret.calls (vs := [.agg #[.int .i64 a0_0, .int .i64 a0_1, .string a0_2]]) Tryz.call90 ⟨same_agg (xs := [.int .i64 a0_0, .int .i64 a0_1, .string a0_2]) ⟨same_int _ _, ⟨same_int _ _, ⟨same_str _, True.intro⟩⟩⟩, True.intro⟩ (fits_tup (xs := [.string r1, .int .i64 r2]) ⟨fits_str o0, ⟨fits_int o1, True.intro⟩⟩) (fun w => (value_ToText.calls k a0_0 a0_1 a0_2 r1 r2 w hk).mono fun e w' q => ⟨q.1, q.2⟩)
theorem c_value_Upper (a0 : ByteArray) (r : ByteArray) (h : value_Upper.f a0 = some r) (o0 : r.size ≤ 9223372036854775807) : Ret Tryz.prog 91 [.str a0] (.str r) := by
  exact Ret.calls (vs := [.string a0]) Tryz.call91 ⟨same_str _, True.intro⟩ (fits_str o0) (fun w => (value_Upper.calls a0 r w h).mono fun e w' q => ⟨q.1, q.2⟩)
end Go.Proofs.YtnpcmgajplikbaaGreatDoor
