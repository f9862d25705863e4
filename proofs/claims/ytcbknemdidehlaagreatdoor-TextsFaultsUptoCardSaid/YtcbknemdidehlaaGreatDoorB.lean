-- PRINTED (bridge.py)
import Derived.Test.YtcbknemdidehlaaGreatDoorCore2
import Derived.Test.YtcbknemdidehlaaGreatDoorPx
namespace Go.Proofs.YtcbknemdidehlaaGreatDoor
open Go.Proofs.YtcbknemdidehlaaGreatDoor.P Go.Proofs.YtcbknemdidehlaaGreatDoor.Ab Go.RowKit Go.Proofs.YtcbknemdidehlaaGreatDoorW.PrintWords Go.Proofs.YtcbknemdidehlaaGreatDoorW.PrintLast
set_option linter.all false
set_option maxRecDepth 20000
theorem c_strings_Cut (a0 : ByteArray) (a1 : ByteArray) (r1 : ByteArray) (r2 : ByteArray) (r3 : Bool) (h : Ev (fun k => strings_Cut.f k a0 a1) (r1, r2, r3)) (o0 : r1.size ≤ 9223372036854775807) (o1 : r2.size ≤ 9223372036854775807) : Ret Tryz.prog 140 [.str a0, .str a1] (.tup [.str r1, .str r2, .bool r3]) := by
 obtain ⟨k, hk⟩ := h.rounds
 exact Ret.calls (vs := [.string a0, .string a1]) Tryz.call140 ⟨same_str _, ⟨same_str _, True.intro⟩⟩ (fits_tup (xs := [.string r1, .string r2, .bool r3]) ⟨fits_str o0, ⟨fits_str o1, ⟨fits_bool _, True.intro⟩⟩⟩) (fun w => (strings_Cut.calls k a0 a1 r1 r2 r3 w hk).mono fun e w' q => ⟨q.1, q.2.below⟩)
theorem c_num_Parse (a0 : ByteArray) (r1 : Int) (r2 : Bool) (h : Ev (fun k => num_Parse.f k a0) (r1, r2)) (o0 : IntKind.i64.wrap r1 = r1) : Ret Tryz.prog 115 [.str a0] (.tup [.int .i64 r1, .bool r2]) := by
 obtain ⟨k, hk⟩ := h.rounds
 exact Ret.calls (vs := [.string a0]) Tryz.call115 ⟨same_str _, True.intro⟩ (fits_tup (xs := [.int .i64 r1, .bool r2]) ⟨fits_int o0, ⟨fits_bool _, True.intro⟩⟩) (fun w => (num_Parse.calls k a0 r1 r2 w hk).mono fun e w' q => ⟨q.1, q.2⟩)
theorem c_num_Print (a0 : Int) (r : ByteArray) (h : Ev (fun k => num_Print.f k a0) r) (o0 : r.size ≤ 9223372036854775807) : Ret Tryz.prog 141 [.int .i64 a0] (.str r) := by
 obtain ⟨k, hk⟩ := h.rounds
 exact Ret.calls (vs := [.int .i64 a0]) Tryz.call141 ⟨same_int _ _, True.intro⟩ (fits_str o0) (fun w => (num_Print.calls k a0 r w hk).mono fun e w' q => ⟨q.1, q.2⟩)
theorem c_num_Round (a0 : Int) (a1 : Int) (a2 : Int) (r1 : Int) (r2 : Bool) (h : Ev (fun k => num_Round.f k a0 a1 a2) (r1, r2)) (o0 : IntKind.i64.wrap r1 = r1) : Ret Tryz.prog 139 [.int .i64 a0, .int .i64 a1, .int .i64 a2] (.tup [.int .i64 r1, .bool r2]) := by
 obtain ⟨k, hk⟩ := h.rounds
 exact Ret.calls (vs := [.int .i64 a0, .int .i64 a1, .int .i64 a2]) Tryz.call139 ⟨same_int _ _, ⟨same_int _ _, ⟨same_int _ _, True.intro⟩⟩⟩ (fits_tup (xs := [.int .i64 r1, .bool r2]) ⟨fits_int o0, ⟨fits_bool _, True.intro⟩⟩) (fun w => (num_Round.calls k a0 a1 a2 r1 r2 w hk).mono fun e w' q => ⟨q.1, q.2.below⟩)
theorem c_strings_HasPrefix (a0 : ByteArray) (a1 : ByteArray) (r : Bool) (h : strings_HasPrefix.f a0 a1 = some r)  : Ret Tryz.prog 102 [.str a0, .str a1] (.bool r) := by
 exact Ret.calls (vs := [.string a0, .string a1]) Tryz.call102 ⟨same_str _, ⟨same_str _, True.intro⟩⟩ (fits_bool _) (fun w => (strings_HasPrefix.calls a0 a1 r w h).mono fun e w' q => ⟨q.1, q.2.below⟩)
theorem c_value_Lower (a0 : ByteArray) (r : ByteArray) (h : value_Lower.f a0 = some r) (o0 : r.size ≤ 9223372036854775807) : Ret Tryz.prog 50 [.str a0] (.str r) := by
 exact Ret.calls (vs := [.string a0]) Tryz.call50 ⟨same_str _, True.intro⟩ (fits_str o0) (fun w => (value_Lower.calls a0 r w h).mono fun e w' q => ⟨q.1, q.2⟩)
theorem c_value_Upper (a0 : ByteArray) (r : ByteArray) (h : value_Upper.f a0 = some r) (o0 : r.size ≤ 9223372036854775807) : Ret Tryz.prog 49 [.str a0] (.str r) := by
 exact Ret.calls (vs := [.string a0]) Tryz.call49 ⟨same_str _, True.intro⟩ (fits_str o0) (fun w => (value_Upper.calls a0 r w h).mono fun e w' q => ⟨q.1, q.2⟩)
theorem c_value_word (a0 : ByteArray) (r1 : Bool) (r2 : Bool) (h : value_word.f a0 = some (r1, r2))  : Ret Tryz.prog 164 [.str a0] (.tup [.bool r1, .bool r2]) := by
 exact Ret.calls (vs := [.string a0]) Tryz.call164 ⟨same_str _, True.intro⟩ (fits_tup (xs := [.bool r1, .bool r2]) ⟨fits_bool _, ⟨fits_bool _, True.intro⟩⟩) (fun w => (value_word.calls a0 r1 r2 w h).mono fun e w' q => ⟨q.1, q.2⟩)
end Go.Proofs.YtcbknemdidehlaaGreatDoor
