-- PRINTED (bridge.py)
import Derived.Test.YtkkfclpodgagdaaCore1
import Derived.Test.YtkkfclpodgagdaaPx
namespace Go.Proofs.Ytkkfclpodgagdaa
open Go.Proofs.Ytkkfclpodgagdaa.P Go.Proofs.Ytkkfclpodgagdaa.Ab Go.RowKit Go.Proofs.YtkkfclpodgagdaaW.PrintWords Go.Proofs.YtkkfclpodgagdaaW.PrintLast
set_option linter.all false
set_option maxRecDepth 20000
theorem c_num_Parse (a0 : ByteArray) (r1 : Int) (r2 : Bool) (h : Ev (fun k => num_Parse.f k a0) (r1, r2)) (o0 : IntKind.i64.wrap r1 = r1) : Ret Try.prog 53 [.str a0] (.tup [.int .i64 r1, .bool r2]) := by
 obtain ⟨k, hk⟩ := h.rounds
 exact Ret.calls (vs := [.string a0]) Try.call53 ⟨same_str _, True.intro⟩ (fits_tup (xs := [.int .i64 r1, .bool r2]) ⟨fits_int o0, ⟨fits_bool _, True.intro⟩⟩) (fun w => (num_Parse.calls k a0 r1 r2 w hk).mono fun e w' q => ⟨q.1, q.2⟩)
theorem c_value_Upper (a0 : ByteArray) (r : ByteArray) (h : value_Upper.f a0 = some r) (o0 : r.size ≤ 9223372036854775807) : Ret Try.prog 30 [.str a0] (.str r) := by
 exact Ret.calls (vs := [.string a0]) Try.call30 ⟨same_str _, True.intro⟩ (fits_str o0) (fun w => (value_Upper.calls a0 r w h).mono fun e w' q => ⟨q.1, q.2⟩)
theorem c_value_Cmp (a0_0 : Int) (a0_1 : Int) (a0_2 : ByteArray) (a1_0 : Int) (a1_1 : Int) (a1_2 : ByteArray) (r : Int) (h : Ev (fun k => value_Cmp.f k a0_0 a0_1 a0_2 a1_0 a1_1 a1_2) r) (o0 : IntKind.i64.wrap r = r) : Ret Try.prog 48 [.agg [.int .i64 a0_0, .int .i64 a0_1, .str a0_2], .agg [.int .i64 a1_0, .int .i64 a1_1, .str a1_2]] (.int .i64 r) := by
 obtain ⟨k, hk⟩ := h.rounds
 exact Ret.calls (vs := [.agg #[.int .i64 a0_0, .int .i64 a0_1, .string a0_2], .agg #[.int .i64 a1_0, .int .i64 a1_1, .string a1_2]]) Try.call48 ⟨same_agg (xs := [.int .i64 a0_0, .int .i64 a0_1, .string a0_2]) ⟨same_int _ _, ⟨same_int _ _, ⟨same_str _, True.intro⟩⟩⟩, ⟨same_agg (xs := [.int .i64 a1_0, .int .i64 a1_1, .string a1_2]) ⟨same_int _ _, ⟨same_int _ _, ⟨same_str _, True.intro⟩⟩⟩, True.intro⟩⟩ (fits_int o0) (fun w => (value_Cmp.calls k a0_0 a0_1 a0_2 a1_0 a1_1 a1_2 r w hk).mono fun e w' q => ⟨q.1, q.2⟩)
theorem c_value_word (a0 : ByteArray) (r1 : Bool) (r2 : Bool) (h : value_word.f a0 = some (r1, r2))  : Ret Try.prog 50 [.str a0] (.tup [.bool r1, .bool r2]) := by
 exact Ret.calls (vs := [.string a0]) Try.call50 ⟨same_str _, True.intro⟩ (fits_tup (xs := [.bool r1, .bool r2]) ⟨fits_bool _, ⟨fits_bool _, True.intro⟩⟩) (fun w => (value_word.calls a0 r1 r2 w h).mono fun e w' q => ⟨q.1, q.2⟩)
end Go.Proofs.Ytkkfclpodgagdaa
