-- PRINTED (bridge.py)
import Derived.Test.YtllceoncpgebpaaGreatDoorCore1
import Derived.Test.YtllceoncpgebpaaGreatDoorPx
namespace Go.Proofs.YtllceoncpgebpaaGreatDoor
open Go.Proofs.YtllceoncpgebpaaGreatDoor.P Go.Proofs.YtllceoncpgebpaaGreatDoor.Ab Go.RowKit Go.Proofs.YtllceoncpgebpaaGreatDoorW.PrintWords Go.Proofs.YtllceoncpgebpaaGreatDoorW.PrintLast
set_option linter.all false
set_option maxRecDepth 20000
theorem c_octavoref07_Print (a0 : Int) (r : ByteArray) (h : Ev (fun k => octavoref07_Print.f k a0) r) (o0 : r.size ≤ 9223372036854775807) : Ret Tryz.prog 75 [.int .i64 a0] (.str r) := by
 obtain ⟨k, hk⟩ := h.rounds
 exact Ret.calls (vs := [.int .i64 a0]) Tryz.call75 ⟨same_int _ _, True.intro⟩ (fits_str o0) (fun w => (octavoref07_Print.calls k a0 r w hk).mono fun e w' q => ⟨q.1, q.2⟩)
theorem c_octavoref07_Week (a0 : Int) (r : Int) (h : Ev (fun k => octavoref07_Week.f k a0) r) (o0 : IntKind.i64.wrap r = r) : Ret Tryz.prog 73 [.int .i64 a0] (.int .i64 r) := by
 obtain ⟨k, hk⟩ := h.rounds
 exact Ret.calls (vs := [.int .i64 a0]) Tryz.call73 ⟨same_int _ _, True.intro⟩ (fits_int o0) (fun w => (octavoref07_Week.calls k a0 r w hk).mono fun e w' q => ⟨q.1, q.2.below⟩)
theorem c_octavoref07_Weekday (a0 : Int) (r : Int) (h : octavoref07_Weekday.f a0 = some r) (o0 : IntKind.i64.wrap r = r) : Ret Tryz.prog 72 [.int .i64 a0] (.int .i64 r) := by
 exact Ret.calls (vs := [.int .i64 a0]) Tryz.call72 ⟨same_int _ _, True.intro⟩ (fits_int o0) (fun w => (octavoref07_Weekday.calls a0 r w h).mono fun e w' q => ⟨q.1, q.2.below⟩)
theorem c_value_word (a0 : ByteArray) (r1 : Bool) (r2 : Bool) (h : value_word.f a0 = some (r1, r2))  : Ret Tryz.prog 79 [.str a0] (.tup [.bool r1, .bool r2]) := by
 exact Ret.calls (vs := [.string a0]) Tryz.call79 ⟨same_str _, True.intro⟩ (fits_tup (xs := [.bool r1, .bool r2]) ⟨fits_bool _, ⟨fits_bool _, True.intro⟩⟩) (fun w => (value_word.calls a0 r1 r2 w h).mono fun e w' q => ⟨q.1, q.2⟩)
theorem c_date_Parts (a0 : Int) (r1 : Int) (r2 : Int) (r3 : Int) (r4 : Bool) (h : Ev (fun k => date_Parts.f k a0) (r1, r2, r3, r4)) (o0 : IntKind.i64.wrap r1 = r1) (o1 : IntKind.i64.wrap r2 = r2) (o2 : IntKind.i64.wrap r3 = r3) : Ret Tryz.prog 121 [.int .i64 a0] (.tup [.int .i64 r1, .int .i64 r2, .int .i64 r3, .bool r4]) := by
 obtain ⟨k, hk⟩ := h.rounds
 exact Ret.calls (vs := [.int .i64 a0]) Tryz.call121 ⟨same_int _ _, True.intro⟩ (fits_tup (xs := [.int .i64 r1, .int .i64 r2, .int .i64 r3, .bool r4]) ⟨fits_int o0, ⟨fits_int o1, ⟨fits_int o2, ⟨fits_bool _, True.intro⟩⟩⟩⟩) (fun w => (date_Parts.calls k a0 r1 r2 r3 r4 w hk).mono fun e w' q => ⟨q.1, q.2.below⟩)
theorem c_date_Months (a0 : Int) (a1 : Int) (a2 : Bool) (r1 : Int) (r2 : Bool) (h : Ev (fun k => date_Months.f k a0 a1 a2) (r1, r2)) (o0 : IntKind.i64.wrap r1 = r1) : Ret Tryz.prog 87 [.int .i64 a0, .int .i64 a1, .bool a2] (.tup [.int .i64 r1, .bool r2]) := by
 obtain ⟨k, hk⟩ := h.rounds
 exact Ret.calls (vs := [.int .i64 a0, .int .i64 a1, .bool a2]) Tryz.call87 ⟨same_int _ _, ⟨same_int _ _, ⟨same_bool _, True.intro⟩⟩⟩ (fits_tup (xs := [.int .i64 r1, .bool r2]) ⟨fits_int o0, ⟨fits_bool _, True.intro⟩⟩) (fun w => (date_Months.calls k a0 a1 a2 r1 r2 w hk).mono fun e w' q => ⟨q.1, q.2⟩)
theorem c_date_Of (a0 : Int) (a1 : Int) (a2 : Int) (r1 : Int) (r2 : Bool) (h : Ev (fun k => date_Of.f k a0 a1 a2) (r1, r2)) (o0 : IntKind.i64.wrap r1 = r1) : Ret Tryz.prog 50 [.int .i64 a0, .int .i64 a1, .int .i64 a2] (.tup [.int .i64 r1, .bool r2]) := by
 obtain ⟨k, hk⟩ := h.rounds
 exact Ret.calls (vs := [.int .i64 a0, .int .i64 a1, .int .i64 a2]) Tryz.call50 ⟨same_int _ _, ⟨same_int _ _, ⟨same_int _ _, True.intro⟩⟩⟩ (fits_tup (xs := [.int .i64 r1, .bool r2]) ⟨fits_int o0, ⟨fits_bool _, True.intro⟩⟩) (fun w => (date_Of.calls k a0 a1 a2 r1 r2 w hk).mono fun e w' q => ⟨q.1, q.2.below⟩)
theorem c_date_Parse (a0 : ByteArray) (r1 : Int) (r2 : Bool) (h : Ev (fun k => date_Parse.f k a0) (r1, r2)) (o0 : IntKind.i64.wrap r1 = r1) : Ret Tryz.prog 57 [.str a0] (.tup [.int .i64 r1, .bool r2]) := by
 obtain ⟨k, hk⟩ := h.rounds
 exact Ret.calls (vs := [.string a0]) Tryz.call57 ⟨same_str _, True.intro⟩ (fits_tup (xs := [.int .i64 r1, .bool r2]) ⟨fits_int o0, ⟨fits_bool _, True.intro⟩⟩) (fun w => (date_Parse.calls k a0 r1 r2 w hk).mono fun e w' q => ⟨q.1, q.2⟩)
theorem c_date_Print (a0 : Int) (r : ByteArray) (h : Ev (fun k => date_Print.f k a0) r) (o0 : r.size ≤ 9223372036854775807) : Ret Tryz.prog 105 [.int .i64 a0] (.str r) := by
 obtain ⟨k, hk⟩ := h.rounds
 exact Ret.calls (vs := [.int .i64 a0]) Tryz.call105 ⟨same_int _ _, True.intro⟩ (fits_str o0) (fun w => (date_Print.calls k a0 r w hk).mono fun e w' q => ⟨q.1, q.2⟩)
theorem c_date_Week (a0 : Int) (r : Int) (h : Ev (fun k => date_Week.f k a0) r) (o0 : IntKind.i64.wrap r = r) : Ret Tryz.prog 102 [.int .i64 a0] (.int .i64 r) := by
 obtain ⟨k, hk⟩ := h.rounds
 exact Ret.calls (vs := [.int .i64 a0]) Tryz.call102 ⟨same_int _ _, True.intro⟩ (fits_int o0) (fun w => (date_Week.calls k a0 r w hk).mono fun e w' q => ⟨q.1, q.2.below⟩)
theorem c_date_Weekday (a0 : Int) (r : Int) (h : date_Weekday.f a0 = some r) (o0 : IntKind.i64.wrap r = r) : Ret Tryz.prog 100 [.int .i64 a0] (.int .i64 r) := by
 exact Ret.calls (vs := [.int .i64 a0]) Tryz.call100 ⟨same_int _ _, True.intro⟩ (fits_int o0) (fun w => (date_Weekday.calls a0 r w h).mono fun e w' q => ⟨q.1, q.2.below⟩)
theorem c_num_Parse (a0 : ByteArray) (r1 : Int) (r2 : Bool) (h : Ev (fun k => num_Parse.f k a0) (r1, r2)) (o0 : IntKind.i64.wrap r1 = r1) : Ret Tryz.prog 117 [.str a0] (.tup [.int .i64 r1, .bool r2]) := by
 obtain ⟨k, hk⟩ := h.rounds
 exact Ret.calls (vs := [.string a0]) Tryz.call117 ⟨same_str _, True.intro⟩ (fits_tup (xs := [.int .i64 r1, .bool r2]) ⟨fits_int o0, ⟨fits_bool _, True.intro⟩⟩) (fun w => (num_Parse.calls k a0 r1 r2 w hk).mono fun e w' q => ⟨q.1, q.2⟩)
theorem c_num_Print (a0 : Int) (r : ByteArray) (h : Ev (fun k => num_Print.f k a0) r) (o0 : r.size ≤ 9223372036854775807) : Ret Tryz.prog 122 [.int .i64 a0] (.str r) := by
 obtain ⟨k, hk⟩ := h.rounds
 exact Ret.calls (vs := [.int .i64 a0]) Tryz.call122 ⟨same_int _ _, True.intro⟩ (fits_str o0) (fun w => (num_Print.calls k a0 r w hk).mono fun e w' q => ⟨q.1, q.2⟩)
theorem c_octavoref05_Parse (a0 : ByteArray) (r1 : Int) (r2 : Bool) (h : Ev (fun k => octavoref05_Parse.f k a0) (r1, r2)) (o0 : IntKind.i64.wrap r1 = r1) : Ret Tryz.prog 130 [.str a0] (.tup [.int .i64 r1, .bool r2]) := by
 obtain ⟨k, hk⟩ := h.rounds
 exact Ret.calls (vs := [.string a0]) Tryz.call130 ⟨same_str _, True.intro⟩ (fits_tup (xs := [.int .i64 r1, .bool r2]) ⟨fits_int o0, ⟨fits_bool _, True.intro⟩⟩) (fun w => (octavoref05_Parse.calls k a0 r1 r2 w hk).mono fun e w' q => ⟨q.1, q.2.below⟩)
theorem c_octavoref05_Print (a0 : Int) (r : ByteArray) (h : Ev (fun k => octavoref05_Print.f k a0) r) (o0 : r.size ≤ 9223372036854775807) : Ret Tryz.prog 110 [.int .i64 a0] (.str r) := by
 obtain ⟨k, hk⟩ := h.rounds
 exact Ret.calls (vs := [.int .i64 a0]) Tryz.call110 ⟨same_int _ _, True.intro⟩ (fits_str o0) (fun w => (octavoref05_Print.calls k a0 r w hk).mono fun e w' q => ⟨q.1, q.2⟩)
theorem c_octavoref06_Truth (a0 : ByteArray) (r : Int) (h : octavoref06_Truth.f a0 = some r) (o0 : IntKind.i64.wrap r = r) : Ret Tryz.prog 61 [.str a0] (.int .i64 r) := by
 exact Ret.calls (vs := [.string a0]) Tryz.call61 ⟨same_str _, True.intro⟩ (fits_int o0) (fun w => (octavoref06_Truth.calls a0 r w h).mono fun e w' q => ⟨q.1, q.2⟩)
theorem c_octavoref07_Parts (a0 : Int) (r1 : Int) (r2 : Int) (r3 : Int) (r4 : Bool) (h : Ev (fun k => octavoref07_Parts.f k a0) (r1, r2, r3, r4)) (o0 : IntKind.i64.wrap r1 = r1) (o1 : IntKind.i64.wrap r2 = r2) (o2 : IntKind.i64.wrap r3 = r3) : Ret Tryz.prog 71 [.int .i64 a0] (.tup [.int .i64 r1, .int .i64 r2, .int .i64 r3, .bool r4]) := by
 obtain ⟨k, hk⟩ := h.rounds
 exact Ret.calls (vs := [.int .i64 a0]) Tryz.call71 ⟨same_int _ _, True.intro⟩ (fits_tup (xs := [.int .i64 r1, .int .i64 r2, .int .i64 r3, .bool r4]) ⟨fits_int o0, ⟨fits_int o1, ⟨fits_int o2, ⟨fits_bool _, True.intro⟩⟩⟩⟩) (fun w => (octavoref07_Parts.calls k a0 r1 r2 r3 r4 w hk).mono fun e w' q => ⟨q.1, q.2.below⟩)
theorem c_octavoref07_Months (a0 : Int) (a1 : Int) (a2 : Bool) (r1 : Int) (r2 : Bool) (h : Ev (fun k => octavoref07_Months.f k a0 a1 a2) (r1, r2)) (o0 : IntKind.i64.wrap r1 = r1) : Ret Tryz.prog 65 [.int .i64 a0, .int .i64 a1, .bool a2] (.tup [.int .i64 r1, .bool r2]) := by
 obtain ⟨k, hk⟩ := h.rounds
 exact Ret.calls (vs := [.int .i64 a0, .int .i64 a1, .bool a2]) Tryz.call65 ⟨same_int _ _, ⟨same_int _ _, ⟨same_bool _, True.intro⟩⟩⟩ (fits_tup (xs := [.int .i64 r1, .bool r2]) ⟨fits_int o0, ⟨fits_bool _, True.intro⟩⟩) (fun w => (octavoref07_Months.calls k a0 a1 a2 r1 r2 w hk).mono fun e w' q => ⟨q.1, q.2.below⟩)
theorem c_octavoref07_Of (a0 : Int) (a1 : Int) (a2 : Int) (r1 : Int) (r2 : Bool) (h : Ev (fun k => octavoref07_Of.f k a0 a1 a2) (r1, r2)) (o0 : IntKind.i64.wrap r1 = r1) : Ret Tryz.prog 64 [.int .i64 a0, .int .i64 a1, .int .i64 a2] (.tup [.int .i64 r1, .bool r2]) := by
 obtain ⟨k, hk⟩ := h.rounds
 exact Ret.calls (vs := [.int .i64 a0, .int .i64 a1, .int .i64 a2]) Tryz.call64 ⟨same_int _ _, ⟨same_int _ _, ⟨same_int _ _, True.intro⟩⟩⟩ (fits_tup (xs := [.int .i64 r1, .bool r2]) ⟨fits_int o0, ⟨fits_bool _, True.intro⟩⟩) (fun w => (octavoref07_Of.calls k a0 a1 a2 r1 r2 w hk).mono fun e w' q => ⟨q.1, q.2.below⟩)
theorem c_octavoref07_Parse (a0 : ByteArray) (r1 : Int) (r2 : Bool) (h : Ev (fun k => octavoref07_Parse.f k a0) (r1, r2)) (o0 : IntKind.i64.wrap r1 = r1) : Ret Tryz.prog 31 [.str a0] (.tup [.int .i64 r1, .bool r2]) := by
 obtain ⟨k, hk⟩ := h.rounds
 exact Ret.calls (vs := [.string a0]) Tryz.call31 ⟨same_str _, True.intro⟩ (fits_tup (xs := [.int .i64 r1, .bool r2]) ⟨fits_int o0, ⟨fits_bool _, True.intro⟩⟩) (fun w => (octavoref07_Parse.calls k a0 r1 r2 w hk).mono fun e w' q => ⟨q.1, q.2.below⟩)
end Go.Proofs.YtllceoncpgebpaaGreatDoor
