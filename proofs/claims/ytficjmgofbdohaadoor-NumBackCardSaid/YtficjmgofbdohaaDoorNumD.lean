/- What the products and quotients of 128 bits come to, as far as numbers need them. -/
import Derived.Test.YtficjmgofbdohaaDoorNumA
import Derived.Test.YtficjmgofbdohaaDoorPx2
import Derived.Test.YtficjmgofbdohaaDoorPx3
import Derived.Lib.Mul64
import Derived.Laws.Bits64
namespace Go.Proofs.YtficjmgofbdohaaDoor.Nm
open Go.RowKit Go.Proofs.YtficjmgofbdohaaDoor.P Go.Proofs.YtficjmgofbdohaaDoorW.PrintWords Go.Proofs.YtficjmgofbdohaaDoorW.PrintLast
set_option linter.unusedVariables false
set_option linter.unusedSimpArgs false

theorem wu {x : Int} (h : 0 ≤ x) (k : x ≤ 18446744073709551615) : IntKind.u64.wrap x = x := by rw [IntKind.wrap_u64]; omega
theorem wu0 (x : Int) : 0 ≤ IntKind.u64.wrap x := by rw [IntKind.wrap_u64]; omega
theorem ofInt_nat (a : Nat) (ha : a < 18446744073709551616) : (BitVec.ofInt 64 (a : Int)).toNat = a := by
  rw [BitVec.ofInt_natCast, BitVec.toNat_ofNat]; exact Nat.mod_eq_of_lt (by omega)
theorem mask_is {a : Int} (h : 0 ≤ a) (k : a ≤ 18446744073709551615) : Go.bits .and .u64 a 4294967295 = a % 4294967296 := by
  obtain ⟨A, rfl⟩ := Int.eq_ofNat_of_zero_le h
  show IntKind.u64.wrap ((BitVec.ofInt 64 (A : Int) &&& BitVec.ofInt 64 ((4294967295 : Nat) : Int)).toNat : Int) = _
  rw [BitVec.toNat_and, ofInt_nat A (by omega), ofInt_nat 4294967295 (by omega), IntKind.wrap_u64, show A &&& 4294967295 = A % 4294967296 from Nat.and_two_pow_sub_one_eq_mod A 32]
  omega
theorem or_is {a b : Int} (i : Nat) (h : 0 ≤ a) (hb : 0 ≤ b) (kb : b < ((2 ^ i : Nat) : Int)) (k : a * ((2 ^ i : Nat) : Int) + b ≤ 18446744073709551615) : Go.bits .or .u64 (a * ((2 ^ i : Nat) : Int)) b = a * ((2 ^ i : Nat) : Int) + b := by
  obtain ⟨A, rfl⟩ := Int.eq_ofNat_of_zero_le h
  obtain ⟨B, rfl⟩ := Int.eq_ofNat_of_zero_le hb
  rw [← Int.natCast_mul] at *
  have hB : B < 2 ^ i := by omega
  have l1 : A * 2 ^ i < 18446744073709551616 := by omega
  show IntKind.u64.wrap ((BitVec.ofInt 64 ((A * 2 ^ i : Nat) : Int) ||| BitVec.ofInt 64 (B : Int)).toNat : Int) = _
  rw [BitVec.toNat_or, ofInt_nat _ l1, ofInt_nat B (by omega), IntKind.wrap_u64, ← Nat.shiftLeft_eq, ← Nat.shiftLeft_add_eq_or_of_lt hB, Nat.shiftLeft_eq]
  omega

theorem mul64_is {x y : Int} (hx : 0 ≤ x) (kx : x ≤ 18446744073709551615) (hy : 0 ≤ y) (ky : y ≤ 18446744073709551615) : bits_Mul64.f x y = some (x * y / 18446744073709551616, x * y % 18446744073709551616) := by
  unfold bits_Mul64.f
  rw [mask_is hx kx, mask_is hy ky]
  obtain ⟨X, rfl⟩ := Int.eq_ofNat_of_zero_le hx
  obtain ⟨Y, rfl⟩ := Int.eq_ofNat_of_zero_le hy
  obtain ⟨a1, a2, a3, a4⟩ := Lib.mul64_hi X Y (by omega) (by omega)
  have dv : ∀ a : Nat, (a : Int) / 4294967296 = ((a / 4294967296 : Nat) : Int) := fun a => by omega
  have md : ∀ a : Nat, (a : Int) % 4294967296 = ((a % 4294967296 : Nat) : Int) := fun a => by omega
  have wr : ∀ a : Nat, IntKind.u64.wrap (a : Int) = ((a % 18446744073709551616 : Nat) : Int) := fun a => by rw [IntKind.wrap_u64]; omega
  have hc := Lib.half_mul_le (a := X / 4294967296) (b := Y / 4294967296) (by omega) (by omega)
  have hd := Lib.half_mul_le (a := X / 4294967296) (b := Y % 4294967296) (by omega) (by omega)
  have he := Lib.half_mul_le (a := X % 4294967296) (b := Y / 4294967296) (by omega) (by omega)
  have hxy : X * Y / 18446744073709551616 < 18446744073709551616 := by
    have := Nat.mul_le_mul (show X ≤ 18446744073709551615 by omega) (show Y ≤ 18446744073709551615 by omega)
    omega
  have M : ∀ a b : Nat, (a : Int) * (b : Int) = ((a * b : Nat) : Int) := fun a b => (Int.natCast_mul a b).symm
  have Ad : ∀ a b : Nat, (a : Int) + (b : Int) = ((a + b : Nat) : Int) := fun a b => (Int.natCast_add a b).symm
  have w1 : ∀ a : Nat, a < 18446744073709551616 → IntKind.u64.wrap (a : Int) = (a : Int) := fun a h => by rw [wr]; omega
  simp only [dv, md, M]
  rw [w1 _ a1, dv, w1 _ (show X / 4294967296 * (Y % 4294967296) < 18446744073709551616 by omega), Ad, w1 _ a2, mask_is (by omega) (by omega), dv, md, w1 _ (show X % 4294967296 * (Y / 4294967296) < 18446744073709551616 by omega), Ad, w1 _ a3, dv, w1 _ (show X / 4294967296 * (Y / 4294967296) < 18446744073709551616 by omega), Ad, w1 _ (by omega), Ad, w1 _ (by omega), a4, wr]
  rw [show ((X * Y : Nat) : Int) / 18446744073709551616 = ((X * Y / 18446744073709551616 : Nat) : Int) by omega, show ((X * Y : Nat) : Int) % 18446744073709551616 = ((X * Y % 18446744073709551616 : Nat) : Int) by omega]

theorem pair {α β : Type} {a b : α} {c : β} (h : a = b) : (a, c) = (b, c) := by rw [h]
theorem lz_is : Ev (fun k => bits_LeadingZeros64.f k 10000) 50 := Ev.of (k := 10) (fun k => bits_LeadingZeros64.mono _ k) (by decide +kernel)

theorem div64_low {lo z : Int} (hl : 0 ≤ lo) (kl : lo ≤ 18446744073709551615) (hz : 0 < z) : ∃ r, Ev (fun k => bits_Div64.f k 0 lo z) (lo / z, r) := by
  refine ⟨Int.tmod lo z, E.neg (by omega) (E.neg (by omega) (E.pos rfl ?_))⟩
  have e : Int.tdiv lo z = lo / z := Int.tdiv_eq_ediv_of_nonneg hl
  have n := Int.ediv_nonneg hl (show 0 ≤ z by omega)
  have u := Int.ediv_le_self z hl
  rw [e, wu n (by omega)]
  exact Ev.now _

theorem j2_step {x2 x8 x9 x10 x11 x13 x14 x15 : Int} {r : Int × Int} (h9 : ¬ x9 = 0) (h : Ev (fun k => bits_Div64.l1 k x2 x8 x9 x10 x14 x15 (IntKind.u64.wrap ((IntKind.u64.wrap ((IntKind.u64.wrap ((IntKind.u64.wrap (x11 * 4294967296)) + x13)) - (IntKind.u64.wrap (x15 * x2)))) - (IntKind.u64.wrap ((IntKind.u64.wrap (Int.tdiv (IntKind.u64.wrap ((IntKind.u64.wrap ((IntKind.u64.wrap (x11 * 4294967296)) + x13)) - (IntKind.u64.wrap (x15 * x2)))) x9)) * x9)))) (IntKind.u64.wrap ((IntKind.u64.wrap ((IntKind.u64.wrap (x11 * 4294967296)) + x13)) - (IntKind.u64.wrap (x15 * x2)))) (IntKind.u64.wrap (Int.tdiv (IntKind.u64.wrap ((IntKind.u64.wrap ((IntKind.u64.wrap (x11 * 4294967296)) + x13)) - (IntKind.u64.wrap (x15 * x2)))) x9))) r) :
    Ev (fun k => bits_Div64.j2 k x2 x8 x9 x10 x11 x13 x14 x15) r := E.succ (E.neg h9 h)
theorem l0_step {x2 x8 x9 x10 x11 x13 x14 x15 x16 : Int} {r : Int × Int} (h10 : x10 = 0) (b : x15 < 4294967296) (h : Ev (fun k => bits_Div64.j2 k x2 x8 x9 x10 x11 x13 x14 x15) r) :
    Ev (fun k => bits_Div64.l0 k x2 x8 x9 x10 x11 x13 x14 x15 x16) r := by
  refine E.succ (E.neg (by omega) (E.succ (E.neg ?_ h)))
  rw [h10, Int.mul_zero, wu (x := 0) (by omega) (by omega)]
  have := wu0 (IntKind.u64.wrap (4294967296 * x16) + x13)
  simp; omega
theorem l1_step {x2 x8 x9 x10 x14 x15 x16 x17 x18 : Int} {r : Int × Int} (h10 : x10 = 0) (b : x18 < 4294967296) (h8 : 0 ≤ x8) (h : (IntKind.u64.wrap ((IntKind.u64.wrap (x15 * 4294967296)) + x18), shr .u64 (IntKind.u64.wrap ((IntKind.u64.wrap ((IntKind.u64.wrap (x17 * 4294967296)) + x14)) - (IntKind.u64.wrap (x18 * x2)))) x8) = r) :
    Ev (fun k => bits_Div64.l1 k x2 x8 x9 x10 x14 x15 x16 x17 x18) r := by
  refine E.succ (E.neg (by omega) (E.succ (E.neg ?_ (E.pos h8 (E.now h)))))
  rw [h10, Int.mul_zero, wu (x := 0) (by omega) (by omega)]
  have := wu0 (IntKind.u64.wrap (4294967296 * x16) + x14)
  simp; omega

theorem div64_high {hi lo : Int} (h0 : 0 < hi) (h1 : hi < 10000) (hl : 0 ≤ lo) (kl : lo ≤ 18446744073709551615) : ∃ r, Ev (fun k => bits_Div64.f k hi lo 10000) ((hi * 18446744073709551616 + lo) / 10000, r) := by
  have s50 : IntKind.u64.wrap 50 = 50 := by decide
  have s14 : IntKind.u64.wrap (64 - 50) = 14 := by decide
  have sy : shl .u64 10000 50 = 11258999068426240000 := by decide +kernel
  have sn : Go.bits .and .u64 11258999068426240000 4294967295 = 0 := by decide +kernel
  have sh : shl .u64 hi 50 = hi * ((2 ^ 50 : Nat) : Int) := by
    show IntKind.u64.wrap (hi * 2 ^ min 50 64) = _
    have e : (2 : Int) ^ min 50 64 = 1125899906842624 := by decide
    have e' : ((2 ^ 50 : Nat) : Int) = 1125899906842624 := by decide
    rw [e, e', wu (by omega) (by omega)]
  have sl : shl .u64 lo 50 = lo * 1125899906842624 % 18446744073709551616 := by
    show IntKind.u64.wrap (lo * 2 ^ min 50 64) = _
    have e : (2 : Int) ^ min 50 64 = 1125899906842624 := by decide
    rw [e, IntKind.wrap_u64]
  have sr : shr .u64 lo 14 = lo / 16384 := by
    show lo / 2 ^ min 14 64 = _
    have e : (2 : Int) ^ min 14 64 = 16384 := by decide
    rw [e]
  have e' : ((2 ^ 50 : Nat) : Int) = 1125899906842624 := by decide
  have so : Go.bits .or .u64 (hi * ((2 ^ 50 : Nat) : Int)) (lo / 16384) = hi * 1125899906842624 + lo / 16384 := by
    rw [or_is 50 (by omega) (by omega) (by rw [e']; omega) (by rw [e']; omega), e']
  have mk : Go.bits .and .u64 (lo * 1125899906842624 % 18446744073709551616) 4294967295 = lo * 1125899906842624 % 4294967296 := by
    rw [mask_is (by omega) (by omega)]; omega
  have td : ∀ {a b : Int}, 0 ≤ a → Int.tdiv a b = a / b := fun h => Int.tdiv_eq_ediv_of_nonneg h
  refine ⟨shr .u64 (IntKind.u64.wrap (IntKind.u64.wrap (IntKind.u64.wrap (((hi * 1125899906842624 + lo / 16384) % 2621440000 * 4294967296 + (lo * 1125899906842624 % 18446744073709551616 / 4294967296)) * 4294967296) + (lo * 1125899906842624 % 4294967296)) - IntKind.u64.wrap (((hi * 1125899906842624 + lo / 16384) % 2621440000 * 4294967296 + (lo * 1125899906842624 % 18446744073709551616 / 4294967296)) / 2621440000 * 11258999068426240000))) 50, ?_⟩
  refine E.neg (by omega) (E.neg (by omega) (E.neg (by omega) (Ev.bind lz_is ?_)))
  simp only [s50, s14, sy, sn, sh, sl, sr, so, mk]
  rw [show (11258999068426240000 : Int) / 4294967296 = 2621440000 by decide]
  refine E.pos (by omega) (E.pos (by omega) (E.neg (by omega) ?_))
  rw [td (by omega)]
  generalize hU : hi * 1125899906842624 + lo / 16384 = U
  generalize hV : lo * 1125899906842624 % 18446744073709551616 / 4294967296 = V
  generalize hW : lo * 1125899906842624 % 4294967296 = W'
  have hq1 : 0 ≤ U / 2621440000 ∧ U / 2621440000 < 4294967296 := by omega
  rw [wu (x := U / 2621440000) (by omega) (by omega), wu (x := U / 2621440000 * 2621440000) (by omega) (by omega), wu (x := U - U / 2621440000 * 2621440000) (by omega) (by omega)]
  refine l0_step rfl hq1.2 (j2_step (by decide) ?_)
  have hV2 : 0 ≤ V ∧ V < 4294967296 := by omega
  have hR : IntKind.u64.wrap (IntKind.u64.wrap (IntKind.u64.wrap (U * 4294967296) + V) - IntKind.u64.wrap (U / 2621440000 * 11258999068426240000)) = U % 2621440000 * 4294967296 + V := by
    simp only [IntKind.wrap_u64]
    omega
  rw [hR, td (by omega)]
  have hq2 : (U % 2621440000 * 4294967296 + V) / 2621440000 < 4294967296 ∧ 0 ≤ (U % 2621440000 * 4294967296 + V) / 2621440000 := by omega
  rw [wu (x := (U % 2621440000 * 4294967296 + V) / 2621440000) (by omega) (by omega)]
  refine l1_step rfl hq2.1 (by decide) (pair ?_)
  show IntKind.u64.wrap (IntKind.u64.wrap (U / 2621440000 * 4294967296) + (U % 2621440000 * 4294967296 + V) / 2621440000) = (hi * 18446744073709551616 + lo) / 10000
  rw [wu (x := U / 2621440000 * 4294967296) (by omega) (by omega), wu (by omega) (by omega)]
  omega
end Go.Proofs.YtficjmgofbdohaaDoor.Nm
