/- Small words of this session: characters of texts. -/
import Derived.Test.YtcbknemdidehlaaGreatDoorX
import Derived.Lib.DecodeN
import Derived.Lib.MapLaws
import Derived.Lib.OthersKept
import Derived.Laws.Runes
namespace Go.Proofs.YtcbknemdidehlaaGreatDoor.X
open Go.RowKit Go.Proofs.YtcbknemdidehlaaGreatDoorW.PrintWords
set_option linter.unusedVariables false
set_option linter.unusedSimpArgs false
def rl (r : Nat) : Nat := if r ≤ 127 then 1 else if r ≤ 2047 then 2 else if r ≤ 65535 then 3 else 4
theorem get_ (s : ByteArray) (i : Nat) (h : i < s.size) : s.get! i = s[i]'h := by
 simp [ByteArray.get!, getElem!_pos, h]
 rfl
theorem extract3 (s : ByteArray) (pos : Nat) (h : pos + 3 ≤ s.size) : ((s.extract pos s.size).extract 0 3).toList = [s.get! pos, s.get! (pos + 1), s.get! (pos + 2)] := by
 rw [ByteArray.toList_eq, ByteArray.data_extract, ByteArray.data_extract]
 simp only [Array.toList_extract]
 have hl : s.data.toList.length = s.size := by simp
 rw [get_ s pos (by omega), get_ s (pos + 1) (by omega), get_ s (pos + 2) (by omega)]
 have e : s.data.toList.drop pos = s[pos] :: s[pos + 1] :: s[pos + 2] :: s.data.toList.drop (pos + 3) := by
  rw [List.drop_eq_getElem_cons (by omega), List.drop_eq_getElem_cons (by omega), List.drop_eq_getElem_cons (by omega)]
  rfl
 simp [e]
 rw [List.take_take, Nat.min_eq_left (by omega)]
 rfl
def fffd (s : ByteArray) (pos : Nat) : Prop := pos + 3 ≤ s.size ∧ s.get! pos = 239 ∧ s.get! (pos + 1) = 191 ∧ s.get! (pos + 2) = 189
theorem dec_facts (s : ByteArray) (pos : Nat) (h : pos < s.size) : 1 ≤ (Utf8.decode s pos).2 ∧ pos + (Utf8.decode s pos).2 ≤ s.size ∧ ((Utf8.decode s pos).1 < 55296 ∨ 57343 < (Utf8.decode s pos).1) ∧ (Utf8.decode s pos).1 ≤ 1114111 ∧
  ((Utf8.decode s pos).1 ≠ 65533 → (Utf8.decode s pos).2 = rl (Utf8.decode s pos).1) ∧ ((Utf8.decode s pos).1 = 65533 → (fffd s pos ∧ (Utf8.decode s pos).2 = 3) ∨ (¬ fffd s pos ∧ (Utf8.decode s pos).2 = 1)) := by
 have k0 := (s.get! pos).toNat_lt
 have k1 := (s.get! (pos + 1)).toNat_lt
 have k2 := (s.get! (pos + 2)).toNat_lt
 have k3 := (s.get! (pos + 3)).toNat_lt
 have hf : fffd s pos ↔ (pos + 3 ≤ s.size ∧ (s.get! pos).toNat = 239 ∧ (s.get! (pos + 1)).toNat = 191 ∧ (s.get! (pos + 2)).toNat = 189) := by
  unfold fffd
  simp only [← UInt8.toNat_inj]
  rfl
 rw [Lib.decode_at, hf]
 generalize hb0 : (s.get! pos).toNat = b0 at *
 generalize hb1 : (s.get! (pos + 1)).toNat = b1 at *
 generalize hb2 : (s.get! (pos + 2)).toNat = b2 at *
 generalize hb3 : (s.get! (pos + 3)).toNat = b3 at *
 have bad : (pos + 3 ≤ s.size ∧ b0 = 239 ∧ b1 = 191 ∧ b2 = 189) → Lib.decodeN (s.size - pos) b0 b1 b2 b3 = (65533, 3) := by
  rintro ⟨h3, rfl, rfl, rfl⟩
  have h1 : 1 < s.size - pos := by omega
  have h2 : 2 < s.size - pos := by omega
  simp [Lib.decodeN, h1, h2]
 unfold rl
 rcases Lib.decodeN_shape (s.size - pos) b0 b1 b2 b3 with ⟨c, e⟩ | ⟨c1, c2, c3, cv, e⟩ | ⟨c1, c2, c3, c4, cv, cs, e⟩ | ⟨c1, c2, c3, c4, c5, cv, cw, e⟩ | e
 ·rw [e]
  dsimp only
  refine ⟨by omega, by omega, by omega, by omega, fun _ => by rw [if_pos (by omega)], fun h => by omega⟩
 ·rw [e]
  dsimp only
  refine ⟨by omega, by omega, by omega, by omega, fun _ => by rw [if_neg (by omega), if_pos (by omega)], fun h => by omega⟩
 ·rw [e]
  dsimp only
  refine ⟨by omega, by omega, by omega, by omega, fun _ => by rw [if_neg (by omega), if_neg (by omega), if_pos (by omega)], fun h => .inl ⟨⟨by omega, by omega, by omega, by omega⟩, rfl⟩⟩
 ·rw [e]
  dsimp only
  refine ⟨by omega, by omega, by omega, by omega, fun _ => by rw [if_neg (by omega), if_neg (by omega), if_neg (by omega)], fun h => by omega⟩
 ·rw [e]
  dsimp only
  refine ⟨by omega, by omega, by omega, by omega, fun h => absurd rfl h, fun h => .inr ⟨fun hb => ?_, rfl⟩⟩
  have := bad hb
  rw [e] at this
  simp at this
end Go.Proofs.YtcbknemdidehlaaGreatDoor.X
