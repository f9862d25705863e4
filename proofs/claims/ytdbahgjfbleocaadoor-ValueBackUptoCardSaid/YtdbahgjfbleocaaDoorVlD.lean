/- The characters of a text, in the program and in the document's answer. -/
import Derived.Test.YtdbahgjfbleocaaDoorVlC
import Derived.Test.YtdbahgjfbleocaaDoorPx0
import Derived.Test.YtdbahgjfbleocaaDoorPx6
namespace Go.Proofs.YtdbahgjfbleocaaDoor.Vl
open Go.RowKit Go.Proofs.YtdbahgjfbleocaaDoor.P Go.Proofs.YtdbahgjfbleocaaDoor.Nm Go.Proofs.YtdbahgjfbleocaaDoorW.PrintWords Go.Proofs.YtdbahgjfbleocaaDoorW.PrintLast
set_option linter.unusedVariables false
set_option linter.unusedSimpArgs false

/-! ### the characters -/
/-- the characters from a place on (at most m of them) -/
def chs (s : ByteArray) : Nat → Nat → List ByteArray
  | 0, _ => []
  | m + 1, pos => if pos < s.size then s.extract pos (pos + (Utf8.decode s pos).2) :: chs s m (pos + (Utf8.decode s pos).2) else []
theorem Chars_l {s : ByteArray} (hs : s.size ≤ 8796093022207) : ∀ (m pos : Nat) (l : List ByteArray), s.size ≤ pos + m → l.length ≤ pos → Ev (fun k => value_Chars.l0 k s pos l) (l ++ chs s m pos) := by
  intro m
  induction m with
  | zero =>
    intro pos l h1 h2
    refine E.succ (E.neg (by omega) ?_)
    simp only [chs, List.append_nil]
    exact Ev.now _
  | succ m ih =>
    intro pos l h1 h2
    unfold chs
    by_cases c : pos < s.size
    · rw [if_pos c]
      obtain ⟨d1, d2, _⟩ := X.dec_facts s pos c
      refine E.succ (E.pos c (E.pos (by omega) ?_))
      have := ih (pos + (Utf8.decode s pos).2) (l ++ [s.extract pos (pos + (Utf8.decode s pos).2)]) (by omega) (by simp; omega)
      rw [List.append_assoc] at this
      exact this
    · rw [if_neg c, List.append_nil]
      exact E.succ (E.neg c (Ev.now _))
/-- all characters of a text -/
def chars (s : ByteArray) : List ByteArray := chs s s.size 0
theorem Chars_is {s : ByteArray} (hs : s.size ≤ 8796093022207) : Ev (fun k => value_Chars.f k s) (chars s) :=
  E.pos (by omega) (Chars_l hs s.size 0 [] (by omega) (by simp))
theorem chs_len (s : ByteArray) : ∀ (m pos : Nat), (chs s m pos).length ≤ m := by
  intro m
  induction m with
  | zero => intro pos; simp [chs]
  | succ m ih =>
    intro pos
    unfold chs
    split
    · simp; exact ih _
    · simp
end Go.Proofs.YtdbahgjfbleocaaDoor.Vl
