/-
  No cell of these rows narrows 'for every input' (looked for: loops, veiled, ifaces, maps, wideKeys, modest, calm, conditions, laid).
  DERIVED. THE GIVEN ROWS OF THIS SEAT. 6 by the template 'for every input the law returns true; each argument reads behind the call as it read before'; 0 by the template 'total and deterministic' (their statements: YtlognebkifjfbaaTotals.lean).
  GIVEN WITH THE SEED: the statements are not yours to turn. If you find one false, say at which input.
  Laid BY PROGRAM, IN A SANDBOX (cutbox-rows.mjs): the forced cells as the released guide's own fill.sh prints them over the translation 8c190f70687a3291… (all of the seat's roots in one cut). By AI agents, Wed Nov 11 2026. No macro, syntax, notation, axiom, sorry.
-/
import Derived.Test.YtlognebkifjfbaaChecked
import GoSem.Claim
import GoSem.ClaimJoined
import GoSem.ClaimMapViews
import Derived.JoinedTies
import Derived.KernelRfl
namespace Go.Proofs.Ytlognebkifjfbaa
/- THE CELL 'sum', in the pinned program and in every row, IS THE sha256 OF THE DUMP (.gsa) THAT YtlognebkifjfbaaProg.lean LOADS. Nothing in Lean hashes anything: it is a label: what it is worth is what the hold of that sum in a sandbox is worth. -/
noncomputable def Try.pinned : Pinned := { name := "ytlognebkifjfbaa", sum := "8c190f70687a32911d61ad348f6b99d36dbe0447ae103636d2c4381332acd203", checked := Try.checked }
namespace Rows
def none {H : Type} : Left H := { results := [], args := [] }

/-- 'octavolaw01.FilesNames': WHATEVER THE INPUT: true; the input reads as it did. -/
def filesNamesSpec : ChangeSpec := { name := "filesNames", fn := fun _ => fun
  | [d] => { results := [.lit (.bool true)], args := [d] }
  | _ => none }
def filesNamesRow : OpenClaim := { program := "ytlognebkifjfbaa", sum := "8c190f70687a32911d61ad348f6b99d36dbe0447ae103636d2c4381332acd203", func := "octavo/octavolaw01.FilesNames", spec := "filesNames", unfollowed := true, recurses := true, apart := false }
def FilesNamesSaid : Prop := filesNamesRow.holds Try.pinned (OpenSpec.ofChange filesNamesSpec)

/-- ITS FALSE NEIGHBOUR: 'it returns false'. Refute it at one input. -/
def filesNamesWrong : ChangeSpec := { name := "filesNames", fn := fun _ => fun
  | [d] => { results := [.lit (.bool false)], args := [d] }
  | _ => none }
def FilesNamesWrongFalsely : Prop := filesNamesRow.holds Try.pinned (OpenSpec.ofChange filesNamesWrong)

/-- 'octavolaw01.FilesKeeps': WHATEVER THE INPUT: true; the input reads as it did. -/
def filesKeepsSpec : ChangeSpec := { name := "filesKeeps", fn := fun _ => fun
  | [d1, d2, d3] => { results := [.lit (.bool true)], args := [d1, d2, d3] }
  | _ => none }
def filesKeepsRow : OpenClaim := { program := "ytlognebkifjfbaa", sum := "8c190f70687a32911d61ad348f6b99d36dbe0447ae103636d2c4381332acd203", func := "octavo/octavolaw01.FilesKeeps", spec := "filesKeeps", unfollowed := true, recurses := true, apart := false }
def FilesKeepsSaid : Prop := filesKeepsRow.holds Try.pinned (OpenSpec.ofChange filesKeepsSpec)

/-- ITS FALSE NEIGHBOUR: 'it returns false'. Refute it at one input. -/
def filesKeepsWrong : ChangeSpec := { name := "filesKeeps", fn := fun _ => fun
  | [d1, d2, d3] => { results := [.lit (.bool false)], args := [d1, d2, d3] }
  | _ => none }
def FilesKeepsWrongFalsely : Prop := filesKeepsRow.holds Try.pinned (OpenSpec.ofChange filesKeepsWrong)

/-- 'octavolaw01.FilesApart': WHATEVER THE INPUT: true; the input reads as it did. -/
def filesApartSpec : ChangeSpec := { name := "filesApart", fn := fun _ => fun
  | [d1, d2, d3] => { results := [.lit (.bool true)], args := [d1, d2, d3] }
  | _ => none }
def filesApartRow : OpenClaim := { program := "ytlognebkifjfbaa", sum := "8c190f70687a32911d61ad348f6b99d36dbe0447ae103636d2c4381332acd203", func := "octavo/octavolaw01.FilesApart", spec := "filesApart", unfollowed := true, recurses := true, apart := false }
def FilesApartSaid : Prop := filesApartRow.holds Try.pinned (OpenSpec.ofChange filesApartSpec)

/-- ITS FALSE NEIGHBOUR: 'it returns false'. Refute it at one input. -/
def filesApartWrong : ChangeSpec := { name := "filesApart", fn := fun _ => fun
  | [d1, d2, d3] => { results := [.lit (.bool false)], args := [d1, d2, d3] }
  | _ => none }
def FilesApartWrongFalsely : Prop := filesApartRow.holds Try.pinned (OpenSpec.ofChange filesApartWrong)

/-- 'octavolaw01.FilesMoves': WHATEVER THE INPUT: true; the input reads as it did. -/
def filesMovesSpec : ChangeSpec := { name := "filesMoves", fn := fun _ => fun
  | [d1, d2, d3] => { results := [.lit (.bool true)], args := [d1, d2, d3] }
  | _ => none }
def filesMovesRow : OpenClaim := { program := "ytlognebkifjfbaa", sum := "8c190f70687a32911d61ad348f6b99d36dbe0447ae103636d2c4381332acd203", func := "octavo/octavolaw01.FilesMoves", spec := "filesMoves", unfollowed := true, recurses := true, apart := false }
def FilesMovesSaid : Prop := filesMovesRow.holds Try.pinned (OpenSpec.ofChange filesMovesSpec)

/-- ITS FALSE NEIGHBOUR: 'it returns false'. Refute it at one input. -/
def filesMovesWrong : ChangeSpec := { name := "filesMoves", fn := fun _ => fun
  | [d1, d2, d3] => { results := [.lit (.bool false)], args := [d1, d2, d3] }
  | _ => none }
def FilesMovesWrongFalsely : Prop := filesMovesRow.holds Try.pinned (OpenSpec.ofChange filesMovesWrong)

/-- 'octavolaw01.FilesActs': WHATEVER THE INPUT: true; the input reads as it did. -/
def filesActsSpec : ChangeSpec := { name := "filesActs", fn := fun _ => fun
  | [d] => { results := [.lit (.bool true)], args := [d] }
  | _ => none }
def filesActsRow : OpenClaim := { program := "ytlognebkifjfbaa", sum := "8c190f70687a32911d61ad348f6b99d36dbe0447ae103636d2c4381332acd203", func := "octavo/octavolaw01.FilesActs", spec := "filesActs", unfollowed := true, recurses := true, apart := false }
def FilesActsSaid : Prop := filesActsRow.holds Try.pinned (OpenSpec.ofChange filesActsSpec)

/-- ITS FALSE NEIGHBOUR: 'it returns false'. Refute it at one input. -/
def filesActsWrong : ChangeSpec := { name := "filesActs", fn := fun _ => fun
  | [d] => { results := [.lit (.bool false)], args := [d] }
  | _ => none }
def FilesActsWrongFalsely : Prop := filesActsRow.holds Try.pinned (OpenSpec.ofChange filesActsWrong)

/-- 'octavolaw01.FilesNone': WHATEVER THE INPUT: true; the input reads as it did. -/
def filesNoneSpec : ChangeSpec := { name := "filesNone", fn := fun _ => fun
  | [d] => { results := [.lit (.bool true)], args := [d] }
  | _ => none }
def filesNoneRow : OpenClaim := { program := "ytlognebkifjfbaa", sum := "8c190f70687a32911d61ad348f6b99d36dbe0447ae103636d2c4381332acd203", func := "octavo/octavolaw01.FilesNone", spec := "filesNone", unfollowed := true, recurses := true, apart := false }
def FilesNoneSaid : Prop := filesNoneRow.holds Try.pinned (OpenSpec.ofChange filesNoneSpec)

/-- ITS FALSE NEIGHBOUR: 'it returns false'. Refute it at one input. -/
def filesNoneWrong : ChangeSpec := { name := "filesNone", fn := fun _ => fun
  | [d] => { results := [.lit (.bool false)], args := [d] }
  | _ => none }
def FilesNoneWrongFalsely : Prop := filesNoneRow.holds Try.pinned (OpenSpec.ofChange filesNoneWrong)

/- THE SECOND FORM. 'bulk': how many values and letters a reading holds, each counted each time it is reached (what is shared counts as often as it is met; a slice's spare places count too). A statement '..UptoSaid' is the law's where the arguments, and the package variables that the reading takes, are together of bulk at most 1048576: NARROWER than '..Said'. Prove '..Said' where nothing that the law and all that it calls make is longer than what came in: it says more and counts as full. Else prove '..UptoSaid'. A law counts once. -/
mutual
def uptoBulk {H : Type} : DataW H → Nat
  | .lit (.string bytes) => bytes.length + 1
  | .lit _ => 1
  | .nil => 1
  | .ptr d => uptoBulk d + 1
  | .slice elems spare => uptoBulkAll elems + uptoBulkAll spare + 1
  | .agg parts => uptoBulkAll parts + 1
  | .iface _ d => uptoBulk d + 1
  | .map entries => uptoBulkEntries entries + 1
  | .held _ => 1
def uptoBulkAll {H : Type} : List (DataW H) → Nat
  | [] => 0
  | d :: r => uptoBulk d + uptoBulkAll r
def uptoBulkEntries {H : Type} : List (Lit × DataW H) → Nat
  | [] => 0
  | x :: r => uptoBulkEntry x + uptoBulkEntries r
def uptoBulkEntry {H : Type} : Lit × DataW H → Nat
  | (.string bytes, d) => bytes.length + uptoBulk d + 1
  | (_, d) => uptoBulk d + 1
 end
def uptoSmall : (H : Type) → List (DataW H) → Bool := fun _ ds => decide (uptoBulkAll ds ≤ 1048576)
def OpenSpec.upto (s : _root_.Go.ChangeSpec) : _root_.Go.OpenSpec := { _root_.Go.OpenSpec.ofChange s with cond := some uptoSmall }

/-- 'octavolaw01.FilesNames', WHERE WHAT IT READS IS OF BULK AT MOST 1048576: true; the input reads as it did. -/
def filesNamesUptoRow : OpenClaim := { program := "ytlognebkifjfbaa", sum := "8c190f70687a32911d61ad348f6b99d36dbe0447ae103636d2c4381332acd203", func := "octavo/octavolaw01.FilesNames", spec := "filesNames", unfollowed := true, recurses := true, apart := false, narrowed := true }
def FilesNamesUptoSaid : Prop := filesNamesUptoRow.holds Try.pinned (OpenSpec.upto filesNamesSpec)

/-- 'octavolaw01.FilesKeeps', WHERE WHAT IT READS IS OF BULK AT MOST 1048576: true; the input reads as it did. -/
def filesKeepsUptoRow : OpenClaim := { program := "ytlognebkifjfbaa", sum := "8c190f70687a32911d61ad348f6b99d36dbe0447ae103636d2c4381332acd203", func := "octavo/octavolaw01.FilesKeeps", spec := "filesKeeps", unfollowed := true, recurses := true, apart := false, narrowed := true }
def FilesKeepsUptoSaid : Prop := filesKeepsUptoRow.holds Try.pinned (OpenSpec.upto filesKeepsSpec)

/-- 'octavolaw01.FilesApart', WHERE WHAT IT READS IS OF BULK AT MOST 1048576: true; the input reads as it did. -/
def filesApartUptoRow : OpenClaim := { program := "ytlognebkifjfbaa", sum := "8c190f70687a32911d61ad348f6b99d36dbe0447ae103636d2c4381332acd203", func := "octavo/octavolaw01.FilesApart", spec := "filesApart", unfollowed := true, recurses := true, apart := false, narrowed := true }
def FilesApartUptoSaid : Prop := filesApartUptoRow.holds Try.pinned (OpenSpec.upto filesApartSpec)

/-- 'octavolaw01.FilesMoves', WHERE WHAT IT READS IS OF BULK AT MOST 1048576: true; the input reads as it did. -/
def filesMovesUptoRow : OpenClaim := { program := "ytlognebkifjfbaa", sum := "8c190f70687a32911d61ad348f6b99d36dbe0447ae103636d2c4381332acd203", func := "octavo/octavolaw01.FilesMoves", spec := "filesMoves", unfollowed := true, recurses := true, apart := false, narrowed := true }
def FilesMovesUptoSaid : Prop := filesMovesUptoRow.holds Try.pinned (OpenSpec.upto filesMovesSpec)

/-- 'octavolaw01.FilesActs', WHERE WHAT IT READS IS OF BULK AT MOST 1048576: true; the input reads as it did. -/
def filesActsUptoRow : OpenClaim := { program := "ytlognebkifjfbaa", sum := "8c190f70687a32911d61ad348f6b99d36dbe0447ae103636d2c4381332acd203", func := "octavo/octavolaw01.FilesActs", spec := "filesActs", unfollowed := true, recurses := true, apart := false, narrowed := true }
def FilesActsUptoSaid : Prop := filesActsUptoRow.holds Try.pinned (OpenSpec.upto filesActsSpec)

/-- 'octavolaw01.FilesNone', WHERE WHAT IT READS IS OF BULK AT MOST 1048576: true; the input reads as it did. -/
def filesNoneUptoRow : OpenClaim := { program := "ytlognebkifjfbaa", sum := "8c190f70687a32911d61ad348f6b99d36dbe0447ae103636d2c4381332acd203", func := "octavo/octavolaw01.FilesNone", spec := "filesNone", unfollowed := true, recurses := true, apart := false, narrowed := true }
def FilesNoneUptoSaid : Prop := filesNoneUptoRow.holds Try.pinned (OpenSpec.upto filesNoneSpec)

end Rows
end Go.Proofs.Ytlognebkifjfbaa
