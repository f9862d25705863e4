/-
  NARROWER THAN 'FOR EVERY INPUT', by the rows' own cells (each row's printed sentence says how): TextsFaults: laid · TextsParts: laid · TextsTurns: laid · TextsFinds: laid · TextsTimes: laid · TextsCalls: laid.
  DERIVED. THE GIVEN ROWS OF THIS SEAT. 6 by the template 'for every input the law returns true; each argument reads behind the call as it read before'; 0 by the template 'total and deterministic' (their statements: YtcbknemdidehlaaGreatDoorTotals.lean).
  GIVEN WITH THE SEED: the statements are not yours to turn. If you find one false, say at which input.
  Laid BY PROGRAM, IN A SANDBOX (cutbox-rows.mjs): the forced cells as the released guide's own fill.sh prints them over the translation 8e7dd126da080551… (all of the seat's roots in one cut). By AI agents, Wed Nov 11 2026. No macro, syntax, notation, axiom, sorry.
-/
import Derived.Test.YtcbknemdidehlaaGreatDoorChecked
import GoSem.PinnedTables
import GoSem.Claim
import GoSem.ClaimJoined
import GoSem.ClaimMapViews
import Derived.JoinedTies
import Derived.KernelRfl
namespace Go.Proofs.YtcbknemdidehlaaGreatDoor
/- THE CELL 'sum', in the pinned program and in every row, IS THE sha256 OF THE DUMP (.gsa) THAT YtcbknemdidehlaaGreatDoorProg.lean LOADS. Nothing in Lean hashes anything: it is a label: what it is worth is what the hold of that sum in a sandbox is worth. -/
noncomputable def Tryz.pinned : Pinned := { name := "ytcbknemdidehlaagreatdoor", sum := "8e7dd126da080551338ec883ce54a97b154024bdf7deb29661a86bbfd0773a6d", checked := Tryz.checked }
namespace Rows
def none {H : Type} : Left H := { results := [], args := [] }

/- WHAT THE LISTED PACKAGE-LEVEL VARIABLES READ AS WHEN THE CALL BEGINS. Each datum BY PROGRAM (the guide's laid-datum.mjs) off the statement by which the dump's own 'gosem.cut.vars' lays the variable. In a bare row this is a premise. The card (YtcbknemdidehlaaGreatDoorCards.lean) ties it to the program's text. -/
def laid_unicode_utf8_acceptRanges {H : Type} : DataW H := .agg [.agg [.lit (.int .u8 128), .lit (.int .u8 191)], .agg [.lit (.int .u8 160), .lit (.int .u8 191)], .agg [.lit (.int .u8 128), .lit (.int .u8 159)], .agg [.lit (.int .u8 144), .lit (.int .u8 191)], .agg [.lit (.int .u8 128), .lit (.int .u8 143)], .agg [.lit (.int .u8 0), .lit (.int .u8 0)], .agg [.lit (.int .u8 0), .lit (.int .u8 0)], .agg [.lit (.int .u8 0), .lit (.int .u8 0)], .agg [.lit (.int .u8 0), .lit (.int .u8 0)], .agg [.lit (.int .u8 0), .lit (.int .u8 0)], .agg [.lit (.int .u8 0), .lit (.int .u8 0)], .agg [.lit (.int .u8 0), .lit (.int .u8 0)], .agg [.lit (.int .u8 0), .lit (.int .u8 0)], .agg [.lit (.int .u8 0), .lit (.int .u8 0)], .agg [.lit (.int .u8 0), .lit (.int .u8 0)], .agg [.lit (.int .u8 0), .lit (.int .u8 0)]]
/-- One of Go's own tables, pinned by name: the form's constant. -/
def laid_unicode_utf8_first : DataW Unit := Go.Pinned.utf8First

/-- 'octavolaw18.TextsFaults': WHATEVER THE INPUT: true; the input reads as it did. -/
def textsFaultsSpec : ChangeSpec := { name := "textsFaults", fn := fun _ => fun
  | [d1, d2] => { results := [.lit (.bool true)], args := [d1, d2] }
  | _ => none }
def textsFaultsRow : OpenClaim := { program := "ytcbknemdidehlaagreatdoor", sum := "8e7dd126da080551338ec883ce54a97b154024bdf7deb29661a86bbfd0773a6d", func := "octavo/octavolaw18.TextsFaults", spec := "textsFaults", inPlace := ["internal/bytealg.IndexByteString", "internal/bytealg.IndexString", "internal/abi.NoEscape", "internal/bytealg.CountString", "internal/bytealg.MakeNoZero"], unfollowed := true, recurses := true, named := ["unicode/utf8.first", "unicode/utf8.acceptRanges", "internal/bytealg.MaxLen"], apart := false, laid := [("unicode/utf8.acceptRanges", laid_unicode_utf8_acceptRanges), ("unicode/utf8.first", laid_unicode_utf8_first)] }
def TextsFaultsSaid : Prop := textsFaultsRow.holds Tryz.pinned (OpenSpec.ofChange textsFaultsSpec)

/-- ITS FALSE NEIGHBOUR: 'it returns false'. Refute it at one input. -/
def textsFaultsWrong : ChangeSpec := { name := "textsFaults", fn := fun _ => fun
  | [d1, d2] => { results := [.lit (.bool false)], args := [d1, d2] }
  | _ => none }
def TextsFaultsWrongFalsely : Prop := textsFaultsRow.holds Tryz.pinned (OpenSpec.ofChange textsFaultsWrong)

/-- 'octavolaw18.TextsParts': WHATEVER THE INPUT: true; the input reads as it did. -/
def textsPartsSpec : ChangeSpec := { name := "textsParts", fn := fun _ => fun
  | [d1, d2] => { results := [.lit (.bool true)], args := [d1, d2] }
  | _ => none }
def textsPartsRow : OpenClaim := { program := "ytcbknemdidehlaagreatdoor", sum := "8e7dd126da080551338ec883ce54a97b154024bdf7deb29661a86bbfd0773a6d", func := "octavo/octavolaw18.TextsParts", spec := "textsParts", inPlace := ["internal/bytealg.IndexByteString", "internal/bytealg.IndexString", "internal/abi.NoEscape", "internal/bytealg.CountString", "internal/bytealg.MakeNoZero"], unfollowed := true, recurses := true, named := ["unicode/utf8.first", "unicode/utf8.acceptRanges", "internal/bytealg.MaxLen"], apart := false, laid := [("unicode/utf8.acceptRanges", laid_unicode_utf8_acceptRanges), ("unicode/utf8.first", laid_unicode_utf8_first)] }
def TextsPartsSaid : Prop := textsPartsRow.holds Tryz.pinned (OpenSpec.ofChange textsPartsSpec)

/-- ITS FALSE NEIGHBOUR: 'it returns false'. Refute it at one input. -/
def textsPartsWrong : ChangeSpec := { name := "textsParts", fn := fun _ => fun
  | [d1, d2] => { results := [.lit (.bool false)], args := [d1, d2] }
  | _ => none }
def TextsPartsWrongFalsely : Prop := textsPartsRow.holds Tryz.pinned (OpenSpec.ofChange textsPartsWrong)

/-- 'octavolaw18.TextsTurns': WHATEVER THE INPUT: true; the input reads as it did. -/
def textsTurnsSpec : ChangeSpec := { name := "textsTurns", fn := fun _ => fun
  | [d] => { results := [.lit (.bool true)], args := [d] }
  | _ => none }
def textsTurnsRow : OpenClaim := { program := "ytcbknemdidehlaagreatdoor", sum := "8e7dd126da080551338ec883ce54a97b154024bdf7deb29661a86bbfd0773a6d", func := "octavo/octavolaw18.TextsTurns", spec := "textsTurns", inPlace := ["internal/bytealg.IndexByteString", "internal/bytealg.IndexString", "internal/abi.NoEscape", "internal/bytealg.CountString", "internal/bytealg.MakeNoZero"], unfollowed := true, recurses := true, named := ["unicode/utf8.first", "unicode/utf8.acceptRanges", "internal/bytealg.MaxLen"], apart := false, laid := [("unicode/utf8.acceptRanges", laid_unicode_utf8_acceptRanges), ("unicode/utf8.first", laid_unicode_utf8_first)] }
def TextsTurnsSaid : Prop := textsTurnsRow.holds Tryz.pinned (OpenSpec.ofChange textsTurnsSpec)

/-- ITS FALSE NEIGHBOUR: 'it returns false'. Refute it at one input. -/
def textsTurnsWrong : ChangeSpec := { name := "textsTurns", fn := fun _ => fun
  | [d] => { results := [.lit (.bool false)], args := [d] }
  | _ => none }
def TextsTurnsWrongFalsely : Prop := textsTurnsRow.holds Tryz.pinned (OpenSpec.ofChange textsTurnsWrong)

/-- 'octavolaw18.TextsFinds': WHATEVER THE INPUT: true; the input reads as it did. -/
def textsFindsSpec : ChangeSpec := { name := "textsFinds", fn := fun _ => fun
  | [d1, d2] => { results := [.lit (.bool true)], args := [d1, d2] }
  | _ => none }
def textsFindsRow : OpenClaim := { program := "ytcbknemdidehlaagreatdoor", sum := "8e7dd126da080551338ec883ce54a97b154024bdf7deb29661a86bbfd0773a6d", func := "octavo/octavolaw18.TextsFinds", spec := "textsFinds", inPlace := ["internal/bytealg.IndexByteString", "internal/bytealg.IndexString", "internal/abi.NoEscape", "internal/bytealg.CountString", "internal/bytealg.MakeNoZero"], unfollowed := true, recurses := true, named := ["unicode/utf8.first", "unicode/utf8.acceptRanges", "internal/bytealg.MaxLen"], apart := false, laid := [("unicode/utf8.acceptRanges", laid_unicode_utf8_acceptRanges), ("unicode/utf8.first", laid_unicode_utf8_first)] }
def TextsFindsSaid : Prop := textsFindsRow.holds Tryz.pinned (OpenSpec.ofChange textsFindsSpec)

/-- ITS FALSE NEIGHBOUR: 'it returns false'. Refute it at one input. -/
def textsFindsWrong : ChangeSpec := { name := "textsFinds", fn := fun _ => fun
  | [d1, d2] => { results := [.lit (.bool false)], args := [d1, d2] }
  | _ => none }
def TextsFindsWrongFalsely : Prop := textsFindsRow.holds Tryz.pinned (OpenSpec.ofChange textsFindsWrong)

/-- 'octavolaw18.TextsTimes': WHATEVER THE INPUT: true; the input reads as it did. -/
def textsTimesSpec : ChangeSpec := { name := "textsTimes", fn := fun _ => fun
  | [d1, d2] => { results := [.lit (.bool true)], args := [d1, d2] }
  | _ => none }
def textsTimesRow : OpenClaim := { program := "ytcbknemdidehlaagreatdoor", sum := "8e7dd126da080551338ec883ce54a97b154024bdf7deb29661a86bbfd0773a6d", func := "octavo/octavolaw18.TextsTimes", spec := "textsTimes", inPlace := ["internal/bytealg.IndexByteString", "internal/bytealg.IndexString", "internal/abi.NoEscape", "internal/bytealg.CountString", "internal/bytealg.MakeNoZero"], unfollowed := true, recurses := true, named := ["unicode/utf8.first", "unicode/utf8.acceptRanges", "internal/bytealg.MaxLen"], apart := false, laid := [("unicode/utf8.acceptRanges", laid_unicode_utf8_acceptRanges), ("unicode/utf8.first", laid_unicode_utf8_first)] }
def TextsTimesSaid : Prop := textsTimesRow.holds Tryz.pinned (OpenSpec.ofChange textsTimesSpec)

/-- ITS FALSE NEIGHBOUR: 'it returns false'. Refute it at one input. -/
def textsTimesWrong : ChangeSpec := { name := "textsTimes", fn := fun _ => fun
  | [d1, d2] => { results := [.lit (.bool false)], args := [d1, d2] }
  | _ => none }
def TextsTimesWrongFalsely : Prop := textsTimesRow.holds Tryz.pinned (OpenSpec.ofChange textsTimesWrong)

/-- 'octavolaw18.TextsCalls': WHATEVER THE INPUT: true; the input reads as it did. -/
def textsCallsSpec : ChangeSpec := { name := "textsCalls", fn := fun _ => fun
  | [d1, d2] => { results := [.lit (.bool true)], args := [d1, d2] }
  | _ => none }
def textsCallsRow : OpenClaim := { program := "ytcbknemdidehlaagreatdoor", sum := "8e7dd126da080551338ec883ce54a97b154024bdf7deb29661a86bbfd0773a6d", func := "octavo/octavolaw18.TextsCalls", spec := "textsCalls", inPlace := ["internal/bytealg.IndexByteString", "internal/bytealg.IndexString", "internal/abi.NoEscape", "internal/bytealg.CountString", "internal/bytealg.MakeNoZero"], unfollowed := true, recurses := true, named := ["unicode/utf8.first", "unicode/utf8.acceptRanges", "internal/bytealg.MaxLen"], apart := false, laid := [("unicode/utf8.acceptRanges", laid_unicode_utf8_acceptRanges), ("unicode/utf8.first", laid_unicode_utf8_first)] }
def TextsCallsSaid : Prop := textsCallsRow.holds Tryz.pinned (OpenSpec.ofChange textsCallsSpec)

/-- ITS FALSE NEIGHBOUR: 'it returns false'. Refute it at one input. -/
def textsCallsWrong : ChangeSpec := { name := "textsCalls", fn := fun _ => fun
  | [d1, d2] => { results := [.lit (.bool false)], args := [d1, d2] }
  | _ => none }
def TextsCallsWrongFalsely : Prop := textsCallsRow.holds Tryz.pinned (OpenSpec.ofChange textsCallsWrong)

/- THE SECOND FORM. 'bulk': how many values and letters a reading holds, each counted each time it is reached (what is shared counts as often as it is met; a slice's spare places count too). A statement '..UptoSaid' is the law's where the arguments, and the package variables that the reading takes, are together of bulk at most 1048576: NARROWER than '..Said'. Prove '..Said' where nothing that the law and all that it calls make is longer than what came in: it says more and counts as full. Else prove '..UptoSaid'. A law counts once. -/
mutual
def uptoBulk {H : Type} : DataW H → Nat
  | .lit (.string bytes) => bytes.length + 1
  | .lit _ => 1
  | .nil => 1
  | .ptr d => uptoBulk d + 1
  | .slice elems spare => uptoBulkAll elems + uptoBulkAll spare + 1
  | .agg parts => uptoBulkAll parts + 1
  | .iface _ d => uptoBulk d + 1
  | .map entries => uptoBulkEntries entries + 1
  | .held _ => 1
def uptoBulkAll {H : Type} : List (DataW H) → Nat
  | [] => 0
  | d :: r => uptoBulk d + uptoBulkAll r
def uptoBulkEntries {H : Type} : List (Lit × DataW H) → Nat
  | [] => 0
  | x :: r => uptoBulkEntry x + uptoBulkEntries r
def uptoBulkEntry {H : Type} : Lit × DataW H → Nat
  | (.string bytes, d) => bytes.length + uptoBulk d + 1
  | (_, d) => uptoBulk d + 1
 end
def uptoSmall : (H : Type) → List (DataW H) → Bool := fun _ ds => decide (uptoBulkAll ds ≤ 1048576)
def OpenSpec.upto (s : _root_.Go.ChangeSpec) : _root_.Go.OpenSpec := { _root_.Go.OpenSpec.ofChange s with cond := some uptoSmall }

/-- 'octavolaw18.TextsFaults', WHERE WHAT IT READS IS OF BULK AT MOST 1048576: true; the input reads as it did. -/
def textsFaultsUptoRow : OpenClaim := { program := "ytcbknemdidehlaagreatdoor", sum := "8e7dd126da080551338ec883ce54a97b154024bdf7deb29661a86bbfd0773a6d", func := "octavo/octavolaw18.TextsFaults", spec := "textsFaults", inPlace := ["internal/bytealg.IndexByteString", "internal/bytealg.IndexString", "internal/abi.NoEscape", "internal/bytealg.CountString", "internal/bytealg.MakeNoZero"], unfollowed := true, recurses := true, named := ["unicode/utf8.first", "unicode/utf8.acceptRanges", "internal/bytealg.MaxLen"], apart := false, laid := [("unicode/utf8.acceptRanges", laid_unicode_utf8_acceptRanges), ("unicode/utf8.first", laid_unicode_utf8_first)], narrowed := true }
def TextsFaultsUptoSaid : Prop := textsFaultsUptoRow.holds Tryz.pinned (OpenSpec.upto textsFaultsSpec)

/-- 'octavolaw18.TextsParts', WHERE WHAT IT READS IS OF BULK AT MOST 1048576: true; the input reads as it did. -/
def textsPartsUptoRow : OpenClaim := { program := "ytcbknemdidehlaagreatdoor", sum := "8e7dd126da080551338ec883ce54a97b154024bdf7deb29661a86bbfd0773a6d", func := "octavo/octavolaw18.TextsParts", spec := "textsParts", inPlace := ["internal/bytealg.IndexByteString", "internal/bytealg.IndexString", "internal/abi.NoEscape", "internal/bytealg.CountString", "internal/bytealg.MakeNoZero"], unfollowed := true, recurses := true, named := ["unicode/utf8.first", "unicode/utf8.acceptRanges", "internal/bytealg.MaxLen"], apart := false, laid := [("unicode/utf8.acceptRanges", laid_unicode_utf8_acceptRanges), ("unicode/utf8.first", laid_unicode_utf8_first)], narrowed := true }
def TextsPartsUptoSaid : Prop := textsPartsUptoRow.holds Tryz.pinned (OpenSpec.upto textsPartsSpec)

/-- 'octavolaw18.TextsTurns', WHERE WHAT IT READS IS OF BULK AT MOST 1048576: true; the input reads as it did. -/
def textsTurnsUptoRow : OpenClaim := { program := "ytcbknemdidehlaagreatdoor", sum := "8e7dd126da080551338ec883ce54a97b154024bdf7deb29661a86bbfd0773a6d", func := "octavo/octavolaw18.TextsTurns", spec := "textsTurns", inPlace := ["internal/bytealg.IndexByteString", "internal/bytealg.IndexString", "internal/abi.NoEscape", "internal/bytealg.CountString", "internal/bytealg.MakeNoZero"], unfollowed := true, recurses := true, named := ["unicode/utf8.first", "unicode/utf8.acceptRanges", "internal/bytealg.MaxLen"], apart := false, laid := [("unicode/utf8.acceptRanges", laid_unicode_utf8_acceptRanges), ("unicode/utf8.first", laid_unicode_utf8_first)], narrowed := true }
def TextsTurnsUptoSaid : Prop := textsTurnsUptoRow.holds Tryz.pinned (OpenSpec.upto textsTurnsSpec)

/-- 'octavolaw18.TextsFinds', WHERE WHAT IT READS IS OF BULK AT MOST 1048576: true; the input reads as it did. -/
def textsFindsUptoRow : OpenClaim := { program := "ytcbknemdidehlaagreatdoor", sum := "8e7dd126da080551338ec883ce54a97b154024bdf7deb29661a86bbfd0773a6d", func := "octavo/octavolaw18.TextsFinds", spec := "textsFinds", inPlace := ["internal/bytealg.IndexByteString", "internal/bytealg.IndexString", "internal/abi.NoEscape", "internal/bytealg.CountString", "internal/bytealg.MakeNoZero"], unfollowed := true, recurses := true, named := ["unicode/utf8.first", "unicode/utf8.acceptRanges", "internal/bytealg.MaxLen"], apart := false, laid := [("unicode/utf8.acceptRanges", laid_unicode_utf8_acceptRanges), ("unicode/utf8.first", laid_unicode_utf8_first)], narrowed := true }
def TextsFindsUptoSaid : Prop := textsFindsUptoRow.holds Tryz.pinned (OpenSpec.upto textsFindsSpec)

/-- 'octavolaw18.TextsTimes', WHERE WHAT IT READS IS OF BULK AT MOST 1048576: true; the input reads as it did. -/
def textsTimesUptoRow : OpenClaim := { program := "ytcbknemdidehlaagreatdoor", sum := "8e7dd126da080551338ec883ce54a97b154024bdf7deb29661a86bbfd0773a6d", func := "octavo/octavolaw18.TextsTimes", spec := "textsTimes", inPlace := ["internal/bytealg.IndexByteString", "internal/bytealg.IndexString", "internal/abi.NoEscape", "internal/bytealg.CountString", "internal/bytealg.MakeNoZero"], unfollowed := true, recurses := true, named := ["unicode/utf8.first", "unicode/utf8.acceptRanges", "internal/bytealg.MaxLen"], apart := false, laid := [("unicode/utf8.acceptRanges", laid_unicode_utf8_acceptRanges), ("unicode/utf8.first", laid_unicode_utf8_first)], narrowed := true }
def TextsTimesUptoSaid : Prop := textsTimesUptoRow.holds Tryz.pinned (OpenSpec.upto textsTimesSpec)

/-- 'octavolaw18.TextsCalls', WHERE WHAT IT READS IS OF BULK AT MOST 1048576: true; the input reads as it did. -/
def textsCallsUptoRow : OpenClaim := { program := "ytcbknemdidehlaagreatdoor", sum := "8e7dd126da080551338ec883ce54a97b154024bdf7deb29661a86bbfd0773a6d", func := "octavo/octavolaw18.TextsCalls", spec := "textsCalls", inPlace := ["internal/bytealg.IndexByteString", "internal/bytealg.IndexString", "internal/abi.NoEscape", "internal/bytealg.CountString", "internal/bytealg.MakeNoZero"], unfollowed := true, recurses := true, named := ["unicode/utf8.first", "unicode/utf8.acceptRanges", "internal/bytealg.MaxLen"], apart := false, laid := [("unicode/utf8.acceptRanges", laid_unicode_utf8_acceptRanges), ("unicode/utf8.first", laid_unicode_utf8_first)], narrowed := true }
def TextsCallsUptoSaid : Prop := textsCallsUptoRow.holds Tryz.pinned (OpenSpec.upto textsCallsSpec)

end Rows
end Go.Proofs.YtcbknemdidehlaaGreatDoor
