/-
  NARROWER THAN 'FOR EVERY INPUT', by the rows' own cells (each row's printed sentence says how): LogicFaults: laid · LogicTruths: laid · LogicDays: laid · LogicKinds: laid · LogicCalls: laid.
  DERIVED. THE GIVEN ROWS OF THIS SEAT. 5 by the template 'for every input the law returns true; each argument reads behind the call as it read before'; 0 by the template 'total and deterministic' (their statements: YtllceoncpgebpaaGreatDoorTotals.lean).
  GIVEN WITH THE SEED: the statements are not yours to turn. If you find one false, say at which input.
  Laid BY PROGRAM, IN A SANDBOX (cutbox-rows.mjs): the forced cells as the released guide's own fill.sh prints them over the translation 64ecdec3d692da1d… (all of the seat's roots in one cut). By AI agents, Wed Nov 11 2026. No macro, syntax, notation, axiom, sorry.
-/
import Derived.Test.YtllceoncpgebpaaGreatDoorChecked
import GoSem.PinnedTables
import GoSem.Claim
import GoSem.ClaimJoined
import GoSem.ClaimMapViews
import Derived.JoinedTies
import Derived.KernelRfl
namespace Go.Proofs.YtllceoncpgebpaaGreatDoor
/- THE CELL 'sum', in the pinned program and in every row, IS THE sha256 OF THE DUMP (.gsa) THAT YtllceoncpgebpaaGreatDoorProg.lean LOADS. Nothing in Lean hashes anything: it is a label: what it is worth is what the hold of that sum in a sandbox is worth. -/
noncomputable def Tryz.pinned : Pinned := { name := "ytllceoncpgebpaagreatdoor", sum := "64ecdec3d692da1d6b37f7dadc1a5bdd9221bd114d5c7d3f4cb0a5130c909113", checked := Tryz.checked }
namespace Rows
def none {H : Type} : Left H := { results := [], args := [] }

/- WHAT THE LISTED PACKAGE-LEVEL VARIABLES READ AS WHEN THE CALL BEGINS. Each datum BY PROGRAM (the guide's laid-datum.mjs) off the statement by which the dump's own 'gosem.cut.vars' lays the variable. In a bare row this is a premise. The card (YtllceoncpgebpaaGreatDoorCards.lean) ties it to the program's text. -/
def laid_unicode_utf8_acceptRanges {H : Type} : DataW H := .agg [.agg [.lit (.int .u8 128), .lit (.int .u8 191)], .agg [.lit (.int .u8 160), .lit (.int .u8 191)], .agg [.lit (.int .u8 128), .lit (.int .u8 159)], .agg [.lit (.int .u8 144), .lit (.int .u8 191)], .agg [.lit (.int .u8 128), .lit (.int .u8 143)], .agg [.lit (.int .u8 0), .lit (.int .u8 0)], .agg [.lit (.int .u8 0), .lit (.int .u8 0)], .agg [.lit (.int .u8 0), .lit (.int .u8 0)], .agg [.lit (.int .u8 0), .lit (.int .u8 0)], .agg [.lit (.int .u8 0), .lit (.int .u8 0)], .agg [.lit (.int .u8 0), .lit (.int .u8 0)], .agg [.lit (.int .u8 0), .lit (.int .u8 0)], .agg [.lit (.int .u8 0), .lit (.int .u8 0)], .agg [.lit (.int .u8 0), .lit (.int .u8 0)], .agg [.lit (.int .u8 0), .lit (.int .u8 0)], .agg [.lit (.int .u8 0), .lit (.int .u8 0)]]
/-- One of Go's own tables, pinned by name: the form's constant. -/
def laid_unicode_utf8_first : DataW Unit := Go.Pinned.utf8First

/-- 'octavolaw19.LogicFaults': WHATEVER THE INPUT: true; the input reads as it did. -/
def logicFaultsSpec : ChangeSpec := { name := "logicFaults", fn := fun _ => fun
  | [d1, d2] => { results := [.lit (.bool true)], args := [d1, d2] }
  | _ => none }
def logicFaultsRow : OpenClaim := { program := "ytllceoncpgebpaagreatdoor", sum := "64ecdec3d692da1d6b37f7dadc1a5bdd9221bd114d5c7d3f4cb0a5130c909113", func := "octavo/octavolaw19.LogicFaults", spec := "logicFaults", inPlace := ["internal/bytealg.IndexByteString", "internal/bytealg.IndexString"], unfollowed := true, recurses := true, named := ["internal/bytealg.MaxLen", "unicode/utf8.first", "unicode/utf8.acceptRanges"], apart := false, laid := [("unicode/utf8.acceptRanges", laid_unicode_utf8_acceptRanges), ("unicode/utf8.first", laid_unicode_utf8_first)] }
def LogicFaultsSaid : Prop := logicFaultsRow.holds Tryz.pinned (OpenSpec.ofChange logicFaultsSpec)

/-- ITS FALSE NEIGHBOUR: 'it returns false'. Refute it at one input. -/
def logicFaultsWrong : ChangeSpec := { name := "logicFaults", fn := fun _ => fun
  | [d1, d2] => { results := [.lit (.bool false)], args := [d1, d2] }
  | _ => none }
def LogicFaultsWrongFalsely : Prop := logicFaultsRow.holds Tryz.pinned (OpenSpec.ofChange logicFaultsWrong)

/-- 'octavolaw19.LogicTruths': WHATEVER THE INPUT: true; the input reads as it did. -/
def logicTruthsSpec : ChangeSpec := { name := "logicTruths", fn := fun _ => fun
  | [d] => { results := [.lit (.bool true)], args := [d] }
  | _ => none }
def logicTruthsRow : OpenClaim := { program := "ytllceoncpgebpaagreatdoor", sum := "64ecdec3d692da1d6b37f7dadc1a5bdd9221bd114d5c7d3f4cb0a5130c909113", func := "octavo/octavolaw19.LogicTruths", spec := "logicTruths", inPlace := ["internal/bytealg.IndexByteString", "internal/bytealg.IndexString"], unfollowed := true, recurses := true, named := ["internal/bytealg.MaxLen", "unicode/utf8.first", "unicode/utf8.acceptRanges"], apart := false, laid := [("unicode/utf8.acceptRanges", laid_unicode_utf8_acceptRanges), ("unicode/utf8.first", laid_unicode_utf8_first)] }
def LogicTruthsSaid : Prop := logicTruthsRow.holds Tryz.pinned (OpenSpec.ofChange logicTruthsSpec)

/-- ITS FALSE NEIGHBOUR: 'it returns false'. Refute it at one input. -/
def logicTruthsWrong : ChangeSpec := { name := "logicTruths", fn := fun _ => fun
  | [d] => { results := [.lit (.bool false)], args := [d] }
  | _ => none }
def LogicTruthsWrongFalsely : Prop := logicTruthsRow.holds Tryz.pinned (OpenSpec.ofChange logicTruthsWrong)

/-- 'octavolaw19.LogicDays': WHATEVER THE INPUT: true; the input reads as it did. -/
def logicDaysSpec : ChangeSpec := { name := "logicDays", fn := fun _ => fun
  | [d] => { results := [.lit (.bool true)], args := [d] }
  | _ => none }
def logicDaysRow : OpenClaim := { program := "ytllceoncpgebpaagreatdoor", sum := "64ecdec3d692da1d6b37f7dadc1a5bdd9221bd114d5c7d3f4cb0a5130c909113", func := "octavo/octavolaw19.LogicDays", spec := "logicDays", inPlace := ["internal/bytealg.IndexByteString", "internal/bytealg.IndexString"], unfollowed := true, recurses := true, named := ["internal/bytealg.MaxLen", "unicode/utf8.first", "unicode/utf8.acceptRanges"], apart := false, laid := [("unicode/utf8.acceptRanges", laid_unicode_utf8_acceptRanges), ("unicode/utf8.first", laid_unicode_utf8_first)] }
def LogicDaysSaid : Prop := logicDaysRow.holds Tryz.pinned (OpenSpec.ofChange logicDaysSpec)

/-- ITS FALSE NEIGHBOUR: 'it returns false'. Refute it at one input. -/
def logicDaysWrong : ChangeSpec := { name := "logicDays", fn := fun _ => fun
  | [d] => { results := [.lit (.bool false)], args := [d] }
  | _ => none }
def LogicDaysWrongFalsely : Prop := logicDaysRow.holds Tryz.pinned (OpenSpec.ofChange logicDaysWrong)

/-- 'octavolaw19.LogicKinds': WHATEVER THE INPUT: true; the input reads as it did. -/
def logicKindsSpec : ChangeSpec := { name := "logicKinds", fn := fun _ => fun
  | [d] => { results := [.lit (.bool true)], args := [d] }
  | _ => none }
def logicKindsRow : OpenClaim := { program := "ytllceoncpgebpaagreatdoor", sum := "64ecdec3d692da1d6b37f7dadc1a5bdd9221bd114d5c7d3f4cb0a5130c909113", func := "octavo/octavolaw19.LogicKinds", spec := "logicKinds", inPlace := ["internal/bytealg.IndexByteString", "internal/bytealg.IndexString"], unfollowed := true, recurses := true, named := ["internal/bytealg.MaxLen", "unicode/utf8.first", "unicode/utf8.acceptRanges"], apart := false, laid := [("unicode/utf8.acceptRanges", laid_unicode_utf8_acceptRanges), ("unicode/utf8.first", laid_unicode_utf8_first)] }
def LogicKindsSaid : Prop := logicKindsRow.holds Tryz.pinned (OpenSpec.ofChange logicKindsSpec)

/-- ITS FALSE NEIGHBOUR: 'it returns false'. Refute it at one input. -/
def logicKindsWrong : ChangeSpec := { name := "logicKinds", fn := fun _ => fun
  | [d] => { results := [.lit (.bool false)], args := [d] }
  | _ => none }
def LogicKindsWrongFalsely : Prop := logicKindsRow.holds Tryz.pinned (OpenSpec.ofChange logicKindsWrong)

/-- 'octavolaw19.LogicCalls': WHATEVER THE INPUT: true; the input reads as it did. -/
def logicCallsSpec : ChangeSpec := { name := "logicCalls", fn := fun _ => fun
  | [d1, d2] => { results := [.lit (.bool true)], args := [d1, d2] }
  | _ => none }
def logicCallsRow : OpenClaim := { program := "ytllceoncpgebpaagreatdoor", sum := "64ecdec3d692da1d6b37f7dadc1a5bdd9221bd114d5c7d3f4cb0a5130c909113", func := "octavo/octavolaw19.LogicCalls", spec := "logicCalls", inPlace := ["internal/bytealg.IndexByteString", "internal/bytealg.IndexString"], unfollowed := true, recurses := true, named := ["internal/bytealg.MaxLen", "unicode/utf8.first", "unicode/utf8.acceptRanges"], apart := false, laid := [("unicode/utf8.acceptRanges", laid_unicode_utf8_acceptRanges), ("unicode/utf8.first", laid_unicode_utf8_first)] }
def LogicCallsSaid : Prop := logicCallsRow.holds Tryz.pinned (OpenSpec.ofChange logicCallsSpec)

/-- ITS FALSE NEIGHBOUR: 'it returns false'. Refute it at one input. -/
def logicCallsWrong : ChangeSpec := { name := "logicCalls", fn := fun _ => fun
  | [d1, d2] => { results := [.lit (.bool false)], args := [d1, d2] }
  | _ => none }
def LogicCallsWrongFalsely : Prop := logicCallsRow.holds Tryz.pinned (OpenSpec.ofChange logicCallsWrong)

/- THE SECOND FORM. 'bulk': how many values and letters a reading holds, each counted each time it is reached (what is shared counts as often as it is met; a slice's spare places count too). A statement '..UptoSaid' is the law's where the arguments, and the package variables that the reading takes, are together of bulk at most 1048576: NARROWER than '..Said'. Prove '..Said' where nothing that the law and all that it calls make is longer than what came in: it says more and counts as full. Else prove '..UptoSaid'. A law counts once. -/
mutual
def uptoBulk {H : Type} : DataW H → Nat
  | .lit (.string bytes) => bytes.length + 1
  | .lit _ => 1
  | .nil => 1
  | .ptr d => uptoBulk d + 1
  | .slice elems spare => uptoBulkAll elems + uptoBulkAll spare + 1
  | .agg parts => uptoBulkAll parts + 1
  | .iface _ d => uptoBulk d + 1
  | .map entries => uptoBulkEntries entries + 1
  | .held _ => 1
def uptoBulkAll {H : Type} : List (DataW H) → Nat
  | [] => 0
  | d :: r => uptoBulk d + uptoBulkAll r
def uptoBulkEntries {H : Type} : List (Lit × DataW H) → Nat
  | [] => 0
  | x :: r => uptoBulkEntry x + uptoBulkEntries r
def uptoBulkEntry {H : Type} : Lit × DataW H → Nat
  | (.string bytes, d) => bytes.length + uptoBulk d + 1
  | (_, d) => uptoBulk d + 1
 end
def uptoSmall : (H : Type) → List (DataW H) → Bool := fun _ ds => decide (uptoBulkAll ds ≤ 1048576)
def OpenSpec.upto (s : _root_.Go.ChangeSpec) : _root_.Go.OpenSpec := { _root_.Go.OpenSpec.ofChange s with cond := some uptoSmall }

/-- 'octavolaw19.LogicFaults', WHERE WHAT IT READS IS OF BULK AT MOST 1048576: true; the input reads as it did. -/
def logicFaultsUptoRow : OpenClaim := { program := "ytllceoncpgebpaagreatdoor", sum := "64ecdec3d692da1d6b37f7dadc1a5bdd9221bd114d5c7d3f4cb0a5130c909113", func := "octavo/octavolaw19.LogicFaults", spec := "logicFaults", inPlace := ["internal/bytealg.IndexByteString", "internal/bytealg.IndexString"], unfollowed := true, recurses := true, named := ["internal/bytealg.MaxLen", "unicode/utf8.first", "unicode/utf8.acceptRanges"], apart := false, laid := [("unicode/utf8.acceptRanges", laid_unicode_utf8_acceptRanges), ("unicode/utf8.first", laid_unicode_utf8_first)], narrowed := true }
def LogicFaultsUptoSaid : Prop := logicFaultsUptoRow.holds Tryz.pinned (OpenSpec.upto logicFaultsSpec)

/-- 'octavolaw19.LogicTruths', WHERE WHAT IT READS IS OF BULK AT MOST 1048576: true; the input reads as it did. -/
def logicTruthsUptoRow : OpenClaim := { program := "ytllceoncpgebpaagreatdoor", sum := "64ecdec3d692da1d6b37f7dadc1a5bdd9221bd114d5c7d3f4cb0a5130c909113", func := "octavo/octavolaw19.LogicTruths", spec := "logicTruths", inPlace := ["internal/bytealg.IndexByteString", "internal/bytealg.IndexString"], unfollowed := true, recurses := true, named := ["internal/bytealg.MaxLen", "unicode/utf8.first", "unicode/utf8.acceptRanges"], apart := false, laid := [("unicode/utf8.acceptRanges", laid_unicode_utf8_acceptRanges), ("unicode/utf8.first", laid_unicode_utf8_first)], narrowed := true }
def LogicTruthsUptoSaid : Prop := logicTruthsUptoRow.holds Tryz.pinned (OpenSpec.upto logicTruthsSpec)

/-- 'octavolaw19.LogicDays', WHERE WHAT IT READS IS OF BULK AT MOST 1048576: true; the input reads as it did. -/
def logicDaysUptoRow : OpenClaim := { program := "ytllceoncpgebpaagreatdoor", sum := "64ecdec3d692da1d6b37f7dadc1a5bdd9221bd114d5c7d3f4cb0a5130c909113", func := "octavo/octavolaw19.LogicDays", spec := "logicDays", inPlace := ["internal/bytealg.IndexByteString", "internal/bytealg.IndexString"], unfollowed := true, recurses := true, named := ["internal/bytealg.MaxLen", "unicode/utf8.first", "unicode/utf8.acceptRanges"], apart := false, laid := [("unicode/utf8.acceptRanges", laid_unicode_utf8_acceptRanges), ("unicode/utf8.first", laid_unicode_utf8_first)], narrowed := true }
def LogicDaysUptoSaid : Prop := logicDaysUptoRow.holds Tryz.pinned (OpenSpec.upto logicDaysSpec)

/-- 'octavolaw19.LogicKinds', WHERE WHAT IT READS IS OF BULK AT MOST 1048576: true; the input reads as it did. -/
def logicKindsUptoRow : OpenClaim := { program := "ytllceoncpgebpaagreatdoor", sum := "64ecdec3d692da1d6b37f7dadc1a5bdd9221bd114d5c7d3f4cb0a5130c909113", func := "octavo/octavolaw19.LogicKinds", spec := "logicKinds", inPlace := ["internal/bytealg.IndexByteString", "internal/bytealg.IndexString"], unfollowed := true, recurses := true, named := ["internal/bytealg.MaxLen", "unicode/utf8.first", "unicode/utf8.acceptRanges"], apart := false, laid := [("unicode/utf8.acceptRanges", laid_unicode_utf8_acceptRanges), ("unicode/utf8.first", laid_unicode_utf8_first)], narrowed := true }
def LogicKindsUptoSaid : Prop := logicKindsUptoRow.holds Tryz.pinned (OpenSpec.upto logicKindsSpec)

/-- 'octavolaw19.LogicCalls', WHERE WHAT IT READS IS OF BULK AT MOST 1048576: true; the input reads as it did. -/
def logicCallsUptoRow : OpenClaim := { program := "ytllceoncpgebpaagreatdoor", sum := "64ecdec3d692da1d6b37f7dadc1a5bdd9221bd114d5c7d3f4cb0a5130c909113", func := "octavo/octavolaw19.LogicCalls", spec := "logicCalls", inPlace := ["internal/bytealg.IndexByteString", "internal/bytealg.IndexString"], unfollowed := true, recurses := true, named := ["internal/bytealg.MaxLen", "unicode/utf8.first", "unicode/utf8.acceptRanges"], apart := false, laid := [("unicode/utf8.acceptRanges", laid_unicode_utf8_acceptRanges), ("unicode/utf8.first", laid_unicode_utf8_first)], narrowed := true }
def LogicCallsUptoSaid : Prop := logicCallsUptoRow.holds Tryz.pinned (OpenSpec.upto logicCallsSpec)

end Rows
end Go.Proofs.YtllceoncpgebpaaGreatDoor
