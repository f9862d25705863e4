/-
  NARROWER THAN 'FOR EVERY INPUT', by the rows' own cells (each row's printed sentence says how): MathsFaults: laid · MathsAreas: laid · MathsBases: laid · MathsDivides: laid · MathsRounds: laid · MathsCalls: laid.
  DERIVED. THE GIVEN ROWS OF THIS SEAT. 6 by the template 'for every input the law returns true; each argument reads behind the call as it read before'; 0 by the template 'total and deterministic' (their statements: YtnpcmgajplikbaaGreatDoorTotals.lean).
  GIVEN WITH THE SEED: the statements are not yours to turn. If you find one false, say at which input.
  Laid BY PROGRAM, IN A SANDBOX (cutbox-rows.mjs): the forced cells as the released guide's own fill.sh prints them over the translation ed302d2c18ccaafe… (all of the seat's roots in one cut). By AI agents, Wed Nov 11 2026. No macro, syntax, notation, axiom, sorry.
-/
import Derived.Test.YtnpcmgajplikbaaGreatDoorChecked
import GoSem.PinnedTables
import GoSem.Claim
import GoSem.ClaimJoined
import GoSem.ClaimMapViews
import Derived.JoinedTies
import Derived.KernelRfl
namespace Go.Proofs.YtnpcmgajplikbaaGreatDoor
/- THE CELL 'sum', in the pinned program and in every row, IS THE sha256 OF THE DUMP (.gsa) THAT YtnpcmgajplikbaaGreatDoorProg.lean LOADS. Nothing in Lean hashes anything: it is a label: what it is worth is what the hold of that sum in a sandbox is worth. -/
noncomputable def Tryz.pinned : Pinned := { name := "ytnpcmgajplikbaagreatdoor", sum := "ed302d2c18ccaafe410bd4ed30f993994ded4993dd8b37692d43e9783004e738", checked := Tryz.checked }
namespace Rows
def none {H : Type} : Left H := { results := [], args := [] }

/- WHAT THE LISTED PACKAGE-LEVEL VARIABLES READ AS WHEN THE CALL BEGINS. Each datum BY PROGRAM (the guide's laid-datum.mjs) off the statement by which the dump's own 'gosem.cut.vars' lays the variable. In a bare row this is a premise. The card (YtnpcmgajplikbaaGreatDoorCards.lean) ties it to the program's text. -/
def laid_unicode_utf8_acceptRanges {H : Type} : DataW H := .agg [.agg [.lit (.int .u8 128), .lit (.int .u8 191)], .agg [.lit (.int .u8 160), .lit (.int .u8 191)], .agg [.lit (.int .u8 128), .lit (.int .u8 159)], .agg [.lit (.int .u8 144), .lit (.int .u8 191)], .agg [.lit (.int .u8 128), .lit (.int .u8 143)], .agg [.lit (.int .u8 0), .lit (.int .u8 0)], .agg [.lit (.int .u8 0), .lit (.int .u8 0)], .agg [.lit (.int .u8 0), .lit (.int .u8 0)], .agg [.lit (.int .u8 0), .lit (.int .u8 0)], .agg [.lit (.int .u8 0), .lit (.int .u8 0)], .agg [.lit (.int .u8 0), .lit (.int .u8 0)], .agg [.lit (.int .u8 0), .lit (.int .u8 0)], .agg [.lit (.int .u8 0), .lit (.int .u8 0)], .agg [.lit (.int .u8 0), .lit (.int .u8 0)], .agg [.lit (.int .u8 0), .lit (.int .u8 0)], .agg [.lit (.int .u8 0), .lit (.int .u8 0)]]
/-- One of Go's own tables, pinned by name: the form's constant. -/
def laid_unicode_utf8_first : DataW Unit := Go.Pinned.utf8First

/-- 'octavolaw17.MathsFaults': WHATEVER THE INPUT: true; the input reads as it did. -/
def mathsFaultsSpec : ChangeSpec := { name := "mathsFaults", fn := fun _ => fun
  | [d1, d2] => { results := [.lit (.bool true)], args := [d1, d2] }
  | _ => none }
def mathsFaultsRow : OpenClaim := { program := "ytnpcmgajplikbaagreatdoor", sum := "ed302d2c18ccaafe410bd4ed30f993994ded4993dd8b37692d43e9783004e738", func := "octavo/octavolaw17.MathsFaults", spec := "mathsFaults", inPlace := ["internal/bytealg.IndexByteString", "internal/bytealg.IndexString", "math/bits.Add64"], unfollowed := true, recurses := true, named := ["internal/bytealg.MaxLen", "math/bits.divideError", "math/bits.overflowError", "unicode/utf8.first", "unicode/utf8.acceptRanges"], apart := false, laid := [("unicode/utf8.acceptRanges", laid_unicode_utf8_acceptRanges), ("unicode/utf8.first", laid_unicode_utf8_first)] }
def MathsFaultsSaid : Prop := mathsFaultsRow.holds Tryz.pinned (OpenSpec.ofChange mathsFaultsSpec)

/-- ITS FALSE NEIGHBOUR: 'it returns false'. Refute it at one input. -/
def mathsFaultsWrong : ChangeSpec := { name := "mathsFaults", fn := fun _ => fun
  | [d1, d2] => { results := [.lit (.bool false)], args := [d1, d2] }
  | _ => none }
def MathsFaultsWrongFalsely : Prop := mathsFaultsRow.holds Tryz.pinned (OpenSpec.ofChange mathsFaultsWrong)

/-- 'octavolaw17.MathsAreas': WHATEVER THE INPUT: true; the input reads as it did. -/
def mathsAreasSpec : ChangeSpec := { name := "mathsAreas", fn := fun _ => fun
  | [d] => { results := [.lit (.bool true)], args := [d] }
  | _ => none }
def mathsAreasRow : OpenClaim := { program := "ytnpcmgajplikbaagreatdoor", sum := "ed302d2c18ccaafe410bd4ed30f993994ded4993dd8b37692d43e9783004e738", func := "octavo/octavolaw17.MathsAreas", spec := "mathsAreas", inPlace := ["internal/bytealg.IndexByteString", "internal/bytealg.IndexString", "math/bits.Add64"], unfollowed := true, recurses := true, named := ["internal/bytealg.MaxLen", "math/bits.divideError", "math/bits.overflowError", "unicode/utf8.first", "unicode/utf8.acceptRanges"], apart := false, laid := [("unicode/utf8.acceptRanges", laid_unicode_utf8_acceptRanges), ("unicode/utf8.first", laid_unicode_utf8_first)] }
def MathsAreasSaid : Prop := mathsAreasRow.holds Tryz.pinned (OpenSpec.ofChange mathsAreasSpec)

/-- ITS FALSE NEIGHBOUR: 'it returns false'. Refute it at one input. -/
def mathsAreasWrong : ChangeSpec := { name := "mathsAreas", fn := fun _ => fun
  | [d] => { results := [.lit (.bool false)], args := [d] }
  | _ => none }
def MathsAreasWrongFalsely : Prop := mathsAreasRow.holds Tryz.pinned (OpenSpec.ofChange mathsAreasWrong)

/-- 'octavolaw17.MathsBases': WHATEVER THE INPUT: true; the input reads as it did. -/
def mathsBasesSpec : ChangeSpec := { name := "mathsBases", fn := fun _ => fun
  | [d1, d2] => { results := [.lit (.bool true)], args := [d1, d2] }
  | _ => none }
def mathsBasesRow : OpenClaim := { program := "ytnpcmgajplikbaagreatdoor", sum := "ed302d2c18ccaafe410bd4ed30f993994ded4993dd8b37692d43e9783004e738", func := "octavo/octavolaw17.MathsBases", spec := "mathsBases", inPlace := ["internal/bytealg.IndexByteString", "internal/bytealg.IndexString", "math/bits.Add64"], unfollowed := true, recurses := true, named := ["internal/bytealg.MaxLen", "math/bits.divideError", "math/bits.overflowError", "unicode/utf8.first", "unicode/utf8.acceptRanges"], apart := false, laid := [("unicode/utf8.acceptRanges", laid_unicode_utf8_acceptRanges), ("unicode/utf8.first", laid_unicode_utf8_first)] }
def MathsBasesSaid : Prop := mathsBasesRow.holds Tryz.pinned (OpenSpec.ofChange mathsBasesSpec)

/-- ITS FALSE NEIGHBOUR: 'it returns false'. Refute it at one input. -/
def mathsBasesWrong : ChangeSpec := { name := "mathsBases", fn := fun _ => fun
  | [d1, d2] => { results := [.lit (.bool false)], args := [d1, d2] }
  | _ => none }
def MathsBasesWrongFalsely : Prop := mathsBasesRow.holds Tryz.pinned (OpenSpec.ofChange mathsBasesWrong)

/-- 'octavolaw17.MathsDivides': WHATEVER THE INPUT: true; the input reads as it did. -/
def mathsDividesSpec : ChangeSpec := { name := "mathsDivides", fn := fun _ => fun
  | [d1, d2] => { results := [.lit (.bool true)], args := [d1, d2] }
  | _ => none }
def mathsDividesRow : OpenClaim := { program := "ytnpcmgajplikbaagreatdoor", sum := "ed302d2c18ccaafe410bd4ed30f993994ded4993dd8b37692d43e9783004e738", func := "octavo/octavolaw17.MathsDivides", spec := "mathsDivides", inPlace := ["internal/bytealg.IndexByteString", "internal/bytealg.IndexString", "math/bits.Add64"], unfollowed := true, recurses := true, named := ["internal/bytealg.MaxLen", "math/bits.divideError", "math/bits.overflowError", "unicode/utf8.first", "unicode/utf8.acceptRanges"], apart := false, laid := [("unicode/utf8.acceptRanges", laid_unicode_utf8_acceptRanges), ("unicode/utf8.first", laid_unicode_utf8_first)] }
def MathsDividesSaid : Prop := mathsDividesRow.holds Tryz.pinned (OpenSpec.ofChange mathsDividesSpec)

/-- ITS FALSE NEIGHBOUR: 'it returns false'. Refute it at one input. -/
def mathsDividesWrong : ChangeSpec := { name := "mathsDivides", fn := fun _ => fun
  | [d1, d2] => { results := [.lit (.bool false)], args := [d1, d2] }
  | _ => none }
def MathsDividesWrongFalsely : Prop := mathsDividesRow.holds Tryz.pinned (OpenSpec.ofChange mathsDividesWrong)

/-- 'octavolaw17.MathsRounds': WHATEVER THE INPUT: true; the input reads as it did. -/
def mathsRoundsSpec : ChangeSpec := { name := "mathsRounds", fn := fun _ => fun
  | [d1, d2] => { results := [.lit (.bool true)], args := [d1, d2] }
  | _ => none }
def mathsRoundsRow : OpenClaim := { program := "ytnpcmgajplikbaagreatdoor", sum := "ed302d2c18ccaafe410bd4ed30f993994ded4993dd8b37692d43e9783004e738", func := "octavo/octavolaw17.MathsRounds", spec := "mathsRounds", inPlace := ["internal/bytealg.IndexByteString", "internal/bytealg.IndexString", "math/bits.Add64"], unfollowed := true, recurses := true, named := ["internal/bytealg.MaxLen", "math/bits.divideError", "math/bits.overflowError", "unicode/utf8.first", "unicode/utf8.acceptRanges"], apart := false, laid := [("unicode/utf8.acceptRanges", laid_unicode_utf8_acceptRanges), ("unicode/utf8.first", laid_unicode_utf8_first)] }
def MathsRoundsSaid : Prop := mathsRoundsRow.holds Tryz.pinned (OpenSpec.ofChange mathsRoundsSpec)

/-- ITS FALSE NEIGHBOUR: 'it returns false'. Refute it at one input. -/
def mathsRoundsWrong : ChangeSpec := { name := "mathsRounds", fn := fun _ => fun
  | [d1, d2] => { results := [.lit (.bool false)], args := [d1, d2] }
  | _ => none }
def MathsRoundsWrongFalsely : Prop := mathsRoundsRow.holds Tryz.pinned (OpenSpec.ofChange mathsRoundsWrong)

/-- 'octavolaw17.MathsCalls': WHATEVER THE INPUT: true; the input reads as it did. -/
def mathsCallsSpec : ChangeSpec := { name := "mathsCalls", fn := fun _ => fun
  | [d1, d2] => { results := [.lit (.bool true)], args := [d1, d2] }
  | _ => none }
def mathsCallsRow : OpenClaim := { program := "ytnpcmgajplikbaagreatdoor", sum := "ed302d2c18ccaafe410bd4ed30f993994ded4993dd8b37692d43e9783004e738", func := "octavo/octavolaw17.MathsCalls", spec := "mathsCalls", inPlace := ["internal/bytealg.IndexByteString", "internal/bytealg.IndexString", "math/bits.Add64"], unfollowed := true, recurses := true, named := ["internal/bytealg.MaxLen", "math/bits.divideError", "math/bits.overflowError", "unicode/utf8.first", "unicode/utf8.acceptRanges"], apart := false, laid := [("unicode/utf8.acceptRanges", laid_unicode_utf8_acceptRanges), ("unicode/utf8.first", laid_unicode_utf8_first)] }
def MathsCallsSaid : Prop := mathsCallsRow.holds Tryz.pinned (OpenSpec.ofChange mathsCallsSpec)

/-- ITS FALSE NEIGHBOUR: 'it returns false'. Refute it at one input. -/
def mathsCallsWrong : ChangeSpec := { name := "mathsCalls", fn := fun _ => fun
  | [d1, d2] => { results := [.lit (.bool false)], args := [d1, d2] }
  | _ => none }
def MathsCallsWrongFalsely : Prop := mathsCallsRow.holds Tryz.pinned (OpenSpec.ofChange mathsCallsWrong)

/- THE SECOND FORM. 'bulk': how many values and letters a reading holds, each counted each time it is reached (what is shared counts as often as it is met; a slice's spare places count too). A statement '..UptoSaid' is the law's where the arguments, and the package variables that the reading takes, are together of bulk at most 1048576: NARROWER than '..Said'. Prove '..Said' where nothing that the law and all that it calls make is longer than what came in: it says more and counts as full. Else prove '..UptoSaid'. A law counts once. -/
mutual
def uptoBulk {H : Type} : DataW H → Nat
  | .lit (.string bytes) => bytes.length + 1
  | .lit _ => 1
  | .nil => 1
  | .ptr d => uptoBulk d + 1
  | .slice elems spare => uptoBulkAll elems + uptoBulkAll spare + 1
  | .agg parts => uptoBulkAll parts + 1
  | .iface _ d => uptoBulk d + 1
  | .map entries => uptoBulkEntries entries + 1
  | .held _ => 1
def uptoBulkAll {H : Type} : List (DataW H) → Nat
  | [] => 0
  | d :: r => uptoBulk d + uptoBulkAll r
def uptoBulkEntries {H : Type} : List (Lit × DataW H) → Nat
  | [] => 0
  | x :: r => uptoBulkEntry x + uptoBulkEntries r
def uptoBulkEntry {H : Type} : Lit × DataW H → Nat
  | (.string bytes, d) => bytes.length + uptoBulk d + 1
  | (_, d) => uptoBulk d + 1
 end
def uptoSmall : (H : Type) → List (DataW H) → Bool := fun _ ds => decide (uptoBulkAll ds ≤ 1048576)
def OpenSpec.upto (s : _root_.Go.ChangeSpec) : _root_.Go.OpenSpec := { _root_.Go.OpenSpec.ofChange s with cond := some uptoSmall }

/-- 'octavolaw17.MathsFaults', WHERE WHAT IT READS IS OF BULK AT MOST 1048576: true; the input reads as it did. -/
def mathsFaultsUptoRow : OpenClaim := { program := "ytnpcmgajplikbaagreatdoor", sum := "ed302d2c18ccaafe410bd4ed30f993994ded4993dd8b37692d43e9783004e738", func := "octavo/octavolaw17.MathsFaults", spec := "mathsFaults", inPlace := ["internal/bytealg.IndexByteString", "internal/bytealg.IndexString", "math/bits.Add64"], unfollowed := true, recurses := true, named := ["internal/bytealg.MaxLen", "math/bits.divideError", "math/bits.overflowError", "unicode/utf8.first", "unicode/utf8.acceptRanges"], apart := false, laid := [("unicode/utf8.acceptRanges", laid_unicode_utf8_acceptRanges), ("unicode/utf8.first", laid_unicode_utf8_first)], narrowed := true }
def MathsFaultsUptoSaid : Prop := mathsFaultsUptoRow.holds Tryz.pinned (OpenSpec.upto mathsFaultsSpec)

/-- 'octavolaw17.MathsAreas', WHERE WHAT IT READS IS OF BULK AT MOST 1048576: true; the input reads as it did. -/
def mathsAreasUptoRow : OpenClaim := { program := "ytnpcmgajplikbaagreatdoor", sum := "ed302d2c18ccaafe410bd4ed30f993994ded4993dd8b37692d43e9783004e738", func := "octavo/octavolaw17.MathsAreas", spec := "mathsAreas", inPlace := ["internal/bytealg.IndexByteString", "internal/bytealg.IndexString", "math/bits.Add64"], unfollowed := true, recurses := true, named := ["internal/bytealg.MaxLen", "math/bits.divideError", "math/bits.overflowError", "unicode/utf8.first", "unicode/utf8.acceptRanges"], apart := false, laid := [("unicode/utf8.acceptRanges", laid_unicode_utf8_acceptRanges), ("unicode/utf8.first", laid_unicode_utf8_first)], narrowed := true }
def MathsAreasUptoSaid : Prop := mathsAreasUptoRow.holds Tryz.pinned (OpenSpec.upto mathsAreasSpec)

/-- 'octavolaw17.MathsBases', WHERE WHAT IT READS IS OF BULK AT MOST 1048576: true; the input reads as it did. -/
def mathsBasesUptoRow : OpenClaim := { program := "ytnpcmgajplikbaagreatdoor", sum := "ed302d2c18ccaafe410bd4ed30f993994ded4993dd8b37692d43e9783004e738", func := "octavo/octavolaw17.MathsBases", spec := "mathsBases", inPlace := ["internal/bytealg.IndexByteString", "internal/bytealg.IndexString", "math/bits.Add64"], unfollowed := true, recurses := true, named := ["internal/bytealg.MaxLen", "math/bits.divideError", "math/bits.overflowError", "unicode/utf8.first", "unicode/utf8.acceptRanges"], apart := false, laid := [("unicode/utf8.acceptRanges", laid_unicode_utf8_acceptRanges), ("unicode/utf8.first", laid_unicode_utf8_first)], narrowed := true }
def MathsBasesUptoSaid : Prop := mathsBasesUptoRow.holds Tryz.pinned (OpenSpec.upto mathsBasesSpec)

/-- 'octavolaw17.MathsDivides', WHERE WHAT IT READS IS OF BULK AT MOST 1048576: true; the input reads as it did. -/
def mathsDividesUptoRow : OpenClaim := { program := "ytnpcmgajplikbaagreatdoor", sum := "ed302d2c18ccaafe410bd4ed30f993994ded4993dd8b37692d43e9783004e738", func := "octavo/octavolaw17.MathsDivides", spec := "mathsDivides", inPlace := ["internal/bytealg.IndexByteString", "internal/bytealg.IndexString", "math/bits.Add64"], unfollowed := true, recurses := true, named := ["internal/bytealg.MaxLen", "math/bits.divideError", "math/bits.overflowError", "unicode/utf8.first", "unicode/utf8.acceptRanges"], apart := false, laid := [("unicode/utf8.acceptRanges", laid_unicode_utf8_acceptRanges), ("unicode/utf8.first", laid_unicode_utf8_first)], narrowed := true }
def MathsDividesUptoSaid : Prop := mathsDividesUptoRow.holds Tryz.pinned (OpenSpec.upto mathsDividesSpec)

/-- 'octavolaw17.MathsRounds', WHERE WHAT IT READS IS OF BULK AT MOST 1048576: true; the input reads as it did. -/
def mathsRoundsUptoRow : OpenClaim := { program := "ytnpcmgajplikbaagreatdoor", sum := "ed302d2c18ccaafe410bd4ed30f993994ded4993dd8b37692d43e9783004e738", func := "octavo/octavolaw17.MathsRounds", spec := "mathsRounds", inPlace := ["internal/bytealg.IndexByteString", "internal/bytealg.IndexString", "math/bits.Add64"], unfollowed := true, recurses := true, named := ["internal/bytealg.MaxLen", "math/bits.divideError", "math/bits.overflowError", "unicode/utf8.first", "unicode/utf8.acceptRanges"], apart := false, laid := [("unicode/utf8.acceptRanges", laid_unicode_utf8_acceptRanges), ("unicode/utf8.first", laid_unicode_utf8_first)], narrowed := true }
def MathsRoundsUptoSaid : Prop := mathsRoundsUptoRow.holds Tryz.pinned (OpenSpec.upto mathsRoundsSpec)

/-- 'octavolaw17.MathsCalls', WHERE WHAT IT READS IS OF BULK AT MOST 1048576: true; the input reads as it did. -/
def mathsCallsUptoRow : OpenClaim := { program := "ytnpcmgajplikbaagreatdoor", sum := "ed302d2c18ccaafe410bd4ed30f993994ded4993dd8b37692d43e9783004e738", func := "octavo/octavolaw17.MathsCalls", spec := "mathsCalls", inPlace := ["internal/bytealg.IndexByteString", "internal/bytealg.IndexString", "math/bits.Add64"], unfollowed := true, recurses := true, named := ["internal/bytealg.MaxLen", "math/bits.divideError", "math/bits.overflowError", "unicode/utf8.first", "unicode/utf8.acceptRanges"], apart := false, laid := [("unicode/utf8.acceptRanges", laid_unicode_utf8_acceptRanges), ("unicode/utf8.first", laid_unicode_utf8_first)], narrowed := true }
def MathsCallsUptoSaid : Prop := mathsCallsUptoRow.holds Tryz.pinned (OpenSpec.upto mathsCallsSpec)

end Rows
end Go.Proofs.YtnpcmgajplikbaaGreatDoor
