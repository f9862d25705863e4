/-
  No cell of these rows narrows 'for every input' (looked for: loops, veiled, ifaces, maps, wideKeys, modest, calm, conditions, laid).
  DERIVED. THE GIVEN ROWS OF THIS SEAT. 4 by the template 'for every input the law returns true; each argument reads behind the call as it read before'; 0 by the template 'total and deterministic' (their statements: YtkkfclpodgagdaaTotals.lean).
  GIVEN WITH THE SEED: the statements are not yours to turn. If you find one false, say at which input.
  Laid BY PROGRAM, IN A SANDBOX (cutbox-rows.mjs): the forced cells as the released guide's own fill.sh prints them over the translation be2375af2a538a1a… (all of the seat's roots in one cut). By AI agents, Wed Nov 11 2026. No macro, syntax, notation, axiom, sorry.
-/
import Derived.Test.YtkkfclpodgagdaaChecked
import GoSem.Claim
import GoSem.ClaimJoined
import GoSem.ClaimMapViews
import Derived.JoinedTies
import Derived.KernelRfl
namespace Go.Proofs.Ytkkfclpodgagdaa
/- THE CELL 'sum', in the pinned program and in every row, IS THE sha256 OF THE DUMP (.gsa) THAT YtkkfclpodgagdaaProg.lean LOADS. Nothing in Lean hashes anything: it is a label: what it is worth is what the hold of that sum in a sandbox is worth. -/
noncomputable def Try.pinned : Pinned := { name := "ytkkfclpodgagdaa", sum := "be2375af2a538a1a974f5c78eeb839028ddc294a62d8d63bc7288c4fc69bd4e2", checked := Try.checked }
namespace Rows
def none {H : Type} : Left H := { results := [], args := [] }

/-- 'octavolaw21.LookupFaults': WHATEVER THE INPUT: true; the input reads as it did. -/
def lookupFaultsSpec : ChangeSpec := { name := "lookupFaults", fn := fun _ => fun
  | [d1, d2] => { results := [.lit (.bool true)], args := [d1, d2] }
  | _ => none }
def lookupFaultsRow : OpenClaim := { program := "ytkkfclpodgagdaa", sum := "be2375af2a538a1a974f5c78eeb839028ddc294a62d8d63bc7288c4fc69bd4e2", func := "octavo/octavolaw21.LookupFaults", spec := "lookupFaults", inPlace := ["internal/bytealg.IndexByteString", "internal/bytealg.IndexString"], unfollowed := true, recurses := true, named := ["internal/bytealg.MaxLen"], plainKeys := false, apart := false }
def LookupFaultsSaid : Prop := lookupFaultsRow.holds Try.pinned (OpenSpec.ofChange lookupFaultsSpec)

/-- ITS FALSE NEIGHBOUR: 'it returns false'. Refute it at one input. -/
def lookupFaultsWrong : ChangeSpec := { name := "lookupFaults", fn := fun _ => fun
  | [d1, d2] => { results := [.lit (.bool false)], args := [d1, d2] }
  | _ => none }
def LookupFaultsWrongFalsely : Prop := lookupFaultsRow.holds Try.pinned (OpenSpec.ofChange lookupFaultsWrong)

/-- 'octavolaw21.LookupNear': WHATEVER THE INPUT: true; the input reads as it did. -/
def lookupNearSpec : ChangeSpec := { name := "lookupNear", fn := fun _ => fun
  | [d1, d2, d3] => { results := [.lit (.bool true)], args := [d1, d2, d3] }
  | _ => none }
def lookupNearRow : OpenClaim := { program := "ytkkfclpodgagdaa", sum := "be2375af2a538a1a974f5c78eeb839028ddc294a62d8d63bc7288c4fc69bd4e2", func := "octavo/octavolaw21.LookupNear", spec := "lookupNear", inPlace := ["internal/bytealg.IndexByteString", "internal/bytealg.IndexString"], unfollowed := true, recurses := true, named := ["internal/bytealg.MaxLen"], plainKeys := false, apart := false }
def LookupNearSaid : Prop := lookupNearRow.holds Try.pinned (OpenSpec.ofChange lookupNearSpec)

/-- ITS FALSE NEIGHBOUR: 'it returns false'. Refute it at one input. -/
def lookupNearWrong : ChangeSpec := { name := "lookupNear", fn := fun _ => fun
  | [d1, d2, d3] => { results := [.lit (.bool false)], args := [d1, d2, d3] }
  | _ => none }
def LookupNearWrongFalsely : Prop := lookupNearRow.holds Try.pinned (OpenSpec.ofChange lookupNearWrong)

/-- 'octavolaw21.LookupSizes': WHATEVER THE INPUT: true; the input reads as it did. -/
def lookupSizesSpec : ChangeSpec := { name := "lookupSizes", fn := fun _ => fun
  | [d1, d2, d3] => { results := [.lit (.bool true)], args := [d1, d2, d3] }
  | _ => none }
def lookupSizesRow : OpenClaim := { program := "ytkkfclpodgagdaa", sum := "be2375af2a538a1a974f5c78eeb839028ddc294a62d8d63bc7288c4fc69bd4e2", func := "octavo/octavolaw21.LookupSizes", spec := "lookupSizes", inPlace := ["internal/bytealg.IndexByteString", "internal/bytealg.IndexString"], unfollowed := true, recurses := true, named := ["internal/bytealg.MaxLen"], plainKeys := false, apart := false }
def LookupSizesSaid : Prop := lookupSizesRow.holds Try.pinned (OpenSpec.ofChange lookupSizesSpec)

/-- ITS FALSE NEIGHBOUR: 'it returns false'. Refute it at one input. -/
def lookupSizesWrong : ChangeSpec := { name := "lookupSizes", fn := fun _ => fun
  | [d1, d2, d3] => { results := [.lit (.bool false)], args := [d1, d2, d3] }
  | _ => none }
def LookupSizesWrongFalsely : Prop := lookupSizesRow.holds Try.pinned (OpenSpec.ofChange lookupSizesWrong)

/-- 'octavolaw21.LookupCounts': WHATEVER THE INPUT: true; the input reads as it did. -/
def lookupCountsSpec : ChangeSpec := { name := "lookupCounts", fn := fun _ => fun
  | [d] => { results := [.lit (.bool true)], args := [d] }
  | _ => none }
def lookupCountsRow : OpenClaim := { program := "ytkkfclpodgagdaa", sum := "be2375af2a538a1a974f5c78eeb839028ddc294a62d8d63bc7288c4fc69bd4e2", func := "octavo/octavolaw21.LookupCounts", spec := "lookupCounts", inPlace := ["internal/bytealg.IndexByteString", "internal/bytealg.IndexString"], unfollowed := true, recurses := true, named := ["internal/bytealg.MaxLen"], plainKeys := false, apart := false }
def LookupCountsSaid : Prop := lookupCountsRow.holds Try.pinned (OpenSpec.ofChange lookupCountsSpec)

/-- ITS FALSE NEIGHBOUR: 'it returns false'. Refute it at one input. -/
def lookupCountsWrong : ChangeSpec := { name := "lookupCounts", fn := fun _ => fun
  | [d] => { results := [.lit (.bool false)], args := [d] }
  | _ => none }
def LookupCountsWrongFalsely : Prop := lookupCountsRow.holds Try.pinned (OpenSpec.ofChange lookupCountsWrong)

/- THE SECOND FORM. 'bulk': how many values and letters a reading holds, each counted each time it is reached (what is shared counts as often as it is met; a slice's spare places count too). A statement '..UptoSaid' is the law's where the arguments, and the package variables that the reading takes, are together of bulk at most 1048576: NARROWER than '..Said'. Prove '..Said' where nothing that the law and all that it calls make is longer than what came in: it says more and counts as full. Else prove '..UptoSaid'. A law counts once. -/
mutual
def uptoBulk {H : Type} : DataW H → Nat
  | .lit (.string bytes) => bytes.length + 1
  | .lit _ => 1
  | .nil => 1
  | .ptr d => uptoBulk d + 1
  | .slice elems spare => uptoBulkAll elems + uptoBulkAll spare + 1
  | .agg parts => uptoBulkAll parts + 1
  | .iface _ d => uptoBulk d + 1
  | .map entries => uptoBulkEntries entries + 1
  | .held _ => 1
def uptoBulkAll {H : Type} : List (DataW H) → Nat
  | [] => 0
  | d :: r => uptoBulk d + uptoBulkAll r
def uptoBulkEntries {H : Type} : List (Lit × DataW H) → Nat
  | [] => 0
  | x :: r => uptoBulkEntry x + uptoBulkEntries r
def uptoBulkEntry {H : Type} : Lit × DataW H → Nat
  | (.string bytes, d) => bytes.length + uptoBulk d + 1
  | (_, d) => uptoBulk d + 1
 end
def uptoSmall : (H : Type) → List (DataW H) → Bool := fun _ ds => decide (uptoBulkAll ds ≤ 1048576)
def OpenSpec.upto (s : _root_.Go.ChangeSpec) : _root_.Go.OpenSpec := { _root_.Go.OpenSpec.ofChange s with cond := some uptoSmall }

/-- 'octavolaw21.LookupFaults', WHERE WHAT IT READS IS OF BULK AT MOST 1048576: true; the input reads as it did. -/
def lookupFaultsUptoRow : OpenClaim := { program := "ytkkfclpodgagdaa", sum := "be2375af2a538a1a974f5c78eeb839028ddc294a62d8d63bc7288c4fc69bd4e2", func := "octavo/octavolaw21.LookupFaults", spec := "lookupFaults", inPlace := ["internal/bytealg.IndexByteString", "internal/bytealg.IndexString"], unfollowed := true, recurses := true, named := ["internal/bytealg.MaxLen"], plainKeys := false, apart := false, narrowed := true }
def LookupFaultsUptoSaid : Prop := lookupFaultsUptoRow.holds Try.pinned (OpenSpec.upto lookupFaultsSpec)

/-- 'octavolaw21.LookupNear', WHERE WHAT IT READS IS OF BULK AT MOST 1048576: true; the input reads as it did. -/
def lookupNearUptoRow : OpenClaim := { program := "ytkkfclpodgagdaa", sum := "be2375af2a538a1a974f5c78eeb839028ddc294a62d8d63bc7288c4fc69bd4e2", func := "octavo/octavolaw21.LookupNear", spec := "lookupNear", inPlace := ["internal/bytealg.IndexByteString", "internal/bytealg.IndexString"], unfollowed := true, recurses := true, named := ["internal/bytealg.MaxLen"], plainKeys := false, apart := false, narrowed := true }
def LookupNearUptoSaid : Prop := lookupNearUptoRow.holds Try.pinned (OpenSpec.upto lookupNearSpec)

/-- 'octavolaw21.LookupSizes', WHERE WHAT IT READS IS OF BULK AT MOST 1048576: true; the input reads as it did. -/
def lookupSizesUptoRow : OpenClaim := { program := "ytkkfclpodgagdaa", sum := "be2375af2a538a1a974f5c78eeb839028ddc294a62d8d63bc7288c4fc69bd4e2", func := "octavo/octavolaw21.LookupSizes", spec := "lookupSizes", inPlace := ["internal/bytealg.IndexByteString", "internal/bytealg.IndexString"], unfollowed := true, recurses := true, named := ["internal/bytealg.MaxLen"], plainKeys := false, apart := false, narrowed := true }
def LookupSizesUptoSaid : Prop := lookupSizesUptoRow.holds Try.pinned (OpenSpec.upto lookupSizesSpec)

/-- 'octavolaw21.LookupCounts', WHERE WHAT IT READS IS OF BULK AT MOST 1048576: true; the input reads as it did. -/
def lookupCountsUptoRow : OpenClaim := { program := "ytkkfclpodgagdaa", sum := "be2375af2a538a1a974f5c78eeb839028ddc294a62d8d63bc7288c4fc69bd4e2", func := "octavo/octavolaw21.LookupCounts", spec := "lookupCounts", inPlace := ["internal/bytealg.IndexByteString", "internal/bytealg.IndexString"], unfollowed := true, recurses := true, named := ["internal/bytealg.MaxLen"], plainKeys := false, apart := false, narrowed := true }
def LookupCountsUptoSaid : Prop := lookupCountsUptoRow.holds Try.pinned (OpenSpec.upto lookupCountsSpec)

end Rows
end Go.Proofs.Ytkkfclpodgagdaa
