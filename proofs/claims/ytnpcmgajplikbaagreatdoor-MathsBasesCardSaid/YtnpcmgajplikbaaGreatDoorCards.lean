/-
  DERIVED. GIVEN WITH THE SEED: THE CARDS: each row of YtnpcmgajplikbaaGreatDoorRows.lean that lists a variable, with what it lists TIED to the program's text (the seventh form; the later family's looks); each row that meets fmt, with fmt's text TOLD by the authors' own Lean function (tested against real Go, not proved from fmt's source: count such statements apart). THE CARD IS WHAT COUNTS. Prove the row's statement (the work); the ties are given (YtnpcmgajplikbaaGreatDoorTie.lean); close each card by the builder's one call (the guide's Derived/Test/ToyasCard.lean, 'card_holds'). Laid BY PROGRAM, IN A SANDBOX (cutbox-door.mjs). By AI agents, Wed Nov 11 2026. No macro, syntax, notation, axiom, sorry.
-/
import Derived.Test.YtnpcmgajplikbaaGreatDoorRows
import GoSem.ClaimSeven
namespace Go.Proofs.YtnpcmgajplikbaaGreatDoor
namespace Rows

/-- THE TIED CARD OF 'octavolaw17.MathsFaults'. -/
def mathsFaultsCard : Claim7 := { stood := { row := mathsFaultsRow, standIns := [], harness := (true, "88be65e99e57712ef3d1bde0b9802312cd9c1445f0f8b37f2727ec75981e3669"), looks := true }, kinds := [], alts := [], laidByText := true, laidKinds := [.data, .pinned], laidTests := true, laidLooks := .later }
def MathsFaultsCardSaid : Prop := Claim7.holds Tryz.pinned (.plain (OpenSpec.ofChange mathsFaultsSpec)) mathsFaultsCard

/-- THE TIED CARD OF 'octavolaw17.MathsAreas'. -/
def mathsAreasCard : Claim7 := { stood := { row := mathsAreasRow, standIns := [], harness := (true, "88be65e99e57712ef3d1bde0b9802312cd9c1445f0f8b37f2727ec75981e3669"), looks := true }, kinds := [], alts := [], laidByText := true, laidKinds := [.data, .pinned], laidTests := true, laidLooks := .later }
def MathsAreasCardSaid : Prop := Claim7.holds Tryz.pinned (.plain (OpenSpec.ofChange mathsAreasSpec)) mathsAreasCard

/-- THE TIED CARD OF 'octavolaw17.MathsBases'. -/
def mathsBasesCard : Claim7 := { stood := { row := mathsBasesRow, standIns := [], harness := (true, "88be65e99e57712ef3d1bde0b9802312cd9c1445f0f8b37f2727ec75981e3669"), looks := true }, kinds := [], alts := [], laidByText := true, laidKinds := [.data, .pinned], laidTests := true, laidLooks := .later }
def MathsBasesCardSaid : Prop := Claim7.holds Tryz.pinned (.plain (OpenSpec.ofChange mathsBasesSpec)) mathsBasesCard

/-- THE TIED CARD OF 'octavolaw17.MathsDivides'. -/
def mathsDividesCard : Claim7 := { stood := { row := mathsDividesRow, standIns := [], harness := (true, "88be65e99e57712ef3d1bde0b9802312cd9c1445f0f8b37f2727ec75981e3669"), looks := true }, kinds := [], alts := [], laidByText := true, laidKinds := [.data, .pinned], laidTests := true, laidLooks := .later }
def MathsDividesCardSaid : Prop := Claim7.holds Tryz.pinned (.plain (OpenSpec.ofChange mathsDividesSpec)) mathsDividesCard

/-- THE TIED CARD OF 'octavolaw17.MathsRounds'. -/
def mathsRoundsCard : Claim7 := { stood := { row := mathsRoundsRow, standIns := [], harness := (true, "88be65e99e57712ef3d1bde0b9802312cd9c1445f0f8b37f2727ec75981e3669"), looks := true }, kinds := [], alts := [], laidByText := true, laidKinds := [.data, .pinned], laidTests := true, laidLooks := .later }
def MathsRoundsCardSaid : Prop := Claim7.holds Tryz.pinned (.plain (OpenSpec.ofChange mathsRoundsSpec)) mathsRoundsCard

/-- THE TIED CARD OF 'octavolaw17.MathsCalls'. -/
def mathsCallsCard : Claim7 := { stood := { row := mathsCallsRow, standIns := [], harness := (true, "88be65e99e57712ef3d1bde0b9802312cd9c1445f0f8b37f2727ec75981e3669"), looks := true }, kinds := [], alts := [], laidByText := true, laidKinds := [.data, .pinned], laidTests := true, laidLooks := .later }
def MathsCallsCardSaid : Prop := Claim7.holds Tryz.pinned (.plain (OpenSpec.ofChange mathsCallsSpec)) mathsCallsCard

/-- THE SECOND FORM's CARD OF 'octavolaw17.MathsFaults'. -/
def mathsFaultsUptoCard : Claim7 := { stood := { row := mathsFaultsUptoRow, standIns := [], harness := (true, "88be65e99e57712ef3d1bde0b9802312cd9c1445f0f8b37f2727ec75981e3669"), looks := true }, kinds := [], alts := [], laidByText := true, laidKinds := [.data, .pinned], laidTests := true, laidLooks := .later }
def MathsFaultsUptoCardSaid : Prop := Claim7.holds Tryz.pinned (.plain (OpenSpec.upto mathsFaultsSpec)) mathsFaultsUptoCard

/-- THE SECOND FORM's CARD OF 'octavolaw17.MathsAreas'. -/
def mathsAreasUptoCard : Claim7 := { stood := { row := mathsAreasUptoRow, standIns := [], harness := (true, "88be65e99e57712ef3d1bde0b9802312cd9c1445f0f8b37f2727ec75981e3669"), looks := true }, kinds := [], alts := [], laidByText := true, laidKinds := [.data, .pinned], laidTests := true, laidLooks := .later }
def MathsAreasUptoCardSaid : Prop := Claim7.holds Tryz.pinned (.plain (OpenSpec.upto mathsAreasSpec)) mathsAreasUptoCard

/-- THE SECOND FORM's CARD OF 'octavolaw17.MathsBases'. -/
def mathsBasesUptoCard : Claim7 := { stood := { row := mathsBasesUptoRow, standIns := [], harness := (true, "88be65e99e57712ef3d1bde0b9802312cd9c1445f0f8b37f2727ec75981e3669"), looks := true }, kinds := [], alts := [], laidByText := true, laidKinds := [.data, .pinned], laidTests := true, laidLooks := .later }
def MathsBasesUptoCardSaid : Prop := Claim7.holds Tryz.pinned (.plain (OpenSpec.upto mathsBasesSpec)) mathsBasesUptoCard

/-- THE SECOND FORM's CARD OF 'octavolaw17.MathsDivides'. -/
def mathsDividesUptoCard : Claim7 := { stood := { row := mathsDividesUptoRow, standIns := [], harness := (true, "88be65e99e57712ef3d1bde0b9802312cd9c1445f0f8b37f2727ec75981e3669"), looks := true }, kinds := [], alts := [], laidByText := true, laidKinds := [.data, .pinned], laidTests := true, laidLooks := .later }
def MathsDividesUptoCardSaid : Prop := Claim7.holds Tryz.pinned (.plain (OpenSpec.upto mathsDividesSpec)) mathsDividesUptoCard

/-- THE SECOND FORM's CARD OF 'octavolaw17.MathsRounds'. -/
def mathsRoundsUptoCard : Claim7 := { stood := { row := mathsRoundsUptoRow, standIns := [], harness := (true, "88be65e99e57712ef3d1bde0b9802312cd9c1445f0f8b37f2727ec75981e3669"), looks := true }, kinds := [], alts := [], laidByText := true, laidKinds := [.data, .pinned], laidTests := true, laidLooks := .later }
def MathsRoundsUptoCardSaid : Prop := Claim7.holds Tryz.pinned (.plain (OpenSpec.upto mathsRoundsSpec)) mathsRoundsUptoCard

/-- THE SECOND FORM's CARD OF 'octavolaw17.MathsCalls'. -/
def mathsCallsUptoCard : Claim7 := { stood := { row := mathsCallsUptoRow, standIns := [], harness := (true, "88be65e99e57712ef3d1bde0b9802312cd9c1445f0f8b37f2727ec75981e3669"), looks := true }, kinds := [], alts := [], laidByText := true, laidKinds := [.data, .pinned], laidTests := true, laidLooks := .later }
def MathsCallsUptoCardSaid : Prop := Claim7.holds Tryz.pinned (.plain (OpenSpec.upto mathsCallsSpec)) mathsCallsUptoCard
end Rows
end Go.Proofs.YtnpcmgajplikbaaGreatDoor
