/-
  DERIVED. GIVEN WITH THE SEED: THE CARDS: each row of YtcbknemdidehlaaGreatDoorRows.lean that lists a variable, with what it lists TIED to the program's text (the seventh form; the later family's looks); each row that meets fmt, with fmt's text TOLD by the authors' own Lean function (tested against real Go, not proved from fmt's source: count such statements apart). THE CARD IS WHAT COUNTS. Prove the row's statement (the work); the ties are given (YtcbknemdidehlaaGreatDoorTie.lean); close each card by the builder's one call (the guide's Derived/Test/ToyasCard.lean, 'card_holds'). Laid BY PROGRAM, IN A SANDBOX (cutbox-door.mjs). By AI agents, Wed Nov 11 2026. No macro, syntax, notation, axiom, sorry.
-/
import Derived.Test.YtcbknemdidehlaaGreatDoorRows
import GoSem.ClaimSeven
namespace Go.Proofs.YtcbknemdidehlaaGreatDoor
namespace Rows

/-- THE TIED CARD OF 'octavolaw18.TextsFaults'. -/
def textsFaultsCard : Claim7 := { stood := { row := textsFaultsRow, standIns := [], harness := (true, "2c51dd5fe2b7c13cb9f22f83cd6044b84c269d83349e42c4d42fd141c9d112e0"), looks := true }, kinds := [], alts := [], laidByText := true, laidKinds := [.data, .pinned], laidTests := true, laidLooks := .later }
def TextsFaultsCardSaid : Prop := Claim7.holds Tryz.pinned (.plain (OpenSpec.ofChange textsFaultsSpec)) textsFaultsCard

/-- THE TIED CARD OF 'octavolaw18.TextsParts'. -/
def textsPartsCard : Claim7 := { stood := { row := textsPartsRow, standIns := [], harness := (true, "2c51dd5fe2b7c13cb9f22f83cd6044b84c269d83349e42c4d42fd141c9d112e0"), looks := true }, kinds := [], alts := [], laidByText := true, laidKinds := [.data, .pinned], laidTests := true, laidLooks := .later }
def TextsPartsCardSaid : Prop := Claim7.holds Tryz.pinned (.plain (OpenSpec.ofChange textsPartsSpec)) textsPartsCard

/-- THE TIED CARD OF 'octavolaw18.TextsTurns'. -/
def textsTurnsCard : Claim7 := { stood := { row := textsTurnsRow, standIns := [], harness := (true, "2c51dd5fe2b7c13cb9f22f83cd6044b84c269d83349e42c4d42fd141c9d112e0"), looks := true }, kinds := [], alts := [], laidByText := true, laidKinds := [.data, .pinned], laidTests := true, laidLooks := .later }
def TextsTurnsCardSaid : Prop := Claim7.holds Tryz.pinned (.plain (OpenSpec.ofChange textsTurnsSpec)) textsTurnsCard

/-- THE TIED CARD OF 'octavolaw18.TextsFinds'. -/
def textsFindsCard : Claim7 := { stood := { row := textsFindsRow, standIns := [], harness := (true, "2c51dd5fe2b7c13cb9f22f83cd6044b84c269d83349e42c4d42fd141c9d112e0"), looks := true }, kinds := [], alts := [], laidByText := true, laidKinds := [.data, .pinned], laidTests := true, laidLooks := .later }
def TextsFindsCardSaid : Prop := Claim7.holds Tryz.pinned (.plain (OpenSpec.ofChange textsFindsSpec)) textsFindsCard

/-- THE TIED CARD OF 'octavolaw18.TextsTimes'. -/
def textsTimesCard : Claim7 := { stood := { row := textsTimesRow, standIns := [], harness := (true, "2c51dd5fe2b7c13cb9f22f83cd6044b84c269d83349e42c4d42fd141c9d112e0"), looks := true }, kinds := [], alts := [], laidByText := true, laidKinds := [.data, .pinned], laidTests := true, laidLooks := .later }
def TextsTimesCardSaid : Prop := Claim7.holds Tryz.pinned (.plain (OpenSpec.ofChange textsTimesSpec)) textsTimesCard

/-- THE TIED CARD OF 'octavolaw18.TextsCalls'. -/
def textsCallsCard : Claim7 := { stood := { row := textsCallsRow, standIns := [], harness := (true, "2c51dd5fe2b7c13cb9f22f83cd6044b84c269d83349e42c4d42fd141c9d112e0"), looks := true }, kinds := [], alts := [], laidByText := true, laidKinds := [.data, .pinned], laidTests := true, laidLooks := .later }
def TextsCallsCardSaid : Prop := Claim7.holds Tryz.pinned (.plain (OpenSpec.ofChange textsCallsSpec)) textsCallsCard

/-- THE SECOND FORM's CARD OF 'octavolaw18.TextsFaults'. -/
def textsFaultsUptoCard : Claim7 := { stood := { row := textsFaultsUptoRow, standIns := [], harness := (true, "2c51dd5fe2b7c13cb9f22f83cd6044b84c269d83349e42c4d42fd141c9d112e0"), looks := true }, kinds := [], alts := [], laidByText := true, laidKinds := [.data, .pinned], laidTests := true, laidLooks := .later }
def TextsFaultsUptoCardSaid : Prop := Claim7.holds Tryz.pinned (.plain (OpenSpec.upto textsFaultsSpec)) textsFaultsUptoCard

/-- THE SECOND FORM's CARD OF 'octavolaw18.TextsParts'. -/
def textsPartsUptoCard : Claim7 := { stood := { row := textsPartsUptoRow, standIns := [], harness := (true, "2c51dd5fe2b7c13cb9f22f83cd6044b84c269d83349e42c4d42fd141c9d112e0"), looks := true }, kinds := [], alts := [], laidByText := true, laidKinds := [.data, .pinned], laidTests := true, laidLooks := .later }
def TextsPartsUptoCardSaid : Prop := Claim7.holds Tryz.pinned (.plain (OpenSpec.upto textsPartsSpec)) textsPartsUptoCard

/-- THE SECOND FORM's CARD OF 'octavolaw18.TextsTurns'. -/
def textsTurnsUptoCard : Claim7 := { stood := { row := textsTurnsUptoRow, standIns := [], harness := (true, "2c51dd5fe2b7c13cb9f22f83cd6044b84c269d83349e42c4d42fd141c9d112e0"), looks := true }, kinds := [], alts := [], laidByText := true, laidKinds := [.data, .pinned], laidTests := true, laidLooks := .later }
def TextsTurnsUptoCardSaid : Prop := Claim7.holds Tryz.pinned (.plain (OpenSpec.upto textsTurnsSpec)) textsTurnsUptoCard

/-- THE SECOND FORM's CARD OF 'octavolaw18.TextsFinds'. -/
def textsFindsUptoCard : Claim7 := { stood := { row := textsFindsUptoRow, standIns := [], harness := (true, "2c51dd5fe2b7c13cb9f22f83cd6044b84c269d83349e42c4d42fd141c9d112e0"), looks := true }, kinds := [], alts := [], laidByText := true, laidKinds := [.data, .pinned], laidTests := true, laidLooks := .later }
def TextsFindsUptoCardSaid : Prop := Claim7.holds Tryz.pinned (.plain (OpenSpec.upto textsFindsSpec)) textsFindsUptoCard

/-- THE SECOND FORM's CARD OF 'octavolaw18.TextsTimes'. -/
def textsTimesUptoCard : Claim7 := { stood := { row := textsTimesUptoRow, standIns := [], harness := (true, "2c51dd5fe2b7c13cb9f22f83cd6044b84c269d83349e42c4d42fd141c9d112e0"), looks := true }, kinds := [], alts := [], laidByText := true, laidKinds := [.data, .pinned], laidTests := true, laidLooks := .later }
def TextsTimesUptoCardSaid : Prop := Claim7.holds Tryz.pinned (.plain (OpenSpec.upto textsTimesSpec)) textsTimesUptoCard

/-- THE SECOND FORM's CARD OF 'octavolaw18.TextsCalls'. -/
def textsCallsUptoCard : Claim7 := { stood := { row := textsCallsUptoRow, standIns := [], harness := (true, "2c51dd5fe2b7c13cb9f22f83cd6044b84c269d83349e42c4d42fd141c9d112e0"), looks := true }, kinds := [], alts := [], laidByText := true, laidKinds := [.data, .pinned], laidTests := true, laidLooks := .later }
def TextsCallsUptoCardSaid : Prop := Claim7.holds Tryz.pinned (.plain (OpenSpec.upto textsCallsSpec)) textsCallsUptoCard
end Rows
end Go.Proofs.YtcbknemdidehlaaGreatDoor
