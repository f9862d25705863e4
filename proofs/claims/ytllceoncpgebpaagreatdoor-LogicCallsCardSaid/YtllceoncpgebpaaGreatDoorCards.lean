/-
  DERIVED. GIVEN WITH THE SEED: THE CARDS: each row of YtllceoncpgebpaaGreatDoorRows.lean that lists a variable, with what it lists TIED to the program's text (the seventh form; the later family's looks); each row that meets fmt, with fmt's text TOLD by the authors' own Lean function (tested against real Go, not proved from fmt's source: count such statements apart). THE CARD IS WHAT COUNTS. Prove the row's statement (the work); the ties are given (YtllceoncpgebpaaGreatDoorTie.lean); close each card by the builder's one call (the guide's Derived/Test/ToyasCard.lean, 'card_holds'). Laid BY PROGRAM, IN A SANDBOX (cutbox-door.mjs). By AI agents, Wed Nov 11 2026. No macro, syntax, notation, axiom, sorry.
-/
import Derived.Test.YtllceoncpgebpaaGreatDoorRows
import GoSem.ClaimSeven
namespace Go.Proofs.YtllceoncpgebpaaGreatDoor
namespace Rows

/-- THE TIED CARD OF 'octavolaw19.LogicFaults'. -/
def logicFaultsCard : Claim7 := { stood := { row := logicFaultsRow, standIns := [], harness := (true, "df1e22496d43aae018b74c0299d23866bcaa36611c272d82c7746ea9436712e7"), looks := true }, kinds := [], alts := [], laidByText := true, laidKinds := [.data, .pinned], laidTests := true, laidLooks := .later }
def LogicFaultsCardSaid : Prop := Claim7.holds Tryz.pinned (.plain (OpenSpec.ofChange logicFaultsSpec)) logicFaultsCard

/-- THE TIED CARD OF 'octavolaw19.LogicTruths'. -/
def logicTruthsCard : Claim7 := { stood := { row := logicTruthsRow, standIns := [], harness := (true, "df1e22496d43aae018b74c0299d23866bcaa36611c272d82c7746ea9436712e7"), looks := true }, kinds := [], alts := [], laidByText := true, laidKinds := [.data, .pinned], laidTests := true, laidLooks := .later }
def LogicTruthsCardSaid : Prop := Claim7.holds Tryz.pinned (.plain (OpenSpec.ofChange logicTruthsSpec)) logicTruthsCard

/-- THE TIED CARD OF 'octavolaw19.LogicDays'. -/
def logicDaysCard : Claim7 := { stood := { row := logicDaysRow, standIns := [], harness := (true, "df1e22496d43aae018b74c0299d23866bcaa36611c272d82c7746ea9436712e7"), looks := true }, kinds := [], alts := [], laidByText := true, laidKinds := [.data, .pinned], laidTests := true, laidLooks := .later }
def LogicDaysCardSaid : Prop := Claim7.holds Tryz.pinned (.plain (OpenSpec.ofChange logicDaysSpec)) logicDaysCard

/-- THE TIED CARD OF 'octavolaw19.LogicKinds'. -/
def logicKindsCard : Claim7 := { stood := { row := logicKindsRow, standIns := [], harness := (true, "df1e22496d43aae018b74c0299d23866bcaa36611c272d82c7746ea9436712e7"), looks := true }, kinds := [], alts := [], laidByText := true, laidKinds := [.data, .pinned], laidTests := true, laidLooks := .later }
def LogicKindsCardSaid : Prop := Claim7.holds Tryz.pinned (.plain (OpenSpec.ofChange logicKindsSpec)) logicKindsCard

/-- THE TIED CARD OF 'octavolaw19.LogicCalls'. -/
def logicCallsCard : Claim7 := { stood := { row := logicCallsRow, standIns := [], harness := (true, "df1e22496d43aae018b74c0299d23866bcaa36611c272d82c7746ea9436712e7"), looks := true }, kinds := [], alts := [], laidByText := true, laidKinds := [.data, .pinned], laidTests := true, laidLooks := .later }
def LogicCallsCardSaid : Prop := Claim7.holds Tryz.pinned (.plain (OpenSpec.ofChange logicCallsSpec)) logicCallsCard

/-- THE SECOND FORM's CARD OF 'octavolaw19.LogicFaults'. -/
def logicFaultsUptoCard : Claim7 := { stood := { row := logicFaultsUptoRow, standIns := [], harness := (true, "df1e22496d43aae018b74c0299d23866bcaa36611c272d82c7746ea9436712e7"), looks := true }, kinds := [], alts := [], laidByText := true, laidKinds := [.data, .pinned], laidTests := true, laidLooks := .later }
def LogicFaultsUptoCardSaid : Prop := Claim7.holds Tryz.pinned (.plain (OpenSpec.upto logicFaultsSpec)) logicFaultsUptoCard

/-- THE SECOND FORM's CARD OF 'octavolaw19.LogicTruths'. -/
def logicTruthsUptoCard : Claim7 := { stood := { row := logicTruthsUptoRow, standIns := [], harness := (true, "df1e22496d43aae018b74c0299d23866bcaa36611c272d82c7746ea9436712e7"), looks := true }, kinds := [], alts := [], laidByText := true, laidKinds := [.data, .pinned], laidTests := true, laidLooks := .later }
def LogicTruthsUptoCardSaid : Prop := Claim7.holds Tryz.pinned (.plain (OpenSpec.upto logicTruthsSpec)) logicTruthsUptoCard

/-- THE SECOND FORM's CARD OF 'octavolaw19.LogicDays'. -/
def logicDaysUptoCard : Claim7 := { stood := { row := logicDaysUptoRow, standIns := [], harness := (true, "df1e22496d43aae018b74c0299d23866bcaa36611c272d82c7746ea9436712e7"), looks := true }, kinds := [], alts := [], laidByText := true, laidKinds := [.data, .pinned], laidTests := true, laidLooks := .later }
def LogicDaysUptoCardSaid : Prop := Claim7.holds Tryz.pinned (.plain (OpenSpec.upto logicDaysSpec)) logicDaysUptoCard

/-- THE SECOND FORM's CARD OF 'octavolaw19.LogicKinds'. -/
def logicKindsUptoCard : Claim7 := { stood := { row := logicKindsUptoRow, standIns := [], harness := (true, "df1e22496d43aae018b74c0299d23866bcaa36611c272d82c7746ea9436712e7"), looks := true }, kinds := [], alts := [], laidByText := true, laidKinds := [.data, .pinned], laidTests := true, laidLooks := .later }
def LogicKindsUptoCardSaid : Prop := Claim7.holds Tryz.pinned (.plain (OpenSpec.upto logicKindsSpec)) logicKindsUptoCard

/-- THE SECOND FORM's CARD OF 'octavolaw19.LogicCalls'. -/
def logicCallsUptoCard : Claim7 := { stood := { row := logicCallsUptoRow, standIns := [], harness := (true, "df1e22496d43aae018b74c0299d23866bcaa36611c272d82c7746ea9436712e7"), looks := true }, kinds := [], alts := [], laidByText := true, laidKinds := [.data, .pinned], laidTests := true, laidLooks := .later }
def LogicCallsUptoCardSaid : Prop := Claim7.holds Tryz.pinned (.plain (OpenSpec.upto logicCallsSpec)) logicCallsUptoCard
end Rows
end Go.Proofs.YtllceoncpgebpaaGreatDoor
