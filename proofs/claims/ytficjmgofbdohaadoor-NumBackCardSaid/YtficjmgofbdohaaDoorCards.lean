/-
  DERIVED. GIVEN WITH THE SEED: THE CARDS: each row of YtficjmgofbdohaaDoorRows.lean that lists a variable, with what it lists TIED to the program's text (the seventh form; the later family's looks); each row that meets fmt, with fmt's text TOLD by the authors' own Lean function (tested against real Go, not proved from fmt's source: count such statements apart). THE CARD IS WHAT COUNTS. Prove the row's statement (the work); the ties are given (YtficjmgofbdohaaDoorTie.lean); close each card by the builder's one call (the guide's Derived/Test/ToyasCard.lean, 'card_holds'). Laid BY PROGRAM, IN A SANDBOX (cutbox-door.mjs). By AI agents, Wed Nov 11 2026. No macro, syntax, notation, axiom, sorry.
-/
import Derived.Test.YtficjmgofbdohaaDoorRows
import GoSem.ClaimSeven
namespace Go.Proofs.YtficjmgofbdohaaDoor
namespace Rows

/-- THE TIED CARD OF 'octavolaw05.NumTexts'. -/
def numTextsCard : Claim7 := { stood := { row := numTextsRow, standIns := [], harness := (true, "96ae885704374b4858c29af968b3d486eb399b91dbfab8348328abdf6bc469a9"), looks := false }, kinds := [], alts := [], laidByText := true, laidKinds := [.data, .pinned], laidTests := true, laidLooks := .later }
def NumTextsCardSaid : Prop := Claim7.holds Tryd.pinned (.plain (OpenSpec.ofChange numTextsSpec)) numTextsCard

/-- THE TIED CARD OF 'octavolaw05.NumWhole'. -/
def numWholeCard : Claim7 := { stood := { row := numWholeRow, standIns := [], harness := (true, "96ae885704374b4858c29af968b3d486eb399b91dbfab8348328abdf6bc469a9"), looks := false }, kinds := [], alts := [], laidByText := true, laidKinds := [.data, .pinned], laidTests := true, laidLooks := .later }
def NumWholeCardSaid : Prop := Claim7.holds Tryd.pinned (.plain (OpenSpec.ofChange numWholeSpec)) numWholeCard

/-- THE TIED CARD OF 'octavolaw05.NumRounded'. -/
def numRoundedCard : Claim7 := { stood := { row := numRoundedRow, standIns := [], harness := (true, "96ae885704374b4858c29af968b3d486eb399b91dbfab8348328abdf6bc469a9"), looks := false }, kinds := [], alts := [], laidByText := true, laidKinds := [.data, .pinned], laidTests := true, laidLooks := .later }
def NumRoundedCardSaid : Prop := Claim7.holds Tryd.pinned (.plain (OpenSpec.ofChange numRoundedSpec)) numRoundedCard

/-- THE TIED CARD OF 'octavolaw05.NumPowers'. -/
def numPowersCard : Claim7 := { stood := { row := numPowersRow, standIns := [], harness := (true, "96ae885704374b4858c29af968b3d486eb399b91dbfab8348328abdf6bc469a9"), looks := false }, kinds := [], alts := [], laidByText := true, laidKinds := [.data, .pinned], laidTests := true, laidLooks := .later }
def NumPowersCardSaid : Prop := Claim7.holds Tryd.pinned (.plain (OpenSpec.ofChange numPowersSpec)) numPowersCard

/-- THE TIED CARD OF 'octavolaw05.NumRounds'. -/
def numRoundsCard : Claim7 := { stood := { row := numRoundsRow, standIns := [], harness := (true, "96ae885704374b4858c29af968b3d486eb399b91dbfab8348328abdf6bc469a9"), looks := false }, kinds := [], alts := [], laidByText := true, laidKinds := [.data, .pinned], laidTests := true, laidLooks := .later }
def NumRoundsCardSaid : Prop := Claim7.holds Tryd.pinned (.plain (OpenSpec.ofChange numRoundsSpec)) numRoundsCard

/-- THE TIED CARD OF 'octavolaw05.NumBack'. -/
def numBackCard : Claim7 := { stood := { row := numBackRow, standIns := [], harness := (true, "96ae885704374b4858c29af968b3d486eb399b91dbfab8348328abdf6bc469a9"), looks := false }, kinds := [], alts := [], laidByText := true, laidKinds := [.data, .pinned], laidTests := true, laidLooks := .later }
def NumBackCardSaid : Prop := Claim7.holds Tryd.pinned (.plain (OpenSpec.ofChange numBackSpec)) numBackCard

/-- THE TIED CARD OF 'octavolaw05.NumPairs'. -/
def numPairsCard : Claim7 := { stood := { row := numPairsRow, standIns := [], harness := (true, "96ae885704374b4858c29af968b3d486eb399b91dbfab8348328abdf6bc469a9"), looks := false }, kinds := [], alts := [], laidByText := true, laidKinds := [.data, .pinned], laidTests := true, laidLooks := .later }
def NumPairsCardSaid : Prop := Claim7.holds Tryd.pinned (.plain (OpenSpec.ofChange numPairsSpec)) numPairsCard

/-- THE SECOND FORM's CARD OF 'octavolaw05.NumTexts'. -/
def numTextsUptoCard : Claim7 := { stood := { row := numTextsUptoRow, standIns := [], harness := (true, "96ae885704374b4858c29af968b3d486eb399b91dbfab8348328abdf6bc469a9"), looks := false }, kinds := [], alts := [], laidByText := true, laidKinds := [.data, .pinned], laidTests := true, laidLooks := .later }
def NumTextsUptoCardSaid : Prop := Claim7.holds Tryd.pinned (.plain (OpenSpec.upto numTextsSpec)) numTextsUptoCard

/-- THE SECOND FORM's CARD OF 'octavolaw05.NumWhole'. -/
def numWholeUptoCard : Claim7 := { stood := { row := numWholeUptoRow, standIns := [], harness := (true, "96ae885704374b4858c29af968b3d486eb399b91dbfab8348328abdf6bc469a9"), looks := false }, kinds := [], alts := [], laidByText := true, laidKinds := [.data, .pinned], laidTests := true, laidLooks := .later }
def NumWholeUptoCardSaid : Prop := Claim7.holds Tryd.pinned (.plain (OpenSpec.upto numWholeSpec)) numWholeUptoCard

/-- THE SECOND FORM's CARD OF 'octavolaw05.NumRounded'. -/
def numRoundedUptoCard : Claim7 := { stood := { row := numRoundedUptoRow, standIns := [], harness := (true, "96ae885704374b4858c29af968b3d486eb399b91dbfab8348328abdf6bc469a9"), looks := false }, kinds := [], alts := [], laidByText := true, laidKinds := [.data, .pinned], laidTests := true, laidLooks := .later }
def NumRoundedUptoCardSaid : Prop := Claim7.holds Tryd.pinned (.plain (OpenSpec.upto numRoundedSpec)) numRoundedUptoCard

/-- THE SECOND FORM's CARD OF 'octavolaw05.NumPowers'. -/
def numPowersUptoCard : Claim7 := { stood := { row := numPowersUptoRow, standIns := [], harness := (true, "96ae885704374b4858c29af968b3d486eb399b91dbfab8348328abdf6bc469a9"), looks := false }, kinds := [], alts := [], laidByText := true, laidKinds := [.data, .pinned], laidTests := true, laidLooks := .later }
def NumPowersUptoCardSaid : Prop := Claim7.holds Tryd.pinned (.plain (OpenSpec.upto numPowersSpec)) numPowersUptoCard

/-- THE SECOND FORM's CARD OF 'octavolaw05.NumRounds'. -/
def numRoundsUptoCard : Claim7 := { stood := { row := numRoundsUptoRow, standIns := [], harness := (true, "96ae885704374b4858c29af968b3d486eb399b91dbfab8348328abdf6bc469a9"), looks := false }, kinds := [], alts := [], laidByText := true, laidKinds := [.data, .pinned], laidTests := true, laidLooks := .later }
def NumRoundsUptoCardSaid : Prop := Claim7.holds Tryd.pinned (.plain (OpenSpec.upto numRoundsSpec)) numRoundsUptoCard

/-- THE SECOND FORM's CARD OF 'octavolaw05.NumBack'. -/
def numBackUptoCard : Claim7 := { stood := { row := numBackUptoRow, standIns := [], harness := (true, "96ae885704374b4858c29af968b3d486eb399b91dbfab8348328abdf6bc469a9"), looks := false }, kinds := [], alts := [], laidByText := true, laidKinds := [.data, .pinned], laidTests := true, laidLooks := .later }
def NumBackUptoCardSaid : Prop := Claim7.holds Tryd.pinned (.plain (OpenSpec.upto numBackSpec)) numBackUptoCard

/-- THE SECOND FORM's CARD OF 'octavolaw05.NumPairs'. -/
def numPairsUptoCard : Claim7 := { stood := { row := numPairsUptoRow, standIns := [], harness := (true, "96ae885704374b4858c29af968b3d486eb399b91dbfab8348328abdf6bc469a9"), looks := false }, kinds := [], alts := [], laidByText := true, laidKinds := [.data, .pinned], laidTests := true, laidLooks := .later }
def NumPairsUptoCardSaid : Prop := Claim7.holds Tryd.pinned (.plain (OpenSpec.upto numPairsSpec)) numPairsUptoCard
end Rows
end Go.Proofs.YtficjmgofbdohaaDoor
