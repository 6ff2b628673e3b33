/-
  DERIVED. GIVEN WITH THE SEED: THE CARDS: each row of YthfmekdbcoaolaaGreatDoorRows.lean that lists a variable, with what it lists TIED to the program's text (the seventh form; the later family's looks); each row that meets fmt, with fmt's text TOLD by the authors' own Lean function (tested against real Go, not proved from fmt's source: count such statements apart). THE CARD IS WHAT COUNTS. Prove the row's statement (the work); the ties are given (YthfmekdbcoaolaaGreatDoorTie.lean); close each card by the builder's one call (the guide's Derived/Test/ToyasCard.lean, 'card_holds'). Laid BY PROGRAM, IN A SANDBOX (cutbox-door.mjs). By AI agents, Wed Nov 11 2026. No macro, syntax, notation, axiom, sorry.
-/
import Derived.Test.YthfmekdbcoaolaaGreatDoorRows
import GoSem.ClaimSeven
namespace Go.Proofs.YthfmekdbcoaolaaGreatDoor
namespace Rows

/-- THE TIED CARD OF 'rosterlaw16.PubLasts'. -/
def pubLastsCard : Claim7 := { stood := { row := pubLastsRow, standIns := [], harness := (true, "943cf1faadc7443a713eb652e90dcae4b96737a118c3af4d83985df63d65ba6e"), looks := true }, kinds := [], alts := [], laidByText := true, laidKinds := [.data, .pinned], laidTests := true, laidLooks := .later }
def PubLastsCardSaid : Prop := Claim7.holds Tryz.pinned (.plain (OpenSpec.ofChange pubLastsSpec)) pubLastsCard

/-- THE TIED CARD OF 'rosterlaw16.PubNobody'. -/
def pubNobodyCard : Claim7 := { stood := { row := pubNobodyRow, standIns := [], harness := (true, "943cf1faadc7443a713eb652e90dcae4b96737a118c3af4d83985df63d65ba6e"), looks := true }, kinds := [], alts := [], laidByText := true, laidKinds := [.data, .pinned], laidTests := true, laidLooks := .later }
def PubNobodyCardSaid : Prop := Claim7.holds Tryz.pinned (.plain (OpenSpec.ofChange pubNobodySpec)) pubNobodyCard

/-- THE TIED CARD OF 'rosterlaw16.PubTags'. -/
def pubTagsCard : Claim7 := { stood := { row := pubTagsRow, standIns := [], harness := (true, "943cf1faadc7443a713eb652e90dcae4b96737a118c3af4d83985df63d65ba6e"), looks := true }, kinds := [], alts := [], laidByText := true, laidKinds := [.data, .pinned], laidTests := true, laidLooks := .later }
def PubTagsCardSaid : Prop := Claim7.holds Tryz.pinned (.plain (OpenSpec.ofChange pubTagsSpec)) pubTagsCard

/-- THE TIED CARD OF 'rosterlaw16.PubKeeps'. -/
def pubKeepsCard : Claim7 := { stood := { row := pubKeepsRow, standIns := [], harness := (true, "943cf1faadc7443a713eb652e90dcae4b96737a118c3af4d83985df63d65ba6e"), looks := true }, kinds := [], alts := [], laidByText := true, laidKinds := [.data, .pinned], laidTests := true, laidLooks := .later }
def PubKeepsCardSaid : Prop := Claim7.holds Tryz.pinned (.plain (OpenSpec.ofChange pubKeepsSpec)) pubKeepsCard

/-- THE TIED CARD OF 'rosterlaw16.PubFull'. -/
def pubFullCard : Claim7 := { stood := { row := pubFullRow, standIns := [], harness := (true, "943cf1faadc7443a713eb652e90dcae4b96737a118c3af4d83985df63d65ba6e"), looks := true }, kinds := [], alts := [], laidByText := true, laidKinds := [.data, .pinned], laidTests := true, laidLooks := .later }
def PubFullCardSaid : Prop := Claim7.holds Tryz.pinned (.plain (OpenSpec.ofChange pubFullSpec)) pubFullCard

/-- THE TIED CARD OF 'rosterlaw16.PubOrder'. -/
def pubOrderCard : Claim7 := { stood := { row := pubOrderRow, standIns := [], harness := (true, "943cf1faadc7443a713eb652e90dcae4b96737a118c3af4d83985df63d65ba6e"), looks := true }, kinds := [], alts := [], laidByText := true, laidKinds := [.data, .pinned], laidTests := true, laidLooks := .later }
def PubOrderCardSaid : Prop := Claim7.holds Tryz.pinned (.plain (OpenSpec.ofChange pubOrderSpec)) pubOrderCard

/-- THE TIED CARD OF 'rosterlaw16.PubPlays'. -/
def pubPlaysCard : Claim7 := { stood := { row := pubPlaysRow, standIns := [], harness := (true, "943cf1faadc7443a713eb652e90dcae4b96737a118c3af4d83985df63d65ba6e"), looks := true }, kinds := [], alts := [], laidByText := true, laidKinds := [.data, .pinned], laidTests := true, laidLooks := .later }
def PubPlaysCardSaid : Prop := Claim7.holds Tryz.pinned (.plain (OpenSpec.ofChange pubPlaysSpec)) pubPlaysCard

/-- THE SECOND FORM's CARD OF 'rosterlaw16.PubLasts'. -/
def pubLastsUptoCard : Claim7 := { stood := { row := pubLastsUptoRow, standIns := [], harness := (true, "943cf1faadc7443a713eb652e90dcae4b96737a118c3af4d83985df63d65ba6e"), looks := true }, kinds := [], alts := [], laidByText := true, laidKinds := [.data, .pinned], laidTests := true, laidLooks := .later }
def PubLastsUptoCardSaid : Prop := Claim7.holds Tryz.pinned (.plain (OpenSpec.upto pubLastsSpec)) pubLastsUptoCard

/-- THE SECOND FORM's CARD OF 'rosterlaw16.PubNobody'. -/
def pubNobodyUptoCard : Claim7 := { stood := { row := pubNobodyUptoRow, standIns := [], harness := (true, "943cf1faadc7443a713eb652e90dcae4b96737a118c3af4d83985df63d65ba6e"), looks := true }, kinds := [], alts := [], laidByText := true, laidKinds := [.data, .pinned], laidTests := true, laidLooks := .later }
def PubNobodyUptoCardSaid : Prop := Claim7.holds Tryz.pinned (.plain (OpenSpec.upto pubNobodySpec)) pubNobodyUptoCard

/-- THE SECOND FORM's CARD OF 'rosterlaw16.PubTags'. -/
def pubTagsUptoCard : Claim7 := { stood := { row := pubTagsUptoRow, standIns := [], harness := (true, "943cf1faadc7443a713eb652e90dcae4b96737a118c3af4d83985df63d65ba6e"), looks := true }, kinds := [], alts := [], laidByText := true, laidKinds := [.data, .pinned], laidTests := true, laidLooks := .later }
def PubTagsUptoCardSaid : Prop := Claim7.holds Tryz.pinned (.plain (OpenSpec.upto pubTagsSpec)) pubTagsUptoCard

/-- THE SECOND FORM's CARD OF 'rosterlaw16.PubKeeps'. -/
def pubKeepsUptoCard : Claim7 := { stood := { row := pubKeepsUptoRow, standIns := [], harness := (true, "943cf1faadc7443a713eb652e90dcae4b96737a118c3af4d83985df63d65ba6e"), looks := true }, kinds := [], alts := [], laidByText := true, laidKinds := [.data, .pinned], laidTests := true, laidLooks := .later }
def PubKeepsUptoCardSaid : Prop := Claim7.holds Tryz.pinned (.plain (OpenSpec.upto pubKeepsSpec)) pubKeepsUptoCard

/-- THE SECOND FORM's CARD OF 'rosterlaw16.PubFull'. -/
def pubFullUptoCard : Claim7 := { stood := { row := pubFullUptoRow, standIns := [], harness := (true, "943cf1faadc7443a713eb652e90dcae4b96737a118c3af4d83985df63d65ba6e"), looks := true }, kinds := [], alts := [], laidByText := true, laidKinds := [.data, .pinned], laidTests := true, laidLooks := .later }
def PubFullUptoCardSaid : Prop := Claim7.holds Tryz.pinned (.plain (OpenSpec.upto pubFullSpec)) pubFullUptoCard

/-- THE SECOND FORM's CARD OF 'rosterlaw16.PubOrder'. -/
def pubOrderUptoCard : Claim7 := { stood := { row := pubOrderUptoRow, standIns := [], harness := (true, "943cf1faadc7443a713eb652e90dcae4b96737a118c3af4d83985df63d65ba6e"), looks := true }, kinds := [], alts := [], laidByText := true, laidKinds := [.data, .pinned], laidTests := true, laidLooks := .later }
def PubOrderUptoCardSaid : Prop := Claim7.holds Tryz.pinned (.plain (OpenSpec.upto pubOrderSpec)) pubOrderUptoCard

/-- THE SECOND FORM's CARD OF 'rosterlaw16.PubPlays'. -/
def pubPlaysUptoCard : Claim7 := { stood := { row := pubPlaysUptoRow, standIns := [], harness := (true, "943cf1faadc7443a713eb652e90dcae4b96737a118c3af4d83985df63d65ba6e"), looks := true }, kinds := [], alts := [], laidByText := true, laidKinds := [.data, .pinned], laidTests := true, laidLooks := .later }
def PubPlaysUptoCardSaid : Prop := Claim7.holds Tryz.pinned (.plain (OpenSpec.upto pubPlaysSpec)) pubPlaysUptoCard
end Rows
end Go.Proofs.YthfmekdbcoaolaaGreatDoor
