/-
  DERIVED. GIVEN WITH THE SEED: THE CARDS: each row of YtpnchfigehgkgaaGreatDoorRows.lean that lists a variable, with what it lists TIED to the program's text (the seventh form; the later family's looks); each row that meets fmt, with fmt's text TOLD by the authors' own Lean function (tested against real Go, not proved from fmt's source: count such statements apart). THE CARD IS WHAT COUNTS. Prove the row's statement (the work); the ties are given (YtpnchfigehgkgaaGreatDoorTie.lean); close each card by the builder's one call (the guide's Derived/Test/ToyasCard.lean, 'card_holds'). Laid BY PROGRAM, IN A SANDBOX (cutbox-door.mjs). By AI agents, Wed Nov 11 2026. No macro, syntax, notation, axiom, sorry.
-/
import Derived.Test.YtpnchfigehgkgaaGreatDoorRows
import GoSem.ClaimSeven
namespace Go.Proofs.YtpnchfigehgkgaaGreatDoor
namespace Rows

/-- THE TIED CARD OF 'rosterlaw20.PolicyPlays'. -/
def policyPlaysCard : Claim7 := { stood := { row := policyPlaysRow, standIns := [], harness := (true, "849b4e208965247d752928021a782a3f508ba709b306bb2e24b685f3ab74e0fe"), looks := false }, kinds := [], alts := [], laidByText := true, laidKinds := [.data, .pinned], laidTests := true, laidLooks := .later }
def PolicyPlaysCardSaid : Prop := Claim7.holds Tryz.pinned (.plain (OpenSpec.ofChange policyPlaysSpec)) policyPlaysCard

/-- THE SECOND FORM's CARD OF 'rosterlaw20.PolicyPlays'. -/
def policyPlaysUptoCard : Claim7 := { stood := { row := policyPlaysUptoRow, standIns := [], harness := (true, "849b4e208965247d752928021a782a3f508ba709b306bb2e24b685f3ab74e0fe"), looks := false }, kinds := [], alts := [], laidByText := true, laidKinds := [.data, .pinned], laidTests := true, laidLooks := .later }
def PolicyPlaysUptoCardSaid : Prop := Claim7.holds Tryz.pinned (.plain (OpenSpec.upto policyPlaysSpec)) policyPlaysUptoCard
end Rows
end Go.Proofs.YtpnchfigehgkgaaGreatDoor
