/-
  DERIVED. GIVEN WITH THE SEED: THE CARDS: each row of YtpnchfigehgkgaaDoorRows.lean that lists a variable, with what it lists TIED to the program's text (the seventh form; the later family's looks); each row that meets fmt, with fmt's text TOLD by the authors' own Lean function (tested against real Go, not proved from fmt's source: count such statements apart). THE CARD IS WHAT COUNTS. Prove the row's statement (the work); the ties are given (YtpnchfigehgkgaaDoorTie.lean); close each card by the builder's one call (the guide's Derived/Test/ToyasCard.lean, 'card_holds'). Laid BY PROGRAM, IN A SANDBOX (cutbox-door.mjs). By AI agents, Wed Nov 11 2026. No macro, syntax, notation, axiom, sorry.
-/
import Derived.Test.YtpnchfigehgkgaaDoorRows
import GoSem.ClaimSeven
namespace Go.Proofs.YtpnchfigehgkgaaDoor
namespace Rows

/-- THE TIED CARD OF 'rosterlaw03.UriParses'. -/
def uriParsesCard : Claim7 := { stood := { row := uriParsesRow, standIns := [], harness := (true, "0029808f627b58f4ce4f78751362a484db066480be3fc5377426cb9c04e22e3b"), looks := false }, kinds := [], alts := [], laidByText := true, laidKinds := [.data, .pinned], laidTests := true, laidLooks := .later }
def UriParsesCardSaid : Prop := Claim7.holds Tryd.pinned (.plain (OpenSpec.ofChange uriParsesSpec)) uriParsesCard

/-- THE TIED CARD OF 'rosterlaw03.UriHosts'. -/
def uriHostsCard : Claim7 := { stood := { row := uriHostsRow, standIns := [], harness := (true, "0029808f627b58f4ce4f78751362a484db066480be3fc5377426cb9c04e22e3b"), looks := false }, kinds := [], alts := [], laidByText := true, laidKinds := [.data, .pinned], laidTests := true, laidLooks := .later }
def UriHostsCardSaid : Prop := Claim7.holds Tryd.pinned (.plain (OpenSpec.ofChange uriHostsSpec)) uriHostsCard

/-- THE TIED CARD OF 'rosterlaw04.SameTurns'. -/
def sameTurnsCard : Claim7 := { stood := { row := sameTurnsRow, standIns := [], harness := (true, "0029808f627b58f4ce4f78751362a484db066480be3fc5377426cb9c04e22e3b"), looks := false }, kinds := [], alts := [], laidByText := true, laidKinds := [.data, .pinned], laidTests := true, laidLooks := .later }
def SameTurnsCardSaid : Prop := Claim7.holds Tryd.pinned (.plain (OpenSpec.ofChange sameTurnsSpec)) sameTurnsCard

/-- THE TIED CARD OF 'rosterlaw04.SameOrder'. -/
def sameOrderCard : Claim7 := { stood := { row := sameOrderRow, standIns := [], harness := (true, "0029808f627b58f4ce4f78751362a484db066480be3fc5377426cb9c04e22e3b"), looks := false }, kinds := [], alts := [], laidByText := true, laidKinds := [.data, .pinned], laidTests := true, laidLooks := .later }
def SameOrderCardSaid : Prop := Claim7.holds Tryd.pinned (.plain (OpenSpec.ofChange sameOrderSpec)) sameOrderCard

/-- THE TIED CARD OF 'rosterlaw04.SamePlain'. -/
def samePlainCard : Claim7 := { stood := { row := samePlainRow, standIns := [], harness := (true, "0029808f627b58f4ce4f78751362a484db066480be3fc5377426cb9c04e22e3b"), looks := false }, kinds := [], alts := [], laidByText := true, laidKinds := [.data, .pinned], laidTests := true, laidLooks := .later }
def SamePlainCardSaid : Prop := Claim7.holds Tryd.pinned (.plain (OpenSpec.ofChange samePlainSpec)) samePlainCard

/-- THE TIED CARD OF 'rosterlaw04.SameEquals'. -/
def sameEqualsCard : Claim7 := { stood := { row := sameEqualsRow, standIns := [], harness := (true, "0029808f627b58f4ce4f78751362a484db066480be3fc5377426cb9c04e22e3b"), looks := false }, kinds := [], alts := [], laidByText := true, laidKinds := [.data, .pinned], laidTests := true, laidLooks := .later }
def SameEqualsCardSaid : Prop := Claim7.holds Tryd.pinned (.plain (OpenSpec.ofChange sameEqualsSpec)) sameEqualsCard

/-- THE TIED CARD OF 'rosterlaw03.UriPrints'. -/
def uriPrintsCard : Claim7 := { stood := { row := uriPrintsRow, standIns := [], harness := (true, "0029808f627b58f4ce4f78751362a484db066480be3fc5377426cb9c04e22e3b"), looks := false }, kinds := [], alts := [], laidByText := true, laidKinds := [.data, .pinned], laidTests := true, laidLooks := .later }
def UriPrintsCardSaid : Prop := Claim7.holds Tryd.pinned (.plain (OpenSpec.ofChange uriPrintsSpec)) uriPrintsCard

/-- THE TIED CARD OF 'rosterlaw03.UriBack'. -/
def uriBackCard : Claim7 := { stood := { row := uriBackRow, standIns := [], harness := (true, "0029808f627b58f4ce4f78751362a484db066480be3fc5377426cb9c04e22e3b"), looks := false }, kinds := [], alts := [], laidByText := true, laidKinds := [.data, .pinned], laidTests := true, laidLooks := .later }
def UriBackCardSaid : Prop := Claim7.holds Tryd.pinned (.plain (OpenSpec.ofChange uriBackSpec)) uriBackCard

/-- THE TIED CARD OF 'rosterlaw03.UriOnce'. -/
def uriOnceCard : Claim7 := { stood := { row := uriOnceRow, standIns := [], harness := (true, "0029808f627b58f4ce4f78751362a484db066480be3fc5377426cb9c04e22e3b"), looks := false }, kinds := [], alts := [], laidByText := true, laidKinds := [.data, .pinned], laidTests := true, laidLooks := .later }
def UriOnceCardSaid : Prop := Claim7.holds Tryd.pinned (.plain (OpenSpec.ofChange uriOnceSpec)) uriOnceCard

/-- THE TIED CARD OF 'rosterlaw03.UriLetters'. -/
def uriLettersCard : Claim7 := { stood := { row := uriLettersRow, standIns := [], harness := (true, "0029808f627b58f4ce4f78751362a484db066480be3fc5377426cb9c04e22e3b"), looks := false }, kinds := [], alts := [], laidByText := true, laidKinds := [.data, .pinned], laidTests := true, laidLooks := .later }
def UriLettersCardSaid : Prop := Claim7.holds Tryd.pinned (.plain (OpenSpec.ofChange uriLettersSpec)) uriLettersCard

/-- THE TIED CARD OF 'rosterlaw03.UriSigns'. -/
def uriSignsCard : Claim7 := { stood := { row := uriSignsRow, standIns := [], harness := (true, "0029808f627b58f4ce4f78751362a484db066480be3fc5377426cb9c04e22e3b"), looks := false }, kinds := [], alts := [], laidByText := true, laidKinds := [.data, .pinned], laidTests := true, laidLooks := .later }
def UriSignsCardSaid : Prop := Claim7.holds Tryd.pinned (.plain (OpenSpec.ofChange uriSignsSpec)) uriSignsCard

/-- THE TIED CARD OF 'rosterlaw04.SameWho'. -/
def sameWhoCard : Claim7 := { stood := { row := sameWhoRow, standIns := [], harness := (true, "0029808f627b58f4ce4f78751362a484db066480be3fc5377426cb9c04e22e3b"), looks := false }, kinds := [], alts := [], laidByText := true, laidKinds := [.data, .pinned], laidTests := true, laidLooks := .later }
def SameWhoCardSaid : Prop := Claim7.holds Tryd.pinned (.plain (OpenSpec.ofChange sameWhoSpec)) sameWhoCard

/-- THE TIED CARD OF 'rosterlaw04.SameOwn'. -/
def sameOwnCard : Claim7 := { stood := { row := sameOwnRow, standIns := [], harness := (true, "0029808f627b58f4ce4f78751362a484db066480be3fc5377426cb9c04e22e3b"), looks := false }, kinds := [], alts := [], laidByText := true, laidKinds := [.data, .pinned], laidTests := true, laidLooks := .later }
def SameOwnCardSaid : Prop := Claim7.holds Tryd.pinned (.plain (OpenSpec.ofChange sameOwnSpec)) sameOwnCard

/-- THE TIED CARD OF 'rosterlaw20.PolicyTurns'. -/
def policyTurnsCard : Claim7 := { stood := { row := policyTurnsRow, standIns := [], harness := (true, "0029808f627b58f4ce4f78751362a484db066480be3fc5377426cb9c04e22e3b"), looks := false }, kinds := [], alts := [], laidByText := true, laidKinds := [.data, .pinned], laidTests := true, laidLooks := .later }
def PolicyTurnsCardSaid : Prop := Claim7.holds Tryd.pinned (.plain (OpenSpec.ofChange policyTurnsSpec)) policyTurnsCard

/-- THE TIED CARD OF 'rosterlaw20.PolicyLast'. -/
def policyLastCard : Claim7 := { stood := { row := policyLastRow, standIns := [], harness := (true, "0029808f627b58f4ce4f78751362a484db066480be3fc5377426cb9c04e22e3b"), looks := false }, kinds := [], alts := [], laidByText := true, laidKinds := [.data, .pinned], laidTests := true, laidLooks := .later }
def PolicyLastCardSaid : Prop := Claim7.holds Tryd.pinned (.plain (OpenSpec.ofChange policyLastSpec)) policyLastCard

/-- THE TIED CARD OF 'rosterlaw20.PolicySelf'. -/
def policySelfCard : Claim7 := { stood := { row := policySelfRow, standIns := [], harness := (true, "0029808f627b58f4ce4f78751362a484db066480be3fc5377426cb9c04e22e3b"), looks := false }, kinds := [], alts := [], laidByText := true, laidKinds := [.data, .pinned], laidTests := true, laidLooks := .later }
def PolicySelfCardSaid : Prop := Claim7.holds Tryd.pinned (.plain (OpenSpec.ofChange policySelfSpec)) policySelfCard

/-- THE TIED CARD OF 'rosterlaw20.PolicyFull'. -/
def policyFullCard : Claim7 := { stood := { row := policyFullRow, standIns := [], harness := (true, "0029808f627b58f4ce4f78751362a484db066480be3fc5377426cb9c04e22e3b"), looks := false }, kinds := [], alts := [], laidByText := true, laidKinds := [.data, .pinned], laidTests := true, laidLooks := .later }
def PolicyFullCardSaid : Prop := Claim7.holds Tryd.pinned (.plain (OpenSpec.ofChange policyFullSpec)) policyFullCard

/-- THE TIED CARD OF 'rosterlaw20.PolicyNobody'. -/
def policyNobodyCard : Claim7 := { stood := { row := policyNobodyRow, standIns := [], harness := (true, "0029808f627b58f4ce4f78751362a484db066480be3fc5377426cb9c04e22e3b"), looks := false }, kinds := [], alts := [], laidByText := true, laidKinds := [.data, .pinned], laidTests := true, laidLooks := .later }
def PolicyNobodyCardSaid : Prop := Claim7.holds Tryd.pinned (.plain (OpenSpec.ofChange policyNobodySpec)) policyNobodyCard

/-- THE SECOND FORM's CARD OF 'rosterlaw03.UriParses'. -/
def uriParsesUptoCard : Claim7 := { stood := { row := uriParsesUptoRow, standIns := [], harness := (true, "0029808f627b58f4ce4f78751362a484db066480be3fc5377426cb9c04e22e3b"), looks := false }, kinds := [], alts := [], laidByText := true, laidKinds := [.data, .pinned], laidTests := true, laidLooks := .later }
def UriParsesUptoCardSaid : Prop := Claim7.holds Tryd.pinned (.plain (OpenSpec.upto uriParsesSpec)) uriParsesUptoCard

/-- THE SECOND FORM's CARD OF 'rosterlaw03.UriHosts'. -/
def uriHostsUptoCard : Claim7 := { stood := { row := uriHostsUptoRow, standIns := [], harness := (true, "0029808f627b58f4ce4f78751362a484db066480be3fc5377426cb9c04e22e3b"), looks := false }, kinds := [], alts := [], laidByText := true, laidKinds := [.data, .pinned], laidTests := true, laidLooks := .later }
def UriHostsUptoCardSaid : Prop := Claim7.holds Tryd.pinned (.plain (OpenSpec.upto uriHostsSpec)) uriHostsUptoCard

/-- THE SECOND FORM's CARD OF 'rosterlaw04.SameTurns'. -/
def sameTurnsUptoCard : Claim7 := { stood := { row := sameTurnsUptoRow, standIns := [], harness := (true, "0029808f627b58f4ce4f78751362a484db066480be3fc5377426cb9c04e22e3b"), looks := false }, kinds := [], alts := [], laidByText := true, laidKinds := [.data, .pinned], laidTests := true, laidLooks := .later }
def SameTurnsUptoCardSaid : Prop := Claim7.holds Tryd.pinned (.plain (OpenSpec.upto sameTurnsSpec)) sameTurnsUptoCard

/-- THE SECOND FORM's CARD OF 'rosterlaw04.SameOrder'. -/
def sameOrderUptoCard : Claim7 := { stood := { row := sameOrderUptoRow, standIns := [], harness := (true, "0029808f627b58f4ce4f78751362a484db066480be3fc5377426cb9c04e22e3b"), looks := false }, kinds := [], alts := [], laidByText := true, laidKinds := [.data, .pinned], laidTests := true, laidLooks := .later }
def SameOrderUptoCardSaid : Prop := Claim7.holds Tryd.pinned (.plain (OpenSpec.upto sameOrderSpec)) sameOrderUptoCard

/-- THE SECOND FORM's CARD OF 'rosterlaw04.SamePlain'. -/
def samePlainUptoCard : Claim7 := { stood := { row := samePlainUptoRow, standIns := [], harness := (true, "0029808f627b58f4ce4f78751362a484db066480be3fc5377426cb9c04e22e3b"), looks := false }, kinds := [], alts := [], laidByText := true, laidKinds := [.data, .pinned], laidTests := true, laidLooks := .later }
def SamePlainUptoCardSaid : Prop := Claim7.holds Tryd.pinned (.plain (OpenSpec.upto samePlainSpec)) samePlainUptoCard

/-- THE SECOND FORM's CARD OF 'rosterlaw04.SameEquals'. -/
def sameEqualsUptoCard : Claim7 := { stood := { row := sameEqualsUptoRow, standIns := [], harness := (true, "0029808f627b58f4ce4f78751362a484db066480be3fc5377426cb9c04e22e3b"), looks := false }, kinds := [], alts := [], laidByText := true, laidKinds := [.data, .pinned], laidTests := true, laidLooks := .later }
def SameEqualsUptoCardSaid : Prop := Claim7.holds Tryd.pinned (.plain (OpenSpec.upto sameEqualsSpec)) sameEqualsUptoCard

/-- THE SECOND FORM's CARD OF 'rosterlaw03.UriPrints'. -/
def uriPrintsUptoCard : Claim7 := { stood := { row := uriPrintsUptoRow, standIns := [], harness := (true, "0029808f627b58f4ce4f78751362a484db066480be3fc5377426cb9c04e22e3b"), looks := false }, kinds := [], alts := [], laidByText := true, laidKinds := [.data, .pinned], laidTests := true, laidLooks := .later }
def UriPrintsUptoCardSaid : Prop := Claim7.holds Tryd.pinned (.plain (OpenSpec.upto uriPrintsSpec)) uriPrintsUptoCard

/-- THE SECOND FORM's CARD OF 'rosterlaw03.UriBack'. -/
def uriBackUptoCard : Claim7 := { stood := { row := uriBackUptoRow, standIns := [], harness := (true, "0029808f627b58f4ce4f78751362a484db066480be3fc5377426cb9c04e22e3b"), looks := false }, kinds := [], alts := [], laidByText := true, laidKinds := [.data, .pinned], laidTests := true, laidLooks := .later }
def UriBackUptoCardSaid : Prop := Claim7.holds Tryd.pinned (.plain (OpenSpec.upto uriBackSpec)) uriBackUptoCard

/-- THE SECOND FORM's CARD OF 'rosterlaw03.UriOnce'. -/
def uriOnceUptoCard : Claim7 := { stood := { row := uriOnceUptoRow, standIns := [], harness := (true, "0029808f627b58f4ce4f78751362a484db066480be3fc5377426cb9c04e22e3b"), looks := false }, kinds := [], alts := [], laidByText := true, laidKinds := [.data, .pinned], laidTests := true, laidLooks := .later }
def UriOnceUptoCardSaid : Prop := Claim7.holds Tryd.pinned (.plain (OpenSpec.upto uriOnceSpec)) uriOnceUptoCard

/-- THE SECOND FORM's CARD OF 'rosterlaw03.UriLetters'. -/
def uriLettersUptoCard : Claim7 := { stood := { row := uriLettersUptoRow, standIns := [], harness := (true, "0029808f627b58f4ce4f78751362a484db066480be3fc5377426cb9c04e22e3b"), looks := false }, kinds := [], alts := [], laidByText := true, laidKinds := [.data, .pinned], laidTests := true, laidLooks := .later }
def UriLettersUptoCardSaid : Prop := Claim7.holds Tryd.pinned (.plain (OpenSpec.upto uriLettersSpec)) uriLettersUptoCard

/-- THE SECOND FORM's CARD OF 'rosterlaw03.UriSigns'. -/
def uriSignsUptoCard : Claim7 := { stood := { row := uriSignsUptoRow, standIns := [], harness := (true, "0029808f627b58f4ce4f78751362a484db066480be3fc5377426cb9c04e22e3b"), looks := false }, kinds := [], alts := [], laidByText := true, laidKinds := [.data, .pinned], laidTests := true, laidLooks := .later }
def UriSignsUptoCardSaid : Prop := Claim7.holds Tryd.pinned (.plain (OpenSpec.upto uriSignsSpec)) uriSignsUptoCard

/-- THE SECOND FORM's CARD OF 'rosterlaw04.SameWho'. -/
def sameWhoUptoCard : Claim7 := { stood := { row := sameWhoUptoRow, standIns := [], harness := (true, "0029808f627b58f4ce4f78751362a484db066480be3fc5377426cb9c04e22e3b"), looks := false }, kinds := [], alts := [], laidByText := true, laidKinds := [.data, .pinned], laidTests := true, laidLooks := .later }
def SameWhoUptoCardSaid : Prop := Claim7.holds Tryd.pinned (.plain (OpenSpec.upto sameWhoSpec)) sameWhoUptoCard

/-- THE SECOND FORM's CARD OF 'rosterlaw04.SameOwn'. -/
def sameOwnUptoCard : Claim7 := { stood := { row := sameOwnUptoRow, standIns := [], harness := (true, "0029808f627b58f4ce4f78751362a484db066480be3fc5377426cb9c04e22e3b"), looks := false }, kinds := [], alts := [], laidByText := true, laidKinds := [.data, .pinned], laidTests := true, laidLooks := .later }
def SameOwnUptoCardSaid : Prop := Claim7.holds Tryd.pinned (.plain (OpenSpec.upto sameOwnSpec)) sameOwnUptoCard

/-- THE SECOND FORM's CARD OF 'rosterlaw20.PolicyTurns'. -/
def policyTurnsUptoCard : Claim7 := { stood := { row := policyTurnsUptoRow, standIns := [], harness := (true, "0029808f627b58f4ce4f78751362a484db066480be3fc5377426cb9c04e22e3b"), looks := false }, kinds := [], alts := [], laidByText := true, laidKinds := [.data, .pinned], laidTests := true, laidLooks := .later }
def PolicyTurnsUptoCardSaid : Prop := Claim7.holds Tryd.pinned (.plain (OpenSpec.upto policyTurnsSpec)) policyTurnsUptoCard

/-- THE SECOND FORM's CARD OF 'rosterlaw20.PolicyLast'. -/
def policyLastUptoCard : Claim7 := { stood := { row := policyLastUptoRow, standIns := [], harness := (true, "0029808f627b58f4ce4f78751362a484db066480be3fc5377426cb9c04e22e3b"), looks := false }, kinds := [], alts := [], laidByText := true, laidKinds := [.data, .pinned], laidTests := true, laidLooks := .later }
def PolicyLastUptoCardSaid : Prop := Claim7.holds Tryd.pinned (.plain (OpenSpec.upto policyLastSpec)) policyLastUptoCard

/-- THE SECOND FORM's CARD OF 'rosterlaw20.PolicySelf'. -/
def policySelfUptoCard : Claim7 := { stood := { row := policySelfUptoRow, standIns := [], harness := (true, "0029808f627b58f4ce4f78751362a484db066480be3fc5377426cb9c04e22e3b"), looks := false }, kinds := [], alts := [], laidByText := true, laidKinds := [.data, .pinned], laidTests := true, laidLooks := .later }
def PolicySelfUptoCardSaid : Prop := Claim7.holds Tryd.pinned (.plain (OpenSpec.upto policySelfSpec)) policySelfUptoCard

/-- THE SECOND FORM's CARD OF 'rosterlaw20.PolicyFull'. -/
def policyFullUptoCard : Claim7 := { stood := { row := policyFullUptoRow, standIns := [], harness := (true, "0029808f627b58f4ce4f78751362a484db066480be3fc5377426cb9c04e22e3b"), looks := false }, kinds := [], alts := [], laidByText := true, laidKinds := [.data, .pinned], laidTests := true, laidLooks := .later }
def PolicyFullUptoCardSaid : Prop := Claim7.holds Tryd.pinned (.plain (OpenSpec.upto policyFullSpec)) policyFullUptoCard

/-- THE SECOND FORM's CARD OF 'rosterlaw20.PolicyNobody'. -/
def policyNobodyUptoCard : Claim7 := { stood := { row := policyNobodyUptoRow, standIns := [], harness := (true, "0029808f627b58f4ce4f78751362a484db066480be3fc5377426cb9c04e22e3b"), looks := false }, kinds := [], alts := [], laidByText := true, laidKinds := [.data, .pinned], laidTests := true, laidLooks := .later }
def PolicyNobodyUptoCardSaid : Prop := Claim7.holds Tryd.pinned (.plain (OpenSpec.upto policyNobodySpec)) policyNobodyUptoCard
end Rows
end Go.Proofs.YtpnchfigehgkgaaDoor
