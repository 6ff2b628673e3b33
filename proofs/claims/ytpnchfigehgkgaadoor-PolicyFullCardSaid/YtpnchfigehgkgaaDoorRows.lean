/-
  NARROWER THAN 'FOR EVERY INPUT', by the rows' own cells (each row's printed sentence says how): UriParses: laid · UriHosts: laid · SameTurns: laid · SameOrder: laid · SamePlain: laid · SameEquals: laid · UriPrints: laid · UriBack: laid · UriOnce: laid · UriLetters: laid · UriSigns: laid · SameWho: laid · SameOwn: laid · PolicyTurns: laid · PolicyLast: laid · PolicySelf: laid · PolicyFull: laid · PolicyNobody: laid.
  DERIVED. THE GIVEN ROWS OF THIS SEAT. 18 by the template 'for every input the law returns true; each argument reads behind the call as it read before'; 0 by the template 'total and deterministic' (their statements: YtpnchfigehgkgaaDoorTotals.lean).
  GIVEN WITH THE SEED: the statements are not yours to turn. If you find one false, say at which input.
  Laid BY PROGRAM, IN A SANDBOX (cutbox-rows.mjs): the forced cells as the released guide's own fill.sh prints them over the translation 545dca1f56cbb0b2… (all of the seat's roots in one cut). By AI agents, Wed Nov 11 2026. No macro, syntax, notation, axiom, sorry.
-/
import Derived.Test.YtpnchfigehgkgaaDoorChecked
import GoSem.PinnedTables
import GoSem.Claim
import GoSem.ClaimJoined
import GoSem.ClaimMapViews
import Derived.JoinedTies
import Derived.KernelRfl
namespace Go.Proofs.YtpnchfigehgkgaaDoor
/- THE CELL 'sum', in the pinned program and in every row, IS THE sha256 OF THE DUMP (.gsa) THAT YtpnchfigehgkgaaDoorProg.lean LOADS. Nothing in Lean hashes anything: it is a label: what it is worth is what the hold of that sum in a sandbox is worth. -/
noncomputable def Tryd.pinned : Pinned := { name := "ytpnchfigehgkgaadoor", sum := "545dca1f56cbb0b25553663a522fc87cbb43e20d39edd172e2b801fbc63fb4d7", checked := Tryd.checked }
namespace Rows
def none {H : Type} : Left H := { results := [], args := [] }

/- WHAT THE LISTED PACKAGE-LEVEL VARIABLES READ AS WHEN THE CALL BEGINS. Each datum BY PROGRAM (the guide's laid-datum.mjs) off the statement by which the dump's own 'gosem.cut.vars' lays the variable. In a bare row this is a premise. The card (YtpnchfigehgkgaaDoorCards.lean) ties it to the program's text. -/
def laid_unicode_utf8_acceptRanges {H : Type} : DataW H := .agg [.agg [.lit (.int .u8 128), .lit (.int .u8 191)], .agg [.lit (.int .u8 160), .lit (.int .u8 191)], .agg [.lit (.int .u8 128), .lit (.int .u8 159)], .agg [.lit (.int .u8 144), .lit (.int .u8 191)], .agg [.lit (.int .u8 128), .lit (.int .u8 143)], .agg [.lit (.int .u8 0), .lit (.int .u8 0)], .agg [.lit (.int .u8 0), .lit (.int .u8 0)], .agg [.lit (.int .u8 0), .lit (.int .u8 0)], .agg [.lit (.int .u8 0), .lit (.int .u8 0)], .agg [.lit (.int .u8 0), .lit (.int .u8 0)], .agg [.lit (.int .u8 0), .lit (.int .u8 0)], .agg [.lit (.int .u8 0), .lit (.int .u8 0)], .agg [.lit (.int .u8 0), .lit (.int .u8 0)], .agg [.lit (.int .u8 0), .lit (.int .u8 0)], .agg [.lit (.int .u8 0), .lit (.int .u8 0)], .agg [.lit (.int .u8 0), .lit (.int .u8 0)]]
/-- One of Go's own tables, pinned by name: the form's constant. -/
def laid_unicode_utf8_first : DataW Unit := Go.Pinned.utf8First

/-- 'rosterlaw03.UriParses': WHATEVER THE INPUT: true; the input reads as it did. -/
def uriParsesSpec : ChangeSpec := { name := "uriParses", fn := fun _ => fun
  | [d] => { results := [.lit (.bool true)], args := [d] }
  | _ => none }
def uriParsesRow : OpenClaim := { program := "ytpnchfigehgkgaadoor", sum := "545dca1f56cbb0b25553663a522fc87cbb43e20d39edd172e2b801fbc63fb4d7", func := "roster/rosterlaw03.UriParses", spec := "uriParses", inPlace := ["internal/bytealg.IndexByteString", "internal/bytealg.IndexString", "internal/bytealg.CountString"], named := ["internal/bytealg.MaxLen", "unicode/utf8.first", "unicode/utf8.acceptRanges"], plainKeys := false, apart := false, laid := [("unicode/utf8.acceptRanges", laid_unicode_utf8_acceptRanges), ("unicode/utf8.first", laid_unicode_utf8_first)] }
def UriParsesSaid : Prop := uriParsesRow.holds Tryd.pinned (OpenSpec.ofChange uriParsesSpec)

/-- ITS FALSE NEIGHBOUR: 'it returns false'. Refute it at one input. -/
def uriParsesWrong : ChangeSpec := { name := "uriParses", fn := fun _ => fun
  | [d] => { results := [.lit (.bool false)], args := [d] }
  | _ => none }
def UriParsesWrongFalsely : Prop := uriParsesRow.holds Tryd.pinned (OpenSpec.ofChange uriParsesWrong)

/-- 'rosterlaw03.UriHosts': WHATEVER THE INPUT: true; the input reads as it did. -/
def uriHostsSpec : ChangeSpec := { name := "uriHosts", fn := fun _ => fun
  | [d] => { results := [.lit (.bool true)], args := [d] }
  | _ => none }
def uriHostsRow : OpenClaim := { program := "ytpnchfigehgkgaadoor", sum := "545dca1f56cbb0b25553663a522fc87cbb43e20d39edd172e2b801fbc63fb4d7", func := "roster/rosterlaw03.UriHosts", spec := "uriHosts", inPlace := ["internal/bytealg.CountString", "internal/bytealg.IndexByteString", "internal/bytealg.IndexString"], named := ["unicode/utf8.first", "unicode/utf8.acceptRanges", "internal/bytealg.MaxLen"], plainKeys := false, apart := false, laid := [("unicode/utf8.acceptRanges", laid_unicode_utf8_acceptRanges), ("unicode/utf8.first", laid_unicode_utf8_first)] }
def UriHostsSaid : Prop := uriHostsRow.holds Tryd.pinned (OpenSpec.ofChange uriHostsSpec)

/-- ITS FALSE NEIGHBOUR: 'it returns false'. Refute it at one input. -/
def uriHostsWrong : ChangeSpec := { name := "uriHosts", fn := fun _ => fun
  | [d] => { results := [.lit (.bool false)], args := [d] }
  | _ => none }
def UriHostsWrongFalsely : Prop := uriHostsRow.holds Tryd.pinned (OpenSpec.ofChange uriHostsWrong)

/-- 'rosterlaw04.SameTurns': WHATEVER THE INPUT: true; the input reads as it did. -/
def sameTurnsSpec : ChangeSpec := { name := "sameTurns", fn := fun _ => fun
  | [d1, d2] => { results := [.lit (.bool true)], args := [d1, d2] }
  | _ => none }
def sameTurnsRow : OpenClaim := { program := "ytpnchfigehgkgaadoor", sum := "545dca1f56cbb0b25553663a522fc87cbb43e20d39edd172e2b801fbc63fb4d7", func := "roster/rosterlaw04.SameTurns", spec := "sameTurns", inPlace := ["internal/bytealg.CountString", "internal/bytealg.IndexByteString", "internal/bytealg.IndexString", "internal/abi.NoEscape"], named := ["unicode/utf8.first", "unicode/utf8.acceptRanges", "internal/bytealg.MaxLen"], plainKeys := false, apart := false, laid := [("unicode/utf8.acceptRanges", laid_unicode_utf8_acceptRanges), ("unicode/utf8.first", laid_unicode_utf8_first)] }
def SameTurnsSaid : Prop := sameTurnsRow.holds Tryd.pinned (OpenSpec.ofChange sameTurnsSpec)

/-- ITS FALSE NEIGHBOUR: 'it returns false'. Refute it at one input. -/
def sameTurnsWrong : ChangeSpec := { name := "sameTurns", fn := fun _ => fun
  | [d1, d2] => { results := [.lit (.bool false)], args := [d1, d2] }
  | _ => none }
def SameTurnsWrongFalsely : Prop := sameTurnsRow.holds Tryd.pinned (OpenSpec.ofChange sameTurnsWrong)

/-- 'rosterlaw04.SameOrder': WHATEVER THE INPUT: true; the input reads as it did. -/
def sameOrderSpec : ChangeSpec := { name := "sameOrder", fn := fun _ => fun
  | [d1, d2] => { results := [.lit (.bool true)], args := [d1, d2] }
  | _ => none }
def sameOrderRow : OpenClaim := { program := "ytpnchfigehgkgaadoor", sum := "545dca1f56cbb0b25553663a522fc87cbb43e20d39edd172e2b801fbc63fb4d7", func := "roster/rosterlaw04.SameOrder", spec := "sameOrder", inPlace := ["internal/bytealg.CountString", "internal/bytealg.IndexByteString", "internal/bytealg.IndexString", "internal/abi.NoEscape"], named := ["unicode/utf8.first", "unicode/utf8.acceptRanges", "internal/bytealg.MaxLen"], plainKeys := false, apart := false, laid := [("unicode/utf8.acceptRanges", laid_unicode_utf8_acceptRanges), ("unicode/utf8.first", laid_unicode_utf8_first)] }
def SameOrderSaid : Prop := sameOrderRow.holds Tryd.pinned (OpenSpec.ofChange sameOrderSpec)

/-- ITS FALSE NEIGHBOUR: 'it returns false'. Refute it at one input. -/
def sameOrderWrong : ChangeSpec := { name := "sameOrder", fn := fun _ => fun
  | [d1, d2] => { results := [.lit (.bool false)], args := [d1, d2] }
  | _ => none }
def SameOrderWrongFalsely : Prop := sameOrderRow.holds Tryd.pinned (OpenSpec.ofChange sameOrderWrong)

/-- 'rosterlaw04.SamePlain': WHATEVER THE INPUT: true; the input reads as it did. -/
def samePlainSpec : ChangeSpec := { name := "samePlain", fn := fun _ => fun
  | [d1, d2] => { results := [.lit (.bool true)], args := [d1, d2] }
  | _ => none }
def samePlainRow : OpenClaim := { program := "ytpnchfigehgkgaadoor", sum := "545dca1f56cbb0b25553663a522fc87cbb43e20d39edd172e2b801fbc63fb4d7", func := "roster/rosterlaw04.SamePlain", spec := "samePlain", inPlace := ["internal/bytealg.CountString", "internal/bytealg.IndexByteString", "internal/bytealg.IndexString", "internal/abi.NoEscape"], named := ["unicode/utf8.first", "unicode/utf8.acceptRanges", "internal/bytealg.MaxLen"], plainKeys := false, apart := false, laid := [("unicode/utf8.acceptRanges", laid_unicode_utf8_acceptRanges), ("unicode/utf8.first", laid_unicode_utf8_first)] }
def SamePlainSaid : Prop := samePlainRow.holds Tryd.pinned (OpenSpec.ofChange samePlainSpec)

/-- ITS FALSE NEIGHBOUR: 'it returns false'. Refute it at one input. -/
def samePlainWrong : ChangeSpec := { name := "samePlain", fn := fun _ => fun
  | [d1, d2] => { results := [.lit (.bool false)], args := [d1, d2] }
  | _ => none }
def SamePlainWrongFalsely : Prop := samePlainRow.holds Tryd.pinned (OpenSpec.ofChange samePlainWrong)

/-- 'rosterlaw04.SameEquals': WHATEVER THE INPUT: true; the input reads as it did. -/
def sameEqualsSpec : ChangeSpec := { name := "sameEquals", fn := fun _ => fun
  | [d1, d2, d3] => { results := [.lit (.bool true)], args := [d1, d2, d3] }
  | _ => none }
def sameEqualsRow : OpenClaim := { program := "ytpnchfigehgkgaadoor", sum := "545dca1f56cbb0b25553663a522fc87cbb43e20d39edd172e2b801fbc63fb4d7", func := "roster/rosterlaw04.SameEquals", spec := "sameEquals", inPlace := ["internal/bytealg.CountString", "internal/bytealg.IndexByteString", "internal/bytealg.IndexString", "internal/abi.NoEscape"], named := ["unicode/utf8.first", "unicode/utf8.acceptRanges", "internal/bytealg.MaxLen"], plainKeys := false, apart := false, laid := [("unicode/utf8.acceptRanges", laid_unicode_utf8_acceptRanges), ("unicode/utf8.first", laid_unicode_utf8_first)] }
def SameEqualsSaid : Prop := sameEqualsRow.holds Tryd.pinned (OpenSpec.ofChange sameEqualsSpec)

/-- ITS FALSE NEIGHBOUR: 'it returns false'. Refute it at one input. -/
def sameEqualsWrong : ChangeSpec := { name := "sameEquals", fn := fun _ => fun
  | [d1, d2, d3] => { results := [.lit (.bool false)], args := [d1, d2, d3] }
  | _ => none }
def SameEqualsWrongFalsely : Prop := sameEqualsRow.holds Tryd.pinned (OpenSpec.ofChange sameEqualsWrong)

/-- 'rosterlaw03.UriPrints': WHATEVER THE INPUT: true; the input reads as it did. -/
def uriPrintsSpec : ChangeSpec := { name := "uriPrints", fn := fun _ => fun
  | [d] => { results := [.lit (.bool true)], args := [d] }
  | _ => none }
def uriPrintsRow : OpenClaim := { program := "ytpnchfigehgkgaadoor", sum := "545dca1f56cbb0b25553663a522fc87cbb43e20d39edd172e2b801fbc63fb4d7", func := "roster/rosterlaw03.UriPrints", spec := "uriPrints", inPlace := ["internal/bytealg.CountString", "internal/bytealg.IndexByteString", "internal/bytealg.IndexString", "internal/abi.NoEscape"], recurses := true, named := ["unicode/utf8.first", "unicode/utf8.acceptRanges", "internal/bytealg.MaxLen"], plainKeys := false, apart := false, laid := [("unicode/utf8.acceptRanges", laid_unicode_utf8_acceptRanges), ("unicode/utf8.first", laid_unicode_utf8_first)] }
def UriPrintsSaid : Prop := uriPrintsRow.holds Tryd.pinned (OpenSpec.ofChange uriPrintsSpec)

/-- ITS FALSE NEIGHBOUR: 'it returns false'. Refute it at one input. -/
def uriPrintsWrong : ChangeSpec := { name := "uriPrints", fn := fun _ => fun
  | [d] => { results := [.lit (.bool false)], args := [d] }
  | _ => none }
def UriPrintsWrongFalsely : Prop := uriPrintsRow.holds Tryd.pinned (OpenSpec.ofChange uriPrintsWrong)

/-- 'rosterlaw03.UriBack': WHATEVER THE INPUT: true; the input reads as it did. -/
def uriBackSpec : ChangeSpec := { name := "uriBack", fn := fun _ => fun
  | [d] => { results := [.lit (.bool true)], args := [d] }
  | _ => none }
def uriBackRow : OpenClaim := { program := "ytpnchfigehgkgaadoor", sum := "545dca1f56cbb0b25553663a522fc87cbb43e20d39edd172e2b801fbc63fb4d7", func := "roster/rosterlaw03.UriBack", spec := "uriBack", inPlace := ["internal/bytealg.CountString", "internal/bytealg.IndexByteString", "internal/bytealg.IndexString", "internal/abi.NoEscape"], named := ["unicode/utf8.first", "unicode/utf8.acceptRanges", "internal/bytealg.MaxLen"], plainKeys := false, apart := false, laid := [("unicode/utf8.acceptRanges", laid_unicode_utf8_acceptRanges), ("unicode/utf8.first", laid_unicode_utf8_first)] }
def UriBackSaid : Prop := uriBackRow.holds Tryd.pinned (OpenSpec.ofChange uriBackSpec)

/-- ITS FALSE NEIGHBOUR: 'it returns false'. Refute it at one input. -/
def uriBackWrong : ChangeSpec := { name := "uriBack", fn := fun _ => fun
  | [d] => { results := [.lit (.bool false)], args := [d] }
  | _ => none }
def UriBackWrongFalsely : Prop := uriBackRow.holds Tryd.pinned (OpenSpec.ofChange uriBackWrong)

/-- 'rosterlaw03.UriOnce': WHATEVER THE INPUT: true; the input reads as it did. -/
def uriOnceSpec : ChangeSpec := { name := "uriOnce", fn := fun _ => fun
  | [d] => { results := [.lit (.bool true)], args := [d] }
  | _ => none }
def uriOnceRow : OpenClaim := { program := "ytpnchfigehgkgaadoor", sum := "545dca1f56cbb0b25553663a522fc87cbb43e20d39edd172e2b801fbc63fb4d7", func := "roster/rosterlaw03.UriOnce", spec := "uriOnce", inPlace := ["internal/bytealg.IndexByteString", "internal/bytealg.IndexString", "internal/bytealg.CountString", "internal/abi.NoEscape"], named := ["internal/bytealg.MaxLen", "unicode/utf8.first", "unicode/utf8.acceptRanges"], plainKeys := false, apart := false, laid := [("unicode/utf8.acceptRanges", laid_unicode_utf8_acceptRanges), ("unicode/utf8.first", laid_unicode_utf8_first)] }
def UriOnceSaid : Prop := uriOnceRow.holds Tryd.pinned (OpenSpec.ofChange uriOnceSpec)

/-- ITS FALSE NEIGHBOUR: 'it returns false'. Refute it at one input. -/
def uriOnceWrong : ChangeSpec := { name := "uriOnce", fn := fun _ => fun
  | [d] => { results := [.lit (.bool false)], args := [d] }
  | _ => none }
def UriOnceWrongFalsely : Prop := uriOnceRow.holds Tryd.pinned (OpenSpec.ofChange uriOnceWrong)

/-- 'rosterlaw03.UriLetters': WHATEVER THE INPUT: true; the input reads as it did. -/
def uriLettersSpec : ChangeSpec := { name := "uriLetters", fn := fun _ => fun
  | [d1, d2] => { results := [.lit (.bool true)], args := [d1, d2] }
  | _ => none }
def uriLettersRow : OpenClaim := { program := "ytpnchfigehgkgaadoor", sum := "545dca1f56cbb0b25553663a522fc87cbb43e20d39edd172e2b801fbc63fb4d7", func := "roster/rosterlaw03.UriLetters", spec := "uriLetters", inPlace := ["internal/bytealg.CountString", "internal/bytealg.IndexByteString", "internal/bytealg.IndexString", "internal/abi.NoEscape"], named := ["unicode/utf8.first", "unicode/utf8.acceptRanges", "internal/bytealg.MaxLen"], plainKeys := false, apart := false, laid := [("unicode/utf8.acceptRanges", laid_unicode_utf8_acceptRanges), ("unicode/utf8.first", laid_unicode_utf8_first)] }
def UriLettersSaid : Prop := uriLettersRow.holds Tryd.pinned (OpenSpec.ofChange uriLettersSpec)

/-- ITS FALSE NEIGHBOUR: 'it returns false'. Refute it at one input. -/
def uriLettersWrong : ChangeSpec := { name := "uriLetters", fn := fun _ => fun
  | [d1, d2] => { results := [.lit (.bool false)], args := [d1, d2] }
  | _ => none }
def UriLettersWrongFalsely : Prop := uriLettersRow.holds Tryd.pinned (OpenSpec.ofChange uriLettersWrong)

/-- 'rosterlaw03.UriSigns': WHATEVER THE INPUT: true; the input reads as it did. -/
def uriSignsSpec : ChangeSpec := { name := "uriSigns", fn := fun _ => fun
  | [d] => { results := [.lit (.bool true)], args := [d] }
  | _ => none }
def uriSignsRow : OpenClaim := { program := "ytpnchfigehgkgaadoor", sum := "545dca1f56cbb0b25553663a522fc87cbb43e20d39edd172e2b801fbc63fb4d7", func := "roster/rosterlaw03.UriSigns", spec := "uriSigns", inPlace := ["internal/bytealg.CountString", "internal/bytealg.IndexByteString", "internal/bytealg.IndexString", "internal/abi.NoEscape"], named := ["unicode/utf8.first", "unicode/utf8.acceptRanges", "internal/bytealg.MaxLen"], plainKeys := false, apart := false, laid := [("unicode/utf8.acceptRanges", laid_unicode_utf8_acceptRanges), ("unicode/utf8.first", laid_unicode_utf8_first)] }
def UriSignsSaid : Prop := uriSignsRow.holds Tryd.pinned (OpenSpec.ofChange uriSignsSpec)

/-- ITS FALSE NEIGHBOUR: 'it returns false'. Refute it at one input. -/
def uriSignsWrong : ChangeSpec := { name := "uriSigns", fn := fun _ => fun
  | [d] => { results := [.lit (.bool false)], args := [d] }
  | _ => none }
def UriSignsWrongFalsely : Prop := uriSignsRow.holds Tryd.pinned (OpenSpec.ofChange uriSignsWrong)

/-- 'rosterlaw04.SameWho': WHATEVER THE INPUT: true; the input reads as it did. -/
def sameWhoSpec : ChangeSpec := { name := "sameWho", fn := fun _ => fun
  | [d1, d2] => { results := [.lit (.bool true)], args := [d1, d2] }
  | _ => none }
def sameWhoRow : OpenClaim := { program := "ytpnchfigehgkgaadoor", sum := "545dca1f56cbb0b25553663a522fc87cbb43e20d39edd172e2b801fbc63fb4d7", func := "roster/rosterlaw04.SameWho", spec := "sameWho", inPlace := ["internal/bytealg.CountString", "internal/bytealg.IndexByteString", "internal/bytealg.IndexString", "internal/abi.NoEscape"], named := ["unicode/utf8.first", "unicode/utf8.acceptRanges", "internal/bytealg.MaxLen"], plainKeys := false, apart := false, laid := [("unicode/utf8.acceptRanges", laid_unicode_utf8_acceptRanges), ("unicode/utf8.first", laid_unicode_utf8_first)] }
def SameWhoSaid : Prop := sameWhoRow.holds Tryd.pinned (OpenSpec.ofChange sameWhoSpec)

/-- ITS FALSE NEIGHBOUR: 'it returns false'. Refute it at one input. -/
def sameWhoWrong : ChangeSpec := { name := "sameWho", fn := fun _ => fun
  | [d1, d2] => { results := [.lit (.bool false)], args := [d1, d2] }
  | _ => none }
def SameWhoWrongFalsely : Prop := sameWhoRow.holds Tryd.pinned (OpenSpec.ofChange sameWhoWrong)

/-- 'rosterlaw04.SameOwn': WHATEVER THE INPUT: true; the input reads as it did. -/
def sameOwnSpec : ChangeSpec := { name := "sameOwn", fn := fun _ => fun
  | [d1, d2] => { results := [.lit (.bool true)], args := [d1, d2] }
  | _ => none }
def sameOwnRow : OpenClaim := { program := "ytpnchfigehgkgaadoor", sum := "545dca1f56cbb0b25553663a522fc87cbb43e20d39edd172e2b801fbc63fb4d7", func := "roster/rosterlaw04.SameOwn", spec := "sameOwn", inPlace := ["internal/bytealg.CountString", "internal/bytealg.IndexByteString", "internal/bytealg.IndexString", "internal/abi.NoEscape"], named := ["unicode/utf8.first", "unicode/utf8.acceptRanges", "internal/bytealg.MaxLen"], plainKeys := false, apart := false, laid := [("unicode/utf8.acceptRanges", laid_unicode_utf8_acceptRanges), ("unicode/utf8.first", laid_unicode_utf8_first)] }
def SameOwnSaid : Prop := sameOwnRow.holds Tryd.pinned (OpenSpec.ofChange sameOwnSpec)

/-- ITS FALSE NEIGHBOUR: 'it returns false'. Refute it at one input. -/
def sameOwnWrong : ChangeSpec := { name := "sameOwn", fn := fun _ => fun
  | [d1, d2] => { results := [.lit (.bool false)], args := [d1, d2] }
  | _ => none }
def SameOwnWrongFalsely : Prop := sameOwnRow.holds Tryd.pinned (OpenSpec.ofChange sameOwnWrong)

/-- 'rosterlaw20.PolicyTurns': WHATEVER THE INPUT: true; the input reads as it did. -/
def policyTurnsSpec : ChangeSpec := { name := "policyTurns", fn := fun _ => fun
  | [d1, d2] => { results := [.lit (.bool true)], args := [d1, d2] }
  | _ => none }
def policyTurnsRow : OpenClaim := { program := "ytpnchfigehgkgaadoor", sum := "545dca1f56cbb0b25553663a522fc87cbb43e20d39edd172e2b801fbc63fb4d7", func := "roster/rosterlaw20.PolicyTurns", spec := "policyTurns", inPlace := ["internal/bytealg.IndexByteString", "internal/bytealg.IndexString", "internal/bytealg.CountString", "internal/abi.NoEscape"], named := ["internal/bytealg.MaxLen", "unicode/utf8.first", "unicode/utf8.acceptRanges"], plainKeys := false, apart := false, laid := [("unicode/utf8.acceptRanges", laid_unicode_utf8_acceptRanges), ("unicode/utf8.first", laid_unicode_utf8_first)] }
def PolicyTurnsSaid : Prop := policyTurnsRow.holds Tryd.pinned (OpenSpec.ofChange policyTurnsSpec)

/-- ITS FALSE NEIGHBOUR: 'it returns false'. Refute it at one input. -/
def policyTurnsWrong : ChangeSpec := { name := "policyTurns", fn := fun _ => fun
  | [d1, d2] => { results := [.lit (.bool false)], args := [d1, d2] }
  | _ => none }
def PolicyTurnsWrongFalsely : Prop := policyTurnsRow.holds Tryd.pinned (OpenSpec.ofChange policyTurnsWrong)

/-- 'rosterlaw20.PolicyLast': WHATEVER THE INPUT: true; the input reads as it did. -/
def policyLastSpec : ChangeSpec := { name := "policyLast", fn := fun _ => fun
  | [d1, d2, d3] => { results := [.lit (.bool true)], args := [d1, d2, d3] }
  | _ => none }
def policyLastRow : OpenClaim := { program := "ytpnchfigehgkgaadoor", sum := "545dca1f56cbb0b25553663a522fc87cbb43e20d39edd172e2b801fbc63fb4d7", func := "roster/rosterlaw20.PolicyLast", spec := "policyLast", inPlace := ["internal/bytealg.IndexByteString", "internal/bytealg.IndexString", "internal/bytealg.CountString", "internal/abi.NoEscape"], named := ["internal/bytealg.MaxLen", "unicode/utf8.first", "unicode/utf8.acceptRanges"], plainKeys := false, apart := false, laid := [("unicode/utf8.acceptRanges", laid_unicode_utf8_acceptRanges), ("unicode/utf8.first", laid_unicode_utf8_first)] }
def PolicyLastSaid : Prop := policyLastRow.holds Tryd.pinned (OpenSpec.ofChange policyLastSpec)

/-- ITS FALSE NEIGHBOUR: 'it returns false'. Refute it at one input. -/
def policyLastWrong : ChangeSpec := { name := "policyLast", fn := fun _ => fun
  | [d1, d2, d3] => { results := [.lit (.bool false)], args := [d1, d2, d3] }
  | _ => none }
def PolicyLastWrongFalsely : Prop := policyLastRow.holds Tryd.pinned (OpenSpec.ofChange policyLastWrong)

/-- 'rosterlaw20.PolicySelf': WHATEVER THE INPUT: true; the input reads as it did. -/
def policySelfSpec : ChangeSpec := { name := "policySelf", fn := fun _ => fun
  | [d1, d2] => { results := [.lit (.bool true)], args := [d1, d2] }
  | _ => none }
def policySelfRow : OpenClaim := { program := "ytpnchfigehgkgaadoor", sum := "545dca1f56cbb0b25553663a522fc87cbb43e20d39edd172e2b801fbc63fb4d7", func := "roster/rosterlaw20.PolicySelf", spec := "policySelf", inPlace := ["internal/bytealg.IndexByteString", "internal/bytealg.IndexString", "internal/bytealg.CountString", "internal/abi.NoEscape"], named := ["internal/bytealg.MaxLen", "unicode/utf8.first", "unicode/utf8.acceptRanges"], plainKeys := false, apart := false, laid := [("unicode/utf8.acceptRanges", laid_unicode_utf8_acceptRanges), ("unicode/utf8.first", laid_unicode_utf8_first)] }
def PolicySelfSaid : Prop := policySelfRow.holds Tryd.pinned (OpenSpec.ofChange policySelfSpec)

/-- ITS FALSE NEIGHBOUR: 'it returns false'. Refute it at one input. -/
def policySelfWrong : ChangeSpec := { name := "policySelf", fn := fun _ => fun
  | [d1, d2] => { results := [.lit (.bool false)], args := [d1, d2] }
  | _ => none }
def PolicySelfWrongFalsely : Prop := policySelfRow.holds Tryd.pinned (OpenSpec.ofChange policySelfWrong)

/-- 'rosterlaw20.PolicyFull': WHATEVER THE INPUT: true; the input reads as it did. -/
def policyFullSpec : ChangeSpec := { name := "policyFull", fn := fun _ => fun
  | [d] => { results := [.lit (.bool true)], args := [d] }
  | _ => none }
def policyFullRow : OpenClaim := { program := "ytpnchfigehgkgaadoor", sum := "545dca1f56cbb0b25553663a522fc87cbb43e20d39edd172e2b801fbc63fb4d7", func := "roster/rosterlaw20.PolicyFull", spec := "policyFull", inPlace := ["internal/bytealg.IndexByteString", "internal/bytealg.IndexString", "internal/bytealg.CountString", "internal/abi.NoEscape"], unfollowed := true, recurses := true, named := ["internal/bytealg.MaxLen", "unicode/utf8.first", "unicode/utf8.acceptRanges"], plainKeys := false, apart := false, laid := [("unicode/utf8.acceptRanges", laid_unicode_utf8_acceptRanges), ("unicode/utf8.first", laid_unicode_utf8_first)] }
def PolicyFullSaid : Prop := policyFullRow.holds Tryd.pinned (OpenSpec.ofChange policyFullSpec)

/-- ITS FALSE NEIGHBOUR: 'it returns false'. Refute it at one input. -/
def policyFullWrong : ChangeSpec := { name := "policyFull", fn := fun _ => fun
  | [d] => { results := [.lit (.bool false)], args := [d] }
  | _ => none }
def PolicyFullWrongFalsely : Prop := policyFullRow.holds Tryd.pinned (OpenSpec.ofChange policyFullWrong)

/-- 'rosterlaw20.PolicyNobody': WHATEVER THE INPUT: true; the input reads as it did. -/
def policyNobodySpec : ChangeSpec := { name := "policyNobody", fn := fun _ => fun
  | [d] => { results := [.lit (.bool true)], args := [d] }
  | _ => none }
def policyNobodyRow : OpenClaim := { program := "ytpnchfigehgkgaadoor", sum := "545dca1f56cbb0b25553663a522fc87cbb43e20d39edd172e2b801fbc63fb4d7", func := "roster/rosterlaw20.PolicyNobody", spec := "policyNobody", inPlace := ["internal/bytealg.IndexByteString", "internal/bytealg.IndexString", "internal/bytealg.CountString", "internal/abi.NoEscape"], unfollowed := true, recurses := true, named := ["internal/bytealg.MaxLen", "unicode/utf8.first", "unicode/utf8.acceptRanges"], plainKeys := false, apart := false, laid := [("unicode/utf8.acceptRanges", laid_unicode_utf8_acceptRanges), ("unicode/utf8.first", laid_unicode_utf8_first)] }
def PolicyNobodySaid : Prop := policyNobodyRow.holds Tryd.pinned (OpenSpec.ofChange policyNobodySpec)

/-- ITS FALSE NEIGHBOUR: 'it returns false'. Refute it at one input. -/
def policyNobodyWrong : ChangeSpec := { name := "policyNobody", fn := fun _ => fun
  | [d] => { results := [.lit (.bool false)], args := [d] }
  | _ => none }
def PolicyNobodyWrongFalsely : Prop := policyNobodyRow.holds Tryd.pinned (OpenSpec.ofChange policyNobodyWrong)

/- THE SECOND FORM. 'bulk': how many values and letters a reading holds, each counted each time it is reached (what is shared counts as often as it is met; a slice's spare places count too). A statement '..UptoSaid' is the law's where the arguments, and the package variables that the reading takes, are together of bulk at most 1048576: NARROWER than '..Said'. Prove '..Said' where nothing that the law and all that it calls make is longer than what came in: it says more and counts as full. Else prove '..UptoSaid'. A law counts once. -/
mutual
def uptoBulk {H : Type} : DataW H → Nat
  | .lit (.string bytes) => bytes.length + 1
  | .lit _ => 1
  | .nil => 1
  | .ptr d => uptoBulk d + 1
  | .slice elems spare => uptoBulkAll elems + uptoBulkAll spare + 1
  | .agg parts => uptoBulkAll parts + 1
  | .iface _ d => uptoBulk d + 1
  | .map entries => uptoBulkEntries entries + 1
  | .held _ => 1
def uptoBulkAll {H : Type} : List (DataW H) → Nat
  | [] => 0
  | d :: r => uptoBulk d + uptoBulkAll r
def uptoBulkEntries {H : Type} : List (Lit × DataW H) → Nat
  | [] => 0
  | x :: r => uptoBulkEntry x + uptoBulkEntries r
def uptoBulkEntry {H : Type} : Lit × DataW H → Nat
  | (.string bytes, d) => bytes.length + uptoBulk d + 1
  | (_, d) => uptoBulk d + 1
 end
def uptoSmall : (H : Type) → List (DataW H) → Bool := fun _ ds => decide (uptoBulkAll ds ≤ 1048576)
def OpenSpec.upto (s : _root_.Go.ChangeSpec) : _root_.Go.OpenSpec := { _root_.Go.OpenSpec.ofChange s with cond := some uptoSmall }

/-- 'rosterlaw03.UriParses', WHERE WHAT IT READS IS OF BULK AT MOST 1048576: true; the input reads as it did. -/
def uriParsesUptoRow : OpenClaim := { program := "ytpnchfigehgkgaadoor", sum := "545dca1f56cbb0b25553663a522fc87cbb43e20d39edd172e2b801fbc63fb4d7", func := "roster/rosterlaw03.UriParses", spec := "uriParses", inPlace := ["internal/bytealg.IndexByteString", "internal/bytealg.IndexString", "internal/bytealg.CountString"], named := ["internal/bytealg.MaxLen", "unicode/utf8.first", "unicode/utf8.acceptRanges"], plainKeys := false, apart := false, laid := [("unicode/utf8.acceptRanges", laid_unicode_utf8_acceptRanges), ("unicode/utf8.first", laid_unicode_utf8_first)], narrowed := true }
def UriParsesUptoSaid : Prop := uriParsesUptoRow.holds Tryd.pinned (OpenSpec.upto uriParsesSpec)

/-- 'rosterlaw03.UriHosts', WHERE WHAT IT READS IS OF BULK AT MOST 1048576: true; the input reads as it did. -/
def uriHostsUptoRow : OpenClaim := { program := "ytpnchfigehgkgaadoor", sum := "545dca1f56cbb0b25553663a522fc87cbb43e20d39edd172e2b801fbc63fb4d7", func := "roster/rosterlaw03.UriHosts", spec := "uriHosts", inPlace := ["internal/bytealg.CountString", "internal/bytealg.IndexByteString", "internal/bytealg.IndexString"], named := ["unicode/utf8.first", "unicode/utf8.acceptRanges", "internal/bytealg.MaxLen"], plainKeys := false, apart := false, laid := [("unicode/utf8.acceptRanges", laid_unicode_utf8_acceptRanges), ("unicode/utf8.first", laid_unicode_utf8_first)], narrowed := true }
def UriHostsUptoSaid : Prop := uriHostsUptoRow.holds Tryd.pinned (OpenSpec.upto uriHostsSpec)

/-- 'rosterlaw04.SameTurns', WHERE WHAT IT READS IS OF BULK AT MOST 1048576: true; the input reads as it did. -/
def sameTurnsUptoRow : OpenClaim := { program := "ytpnchfigehgkgaadoor", sum := "545dca1f56cbb0b25553663a522fc87cbb43e20d39edd172e2b801fbc63fb4d7", func := "roster/rosterlaw04.SameTurns", spec := "sameTurns", inPlace := ["internal/bytealg.CountString", "internal/bytealg.IndexByteString", "internal/bytealg.IndexString", "internal/abi.NoEscape"], named := ["unicode/utf8.first", "unicode/utf8.acceptRanges", "internal/bytealg.MaxLen"], plainKeys := false, apart := false, laid := [("unicode/utf8.acceptRanges", laid_unicode_utf8_acceptRanges), ("unicode/utf8.first", laid_unicode_utf8_first)], narrowed := true }
def SameTurnsUptoSaid : Prop := sameTurnsUptoRow.holds Tryd.pinned (OpenSpec.upto sameTurnsSpec)

/-- 'rosterlaw04.SameOrder', WHERE WHAT IT READS IS OF BULK AT MOST 1048576: true; the input reads as it did. -/
def sameOrderUptoRow : OpenClaim := { program := "ytpnchfigehgkgaadoor", sum := "545dca1f56cbb0b25553663a522fc87cbb43e20d39edd172e2b801fbc63fb4d7", func := "roster/rosterlaw04.SameOrder", spec := "sameOrder", inPlace := ["internal/bytealg.CountString", "internal/bytealg.IndexByteString", "internal/bytealg.IndexString", "internal/abi.NoEscape"], named := ["unicode/utf8.first", "unicode/utf8.acceptRanges", "internal/bytealg.MaxLen"], plainKeys := false, apart := false, laid := [("unicode/utf8.acceptRanges", laid_unicode_utf8_acceptRanges), ("unicode/utf8.first", laid_unicode_utf8_first)], narrowed := true }
def SameOrderUptoSaid : Prop := sameOrderUptoRow.holds Tryd.pinned (OpenSpec.upto sameOrderSpec)

/-- 'rosterlaw04.SamePlain', WHERE WHAT IT READS IS OF BULK AT MOST 1048576: true; the input reads as it did. -/
def samePlainUptoRow : OpenClaim := { program := "ytpnchfigehgkgaadoor", sum := "545dca1f56cbb0b25553663a522fc87cbb43e20d39edd172e2b801fbc63fb4d7", func := "roster/rosterlaw04.SamePlain", spec := "samePlain", inPlace := ["internal/bytealg.CountString", "internal/bytealg.IndexByteString", "internal/bytealg.IndexString", "internal/abi.NoEscape"], named := ["unicode/utf8.first", "unicode/utf8.acceptRanges", "internal/bytealg.MaxLen"], plainKeys := false, apart := false, laid := [("unicode/utf8.acceptRanges", laid_unicode_utf8_acceptRanges), ("unicode/utf8.first", laid_unicode_utf8_first)], narrowed := true }
def SamePlainUptoSaid : Prop := samePlainUptoRow.holds Tryd.pinned (OpenSpec.upto samePlainSpec)

/-- 'rosterlaw04.SameEquals', WHERE WHAT IT READS IS OF BULK AT MOST 1048576: true; the input reads as it did. -/
def sameEqualsUptoRow : OpenClaim := { program := "ytpnchfigehgkgaadoor", sum := "545dca1f56cbb0b25553663a522fc87cbb43e20d39edd172e2b801fbc63fb4d7", func := "roster/rosterlaw04.SameEquals", spec := "sameEquals", inPlace := ["internal/bytealg.CountString", "internal/bytealg.IndexByteString", "internal/bytealg.IndexString", "internal/abi.NoEscape"], named := ["unicode/utf8.first", "unicode/utf8.acceptRanges", "internal/bytealg.MaxLen"], plainKeys := false, apart := false, laid := [("unicode/utf8.acceptRanges", laid_unicode_utf8_acceptRanges), ("unicode/utf8.first", laid_unicode_utf8_first)], narrowed := true }
def SameEqualsUptoSaid : Prop := sameEqualsUptoRow.holds Tryd.pinned (OpenSpec.upto sameEqualsSpec)

/-- 'rosterlaw03.UriPrints', WHERE WHAT IT READS IS OF BULK AT MOST 1048576: true; the input reads as it did. -/
def uriPrintsUptoRow : OpenClaim := { program := "ytpnchfigehgkgaadoor", sum := "545dca1f56cbb0b25553663a522fc87cbb43e20d39edd172e2b801fbc63fb4d7", func := "roster/rosterlaw03.UriPrints", spec := "uriPrints", inPlace := ["internal/bytealg.CountString", "internal/bytealg.IndexByteString", "internal/bytealg.IndexString", "internal/abi.NoEscape"], recurses := true, named := ["unicode/utf8.first", "unicode/utf8.acceptRanges", "internal/bytealg.MaxLen"], plainKeys := false, apart := false, laid := [("unicode/utf8.acceptRanges", laid_unicode_utf8_acceptRanges), ("unicode/utf8.first", laid_unicode_utf8_first)], narrowed := true }
def UriPrintsUptoSaid : Prop := uriPrintsUptoRow.holds Tryd.pinned (OpenSpec.upto uriPrintsSpec)

/-- 'rosterlaw03.UriBack', WHERE WHAT IT READS IS OF BULK AT MOST 1048576: true; the input reads as it did. -/
def uriBackUptoRow : OpenClaim := { program := "ytpnchfigehgkgaadoor", sum := "545dca1f56cbb0b25553663a522fc87cbb43e20d39edd172e2b801fbc63fb4d7", func := "roster/rosterlaw03.UriBack", spec := "uriBack", inPlace := ["internal/bytealg.CountString", "internal/bytealg.IndexByteString", "internal/bytealg.IndexString", "internal/abi.NoEscape"], named := ["unicode/utf8.first", "unicode/utf8.acceptRanges", "internal/bytealg.MaxLen"], plainKeys := false, apart := false, laid := [("unicode/utf8.acceptRanges", laid_unicode_utf8_acceptRanges), ("unicode/utf8.first", laid_unicode_utf8_first)], narrowed := true }
def UriBackUptoSaid : Prop := uriBackUptoRow.holds Tryd.pinned (OpenSpec.upto uriBackSpec)

/-- 'rosterlaw03.UriOnce', WHERE WHAT IT READS IS OF BULK AT MOST 1048576: true; the input reads as it did. -/
def uriOnceUptoRow : OpenClaim := { program := "ytpnchfigehgkgaadoor", sum := "545dca1f56cbb0b25553663a522fc87cbb43e20d39edd172e2b801fbc63fb4d7", func := "roster/rosterlaw03.UriOnce", spec := "uriOnce", inPlace := ["internal/bytealg.IndexByteString", "internal/bytealg.IndexString", "internal/bytealg.CountString", "internal/abi.NoEscape"], named := ["internal/bytealg.MaxLen", "unicode/utf8.first", "unicode/utf8.acceptRanges"], plainKeys := false, apart := false, laid := [("unicode/utf8.acceptRanges", laid_unicode_utf8_acceptRanges), ("unicode/utf8.first", laid_unicode_utf8_first)], narrowed := true }
def UriOnceUptoSaid : Prop := uriOnceUptoRow.holds Tryd.pinned (OpenSpec.upto uriOnceSpec)

/-- 'rosterlaw03.UriLetters', WHERE WHAT IT READS IS OF BULK AT MOST 1048576: true; the input reads as it did. -/
def uriLettersUptoRow : OpenClaim := { program := "ytpnchfigehgkgaadoor", sum := "545dca1f56cbb0b25553663a522fc87cbb43e20d39edd172e2b801fbc63fb4d7", func := "roster/rosterlaw03.UriLetters", spec := "uriLetters", inPlace := ["internal/bytealg.CountString", "internal/bytealg.IndexByteString", "internal/bytealg.IndexString", "internal/abi.NoEscape"], named := ["unicode/utf8.first", "unicode/utf8.acceptRanges", "internal/bytealg.MaxLen"], plainKeys := false, apart := false, laid := [("unicode/utf8.acceptRanges", laid_unicode_utf8_acceptRanges), ("unicode/utf8.first", laid_unicode_utf8_first)], narrowed := true }
def UriLettersUptoSaid : Prop := uriLettersUptoRow.holds Tryd.pinned (OpenSpec.upto uriLettersSpec)

/-- 'rosterlaw03.UriSigns', WHERE WHAT IT READS IS OF BULK AT MOST 1048576: true; the input reads as it did. -/
def uriSignsUptoRow : OpenClaim := { program := "ytpnchfigehgkgaadoor", sum := "545dca1f56cbb0b25553663a522fc87cbb43e20d39edd172e2b801fbc63fb4d7", func := "roster/rosterlaw03.UriSigns", spec := "uriSigns", inPlace := ["internal/bytealg.CountString", "internal/bytealg.IndexByteString", "internal/bytealg.IndexString", "internal/abi.NoEscape"], named := ["unicode/utf8.first", "unicode/utf8.acceptRanges", "internal/bytealg.MaxLen"], plainKeys := false, apart := false, laid := [("unicode/utf8.acceptRanges", laid_unicode_utf8_acceptRanges), ("unicode/utf8.first", laid_unicode_utf8_first)], narrowed := true }
def UriSignsUptoSaid : Prop := uriSignsUptoRow.holds Tryd.pinned (OpenSpec.upto uriSignsSpec)

/-- 'rosterlaw04.SameWho', WHERE WHAT IT READS IS OF BULK AT MOST 1048576: true; the input reads as it did. -/
def sameWhoUptoRow : OpenClaim := { program := "ytpnchfigehgkgaadoor", sum := "545dca1f56cbb0b25553663a522fc87cbb43e20d39edd172e2b801fbc63fb4d7", func := "roster/rosterlaw04.SameWho", spec := "sameWho", inPlace := ["internal/bytealg.CountString", "internal/bytealg.IndexByteString", "internal/bytealg.IndexString", "internal/abi.NoEscape"], named := ["unicode/utf8.first", "unicode/utf8.acceptRanges", "internal/bytealg.MaxLen"], plainKeys := false, apart := false, laid := [("unicode/utf8.acceptRanges", laid_unicode_utf8_acceptRanges), ("unicode/utf8.first", laid_unicode_utf8_first)], narrowed := true }
def SameWhoUptoSaid : Prop := sameWhoUptoRow.holds Tryd.pinned (OpenSpec.upto sameWhoSpec)

/-- 'rosterlaw04.SameOwn', WHERE WHAT IT READS IS OF BULK AT MOST 1048576: true; the input reads as it did. -/
def sameOwnUptoRow : OpenClaim := { program := "ytpnchfigehgkgaadoor", sum := "545dca1f56cbb0b25553663a522fc87cbb43e20d39edd172e2b801fbc63fb4d7", func := "roster/rosterlaw04.SameOwn", spec := "sameOwn", inPlace := ["internal/bytealg.CountString", "internal/bytealg.IndexByteString", "internal/bytealg.IndexString", "internal/abi.NoEscape"], named := ["unicode/utf8.first", "unicode/utf8.acceptRanges", "internal/bytealg.MaxLen"], plainKeys := false, apart := false, laid := [("unicode/utf8.acceptRanges", laid_unicode_utf8_acceptRanges), ("unicode/utf8.first", laid_unicode_utf8_first)], narrowed := true }
def SameOwnUptoSaid : Prop := sameOwnUptoRow.holds Tryd.pinned (OpenSpec.upto sameOwnSpec)

/-- 'rosterlaw20.PolicyTurns', WHERE WHAT IT READS IS OF BULK AT MOST 1048576: true; the input reads as it did. -/
def policyTurnsUptoRow : OpenClaim := { program := "ytpnchfigehgkgaadoor", sum := "545dca1f56cbb0b25553663a522fc87cbb43e20d39edd172e2b801fbc63fb4d7", func := "roster/rosterlaw20.PolicyTurns", spec := "policyTurns", inPlace := ["internal/bytealg.IndexByteString", "internal/bytealg.IndexString", "internal/bytealg.CountString", "internal/abi.NoEscape"], named := ["internal/bytealg.MaxLen", "unicode/utf8.first", "unicode/utf8.acceptRanges"], plainKeys := false, apart := false, laid := [("unicode/utf8.acceptRanges", laid_unicode_utf8_acceptRanges), ("unicode/utf8.first", laid_unicode_utf8_first)], narrowed := true }
def PolicyTurnsUptoSaid : Prop := policyTurnsUptoRow.holds Tryd.pinned (OpenSpec.upto policyTurnsSpec)

/-- 'rosterlaw20.PolicyLast', WHERE WHAT IT READS IS OF BULK AT MOST 1048576: true; the input reads as it did. -/
def policyLastUptoRow : OpenClaim := { program := "ytpnchfigehgkgaadoor", sum := "545dca1f56cbb0b25553663a522fc87cbb43e20d39edd172e2b801fbc63fb4d7", func := "roster/rosterlaw20.PolicyLast", spec := "policyLast", inPlace := ["internal/bytealg.IndexByteString", "internal/bytealg.IndexString", "internal/bytealg.CountString", "internal/abi.NoEscape"], named := ["internal/bytealg.MaxLen", "unicode/utf8.first", "unicode/utf8.acceptRanges"], plainKeys := false, apart := false, laid := [("unicode/utf8.acceptRanges", laid_unicode_utf8_acceptRanges), ("unicode/utf8.first", laid_unicode_utf8_first)], narrowed := true }
def PolicyLastUptoSaid : Prop := policyLastUptoRow.holds Tryd.pinned (OpenSpec.upto policyLastSpec)

/-- 'rosterlaw20.PolicySelf', WHERE WHAT IT READS IS OF BULK AT MOST 1048576: true; the input reads as it did. -/
def policySelfUptoRow : OpenClaim := { program := "ytpnchfigehgkgaadoor", sum := "545dca1f56cbb0b25553663a522fc87cbb43e20d39edd172e2b801fbc63fb4d7", func := "roster/rosterlaw20.PolicySelf", spec := "policySelf", inPlace := ["internal/bytealg.IndexByteString", "internal/bytealg.IndexString", "internal/bytealg.CountString", "internal/abi.NoEscape"], named := ["internal/bytealg.MaxLen", "unicode/utf8.first", "unicode/utf8.acceptRanges"], plainKeys := false, apart := false, laid := [("unicode/utf8.acceptRanges", laid_unicode_utf8_acceptRanges), ("unicode/utf8.first", laid_unicode_utf8_first)], narrowed := true }
def PolicySelfUptoSaid : Prop := policySelfUptoRow.holds Tryd.pinned (OpenSpec.upto policySelfSpec)

/-- 'rosterlaw20.PolicyFull', WHERE WHAT IT READS IS OF BULK AT MOST 1048576: true; the input reads as it did. -/
def policyFullUptoRow : OpenClaim := { program := "ytpnchfigehgkgaadoor", sum := "545dca1f56cbb0b25553663a522fc87cbb43e20d39edd172e2b801fbc63fb4d7", func := "roster/rosterlaw20.PolicyFull", spec := "policyFull", inPlace := ["internal/bytealg.IndexByteString", "internal/bytealg.IndexString", "internal/bytealg.CountString", "internal/abi.NoEscape"], unfollowed := true, recurses := true, named := ["internal/bytealg.MaxLen", "unicode/utf8.first", "unicode/utf8.acceptRanges"], plainKeys := false, apart := false, laid := [("unicode/utf8.acceptRanges", laid_unicode_utf8_acceptRanges), ("unicode/utf8.first", laid_unicode_utf8_first)], narrowed := true }
def PolicyFullUptoSaid : Prop := policyFullUptoRow.holds Tryd.pinned (OpenSpec.upto policyFullSpec)

/-- 'rosterlaw20.PolicyNobody', WHERE WHAT IT READS IS OF BULK AT MOST 1048576: true; the input reads as it did. -/
def policyNobodyUptoRow : OpenClaim := { program := "ytpnchfigehgkgaadoor", sum := "545dca1f56cbb0b25553663a522fc87cbb43e20d39edd172e2b801fbc63fb4d7", func := "roster/rosterlaw20.PolicyNobody", spec := "policyNobody", inPlace := ["internal/bytealg.IndexByteString", "internal/bytealg.IndexString", "internal/bytealg.CountString", "internal/abi.NoEscape"], unfollowed := true, recurses := true, named := ["internal/bytealg.MaxLen", "unicode/utf8.first", "unicode/utf8.acceptRanges"], plainKeys := false, apart := false, laid := [("unicode/utf8.acceptRanges", laid_unicode_utf8_acceptRanges), ("unicode/utf8.first", laid_unicode_utf8_first)], narrowed := true }
def PolicyNobodyUptoSaid : Prop := policyNobodyUptoRow.holds Tryd.pinned (OpenSpec.upto policyNobodySpec)

end Rows
end Go.Proofs.YtpnchfigehgkgaaDoor
