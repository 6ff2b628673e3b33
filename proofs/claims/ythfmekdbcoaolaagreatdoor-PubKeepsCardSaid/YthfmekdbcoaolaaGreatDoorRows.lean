/-
  NARROWER THAN 'FOR EVERY INPUT', by the rows' own cells (each row's printed sentence says how): PubLasts: laid · PubNobody: laid · PubTags: laid · PubKeeps: laid · PubFull: laid · PubOrder: laid · PubPlays: laid.
  DERIVED. THE GIVEN ROWS OF THIS SEAT. 7 by the template 'for every input the law returns true; each argument reads behind the call as it read before'; 0 by the template 'total and deterministic' (their statements: YthfmekdbcoaolaaGreatDoorTotals.lean).
  GIVEN WITH THE SEED: the statements are not yours to turn. If you find one false, say at which input.
  Laid BY PROGRAM, IN A SANDBOX (cutbox-rows.mjs): the forced cells as the released guide's own fill.sh prints them over the translation 2ba179fb14cdb632… (all of the seat's roots in one cut). By AI agents, Wed Nov 11 2026. No macro, syntax, notation, axiom, sorry.
-/
import Derived.Test.YthfmekdbcoaolaaGreatDoorChecked
import GoSem.PinnedTables
import GoSem.Claim
import GoSem.ClaimJoined
import GoSem.ClaimMapViews
import Derived.JoinedTies
import Derived.KernelRfl
namespace Go.Proofs.YthfmekdbcoaolaaGreatDoor
/- THE CELL 'sum', in the pinned program and in every row, IS THE sha256 OF THE DUMP (.gsa) THAT YthfmekdbcoaolaaGreatDoorProg.lean LOADS. Nothing in Lean hashes anything: it is a label: what it is worth is what the hold of that sum in a sandbox is worth. -/
noncomputable def Tryz.pinned : Pinned := { name := "ythfmekdbcoaolaagreatdoor", sum := "2ba179fb14cdb632a8da7209f09c0f68bcbd8b22820d494adf97d35985c67d84", checked := Tryz.checked }
namespace Rows
def none {H : Type} : Left H := { results := [], args := [] }

/- WHAT THE LISTED PACKAGE-LEVEL VARIABLES READ AS WHEN THE CALL BEGINS. Each datum BY PROGRAM (the guide's laid-datum.mjs) off the statement by which the dump's own 'gosem.cut.vars' lays the variable. In a bare row this is a premise. The card (YthfmekdbcoaolaaGreatDoorCards.lean) ties it to the program's text. -/
def laid_unicode_utf8_acceptRanges {H : Type} : DataW H := .agg [.agg [.lit (.int .u8 128), .lit (.int .u8 191)], .agg [.lit (.int .u8 160), .lit (.int .u8 191)], .agg [.lit (.int .u8 128), .lit (.int .u8 159)], .agg [.lit (.int .u8 144), .lit (.int .u8 191)], .agg [.lit (.int .u8 128), .lit (.int .u8 143)], .agg [.lit (.int .u8 0), .lit (.int .u8 0)], .agg [.lit (.int .u8 0), .lit (.int .u8 0)], .agg [.lit (.int .u8 0), .lit (.int .u8 0)], .agg [.lit (.int .u8 0), .lit (.int .u8 0)], .agg [.lit (.int .u8 0), .lit (.int .u8 0)], .agg [.lit (.int .u8 0), .lit (.int .u8 0)], .agg [.lit (.int .u8 0), .lit (.int .u8 0)], .agg [.lit (.int .u8 0), .lit (.int .u8 0)], .agg [.lit (.int .u8 0), .lit (.int .u8 0)], .agg [.lit (.int .u8 0), .lit (.int .u8 0)], .agg [.lit (.int .u8 0), .lit (.int .u8 0)]]
/-- One of Go's own tables, pinned by name: the form's constant. -/
def laid_unicode_utf8_first : DataW Unit := Go.Pinned.utf8First

/-- 'rosterlaw16.PubLasts': WHATEVER THE INPUT: true; the input reads as it did. -/
def pubLastsSpec : ChangeSpec := { name := "pubLasts", fn := fun _ => fun
  | [d1, d2, d3, d4] => { results := [.lit (.bool true)], args := [d1, d2, d3, d4] }
  | _ => none }
def pubLastsRow : OpenClaim := { program := "ythfmekdbcoaolaagreatdoor", sum := "2ba179fb14cdb632a8da7209f09c0f68bcbd8b22820d494adf97d35985c67d84", func := "roster/rosterlaw16.PubLasts", spec := "pubLasts", inPlace := ["internal/bytealg.IndexByteString", "internal/bytealg.IndexString", "internal/bytealg.CountString", "internal/abi.NoEscape"], unfollowed := true, recurses := true, named := ["internal/bytealg.MaxLen", "unicode/utf8.first", "unicode/utf8.acceptRanges"], apart := false, laid := [("unicode/utf8.acceptRanges", laid_unicode_utf8_acceptRanges), ("unicode/utf8.first", laid_unicode_utf8_first)] }
def PubLastsSaid : Prop := pubLastsRow.holds Tryz.pinned (OpenSpec.ofChange pubLastsSpec)

/-- ITS FALSE NEIGHBOUR: 'it returns false'. Refute it at one input. -/
def pubLastsWrong : ChangeSpec := { name := "pubLasts", fn := fun _ => fun
  | [d1, d2, d3, d4] => { results := [.lit (.bool false)], args := [d1, d2, d3, d4] }
  | _ => none }
def PubLastsWrongFalsely : Prop := pubLastsRow.holds Tryz.pinned (OpenSpec.ofChange pubLastsWrong)

/-- 'rosterlaw16.PubNobody': WHATEVER THE INPUT: true; the input reads as it did. -/
def pubNobodySpec : ChangeSpec := { name := "pubNobody", fn := fun _ => fun
  | [d] => { results := [.lit (.bool true)], args := [d] }
  | _ => none }
def pubNobodyRow : OpenClaim := { program := "ythfmekdbcoaolaagreatdoor", sum := "2ba179fb14cdb632a8da7209f09c0f68bcbd8b22820d494adf97d35985c67d84", func := "roster/rosterlaw16.PubNobody", spec := "pubNobody", inPlace := ["internal/bytealg.IndexByteString", "internal/bytealg.IndexString", "internal/bytealg.CountString", "internal/abi.NoEscape"], unfollowed := true, recurses := true, named := ["internal/bytealg.MaxLen", "unicode/utf8.first", "unicode/utf8.acceptRanges"], apart := false, laid := [("unicode/utf8.acceptRanges", laid_unicode_utf8_acceptRanges), ("unicode/utf8.first", laid_unicode_utf8_first)] }
def PubNobodySaid : Prop := pubNobodyRow.holds Tryz.pinned (OpenSpec.ofChange pubNobodySpec)

/-- ITS FALSE NEIGHBOUR: 'it returns false'. Refute it at one input. -/
def pubNobodyWrong : ChangeSpec := { name := "pubNobody", fn := fun _ => fun
  | [d] => { results := [.lit (.bool false)], args := [d] }
  | _ => none }
def PubNobodyWrongFalsely : Prop := pubNobodyRow.holds Tryz.pinned (OpenSpec.ofChange pubNobodyWrong)

/-- 'rosterlaw16.PubTags': WHATEVER THE INPUT: true; the input reads as it did. -/
def pubTagsSpec : ChangeSpec := { name := "pubTags", fn := fun _ => fun
  | [d1, d2, d3, d4] => { results := [.lit (.bool true)], args := [d1, d2, d3, d4] }
  | _ => none }
def pubTagsRow : OpenClaim := { program := "ythfmekdbcoaolaagreatdoor", sum := "2ba179fb14cdb632a8da7209f09c0f68bcbd8b22820d494adf97d35985c67d84", func := "roster/rosterlaw16.PubTags", spec := "pubTags", inPlace := ["internal/bytealg.IndexByteString", "internal/bytealg.IndexString", "internal/bytealg.CountString", "internal/abi.NoEscape"], unfollowed := true, recurses := true, named := ["internal/bytealg.MaxLen", "unicode/utf8.first", "unicode/utf8.acceptRanges"], apart := false, laid := [("unicode/utf8.acceptRanges", laid_unicode_utf8_acceptRanges), ("unicode/utf8.first", laid_unicode_utf8_first)] }
def PubTagsSaid : Prop := pubTagsRow.holds Tryz.pinned (OpenSpec.ofChange pubTagsSpec)

/-- ITS FALSE NEIGHBOUR: 'it returns false'. Refute it at one input. -/
def pubTagsWrong : ChangeSpec := { name := "pubTags", fn := fun _ => fun
  | [d1, d2, d3, d4] => { results := [.lit (.bool false)], args := [d1, d2, d3, d4] }
  | _ => none }
def PubTagsWrongFalsely : Prop := pubTagsRow.holds Tryz.pinned (OpenSpec.ofChange pubTagsWrong)

/-- 'rosterlaw16.PubKeeps': WHATEVER THE INPUT: true; the input reads as it did. -/
def pubKeepsSpec : ChangeSpec := { name := "pubKeeps", fn := fun _ => fun
  | [d1, d2, d3] => { results := [.lit (.bool true)], args := [d1, d2, d3] }
  | _ => none }
def pubKeepsRow : OpenClaim := { program := "ythfmekdbcoaolaagreatdoor", sum := "2ba179fb14cdb632a8da7209f09c0f68bcbd8b22820d494adf97d35985c67d84", func := "roster/rosterlaw16.PubKeeps", spec := "pubKeeps", inPlace := ["internal/bytealg.IndexByteString", "internal/bytealg.IndexString", "internal/bytealg.CountString", "internal/abi.NoEscape"], unfollowed := true, recurses := true, named := ["internal/bytealg.MaxLen", "unicode/utf8.first", "unicode/utf8.acceptRanges"], apart := false, laid := [("unicode/utf8.acceptRanges", laid_unicode_utf8_acceptRanges), ("unicode/utf8.first", laid_unicode_utf8_first)] }
def PubKeepsSaid : Prop := pubKeepsRow.holds Tryz.pinned (OpenSpec.ofChange pubKeepsSpec)

/-- ITS FALSE NEIGHBOUR: 'it returns false'. Refute it at one input. -/
def pubKeepsWrong : ChangeSpec := { name := "pubKeeps", fn := fun _ => fun
  | [d1, d2, d3] => { results := [.lit (.bool false)], args := [d1, d2, d3] }
  | _ => none }
def PubKeepsWrongFalsely : Prop := pubKeepsRow.holds Tryz.pinned (OpenSpec.ofChange pubKeepsWrong)

/-- 'rosterlaw16.PubFull': WHATEVER THE INPUT: true; the input reads as it did. -/
def pubFullSpec : ChangeSpec := { name := "pubFull", fn := fun _ => fun
  | [d1, d2] => { results := [.lit (.bool true)], args := [d1, d2] }
  | _ => none }
def pubFullRow : OpenClaim := { program := "ythfmekdbcoaolaagreatdoor", sum := "2ba179fb14cdb632a8da7209f09c0f68bcbd8b22820d494adf97d35985c67d84", func := "roster/rosterlaw16.PubFull", spec := "pubFull", inPlace := ["internal/bytealg.IndexByteString", "internal/bytealg.IndexString", "internal/bytealg.CountString", "internal/abi.NoEscape"], unfollowed := true, recurses := true, named := ["internal/bytealg.MaxLen", "unicode/utf8.first", "unicode/utf8.acceptRanges"], apart := false, laid := [("unicode/utf8.acceptRanges", laid_unicode_utf8_acceptRanges), ("unicode/utf8.first", laid_unicode_utf8_first)] }
def PubFullSaid : Prop := pubFullRow.holds Tryz.pinned (OpenSpec.ofChange pubFullSpec)

/-- ITS FALSE NEIGHBOUR: 'it returns false'. Refute it at one input. -/
def pubFullWrong : ChangeSpec := { name := "pubFull", fn := fun _ => fun
  | [d1, d2] => { results := [.lit (.bool false)], args := [d1, d2] }
  | _ => none }
def PubFullWrongFalsely : Prop := pubFullRow.holds Tryz.pinned (OpenSpec.ofChange pubFullWrong)

/-- 'rosterlaw16.PubOrder': WHATEVER THE INPUT: true; the input reads as it did. -/
def pubOrderSpec : ChangeSpec := { name := "pubOrder", fn := fun _ => fun
  | [d1, d2] => { results := [.lit (.bool true)], args := [d1, d2] }
  | _ => none }
def pubOrderRow : OpenClaim := { program := "ythfmekdbcoaolaagreatdoor", sum := "2ba179fb14cdb632a8da7209f09c0f68bcbd8b22820d494adf97d35985c67d84", func := "roster/rosterlaw16.PubOrder", spec := "pubOrder", inPlace := ["internal/bytealg.IndexByteString", "internal/bytealg.IndexString", "internal/bytealg.CountString", "internal/abi.NoEscape"], unfollowed := true, recurses := true, named := ["internal/bytealg.MaxLen", "unicode/utf8.first", "unicode/utf8.acceptRanges"], apart := false, laid := [("unicode/utf8.acceptRanges", laid_unicode_utf8_acceptRanges), ("unicode/utf8.first", laid_unicode_utf8_first)] }
def PubOrderSaid : Prop := pubOrderRow.holds Tryz.pinned (OpenSpec.ofChange pubOrderSpec)

/-- ITS FALSE NEIGHBOUR: 'it returns false'. Refute it at one input. -/
def pubOrderWrong : ChangeSpec := { name := "pubOrder", fn := fun _ => fun
  | [d1, d2] => { results := [.lit (.bool false)], args := [d1, d2] }
  | _ => none }
def PubOrderWrongFalsely : Prop := pubOrderRow.holds Tryz.pinned (OpenSpec.ofChange pubOrderWrong)

/-- 'rosterlaw16.PubPlays': WHATEVER THE INPUT: true; the input reads as it did. -/
def pubPlaysSpec : ChangeSpec := { name := "pubPlays", fn := fun _ => fun
  | [d1, d2] => { results := [.lit (.bool true)], args := [d1, d2] }
  | _ => none }
def pubPlaysRow : OpenClaim := { program := "ythfmekdbcoaolaagreatdoor", sum := "2ba179fb14cdb632a8da7209f09c0f68bcbd8b22820d494adf97d35985c67d84", func := "roster/rosterlaw16.PubPlays", spec := "pubPlays", inPlace := ["internal/bytealg.IndexByteString", "internal/bytealg.IndexString", "internal/bytealg.CountString", "internal/abi.NoEscape"], unfollowed := true, recurses := true, named := ["internal/bytealg.MaxLen", "unicode/utf8.first", "unicode/utf8.acceptRanges"], apart := false, laid := [("unicode/utf8.acceptRanges", laid_unicode_utf8_acceptRanges), ("unicode/utf8.first", laid_unicode_utf8_first)] }
def PubPlaysSaid : Prop := pubPlaysRow.holds Tryz.pinned (OpenSpec.ofChange pubPlaysSpec)

/-- ITS FALSE NEIGHBOUR: 'it returns false'. Refute it at one input. -/
def pubPlaysWrong : ChangeSpec := { name := "pubPlays", fn := fun _ => fun
  | [d1, d2] => { results := [.lit (.bool false)], args := [d1, d2] }
  | _ => none }
def PubPlaysWrongFalsely : Prop := pubPlaysRow.holds Tryz.pinned (OpenSpec.ofChange pubPlaysWrong)

/- THE SECOND FORM. 'bulk': how many values and letters a reading holds, each counted each time it is reached (what is shared counts as often as it is met; a slice's spare places count too). A statement '..UptoSaid' is the law's where the arguments, and the package variables that the reading takes, are together of bulk at most 1048576: NARROWER than '..Said'. Prove '..Said' where nothing that the law and all that it calls make is longer than what came in: it says more and counts as full. Else prove '..UptoSaid'. A law counts once. -/
mutual
def uptoBulk {H : Type} : DataW H → Nat
  | .lit (.string bytes) => bytes.length + 1
  | .lit _ => 1
  | .nil => 1
  | .ptr d => uptoBulk d + 1
  | .slice elems spare => uptoBulkAll elems + uptoBulkAll spare + 1
  | .agg parts => uptoBulkAll parts + 1
  | .iface _ d => uptoBulk d + 1
  | .map entries => uptoBulkEntries entries + 1
  | .held _ => 1
def uptoBulkAll {H : Type} : List (DataW H) → Nat
  | [] => 0
  | d :: r => uptoBulk d + uptoBulkAll r
def uptoBulkEntries {H : Type} : List (Lit × DataW H) → Nat
  | [] => 0
  | x :: r => uptoBulkEntry x + uptoBulkEntries r
def uptoBulkEntry {H : Type} : Lit × DataW H → Nat
  | (.string bytes, d) => bytes.length + uptoBulk d + 1
  | (_, d) => uptoBulk d + 1
 end
def uptoSmall : (H : Type) → List (DataW H) → Bool := fun _ ds => decide (uptoBulkAll ds ≤ 1048576)
def OpenSpec.upto (s : _root_.Go.ChangeSpec) : _root_.Go.OpenSpec := { _root_.Go.OpenSpec.ofChange s with cond := some uptoSmall }

/-- 'rosterlaw16.PubLasts', WHERE WHAT IT READS IS OF BULK AT MOST 1048576: true; the input reads as it did. -/
def pubLastsUptoRow : OpenClaim := { program := "ythfmekdbcoaolaagreatdoor", sum := "2ba179fb14cdb632a8da7209f09c0f68bcbd8b22820d494adf97d35985c67d84", func := "roster/rosterlaw16.PubLasts", spec := "pubLasts", inPlace := ["internal/bytealg.IndexByteString", "internal/bytealg.IndexString", "internal/bytealg.CountString", "internal/abi.NoEscape"], unfollowed := true, recurses := true, named := ["internal/bytealg.MaxLen", "unicode/utf8.first", "unicode/utf8.acceptRanges"], apart := false, laid := [("unicode/utf8.acceptRanges", laid_unicode_utf8_acceptRanges), ("unicode/utf8.first", laid_unicode_utf8_first)], narrowed := true }
def PubLastsUptoSaid : Prop := pubLastsUptoRow.holds Tryz.pinned (OpenSpec.upto pubLastsSpec)

/-- 'rosterlaw16.PubNobody', WHERE WHAT IT READS IS OF BULK AT MOST 1048576: true; the input reads as it did. -/
def pubNobodyUptoRow : OpenClaim := { program := "ythfmekdbcoaolaagreatdoor", sum := "2ba179fb14cdb632a8da7209f09c0f68bcbd8b22820d494adf97d35985c67d84", func := "roster/rosterlaw16.PubNobody", spec := "pubNobody", inPlace := ["internal/bytealg.IndexByteString", "internal/bytealg.IndexString", "internal/bytealg.CountString", "internal/abi.NoEscape"], unfollowed := true, recurses := true, named := ["internal/bytealg.MaxLen", "unicode/utf8.first", "unicode/utf8.acceptRanges"], apart := false, laid := [("unicode/utf8.acceptRanges", laid_unicode_utf8_acceptRanges), ("unicode/utf8.first", laid_unicode_utf8_first)], narrowed := true }
def PubNobodyUptoSaid : Prop := pubNobodyUptoRow.holds Tryz.pinned (OpenSpec.upto pubNobodySpec)

/-- 'rosterlaw16.PubTags', WHERE WHAT IT READS IS OF BULK AT MOST 1048576: true; the input reads as it did. -/
def pubTagsUptoRow : OpenClaim := { program := "ythfmekdbcoaolaagreatdoor", sum := "2ba179fb14cdb632a8da7209f09c0f68bcbd8b22820d494adf97d35985c67d84", func := "roster/rosterlaw16.PubTags", spec := "pubTags", inPlace := ["internal/bytealg.IndexByteString", "internal/bytealg.IndexString", "internal/bytealg.CountString", "internal/abi.NoEscape"], unfollowed := true, recurses := true, named := ["internal/bytealg.MaxLen", "unicode/utf8.first", "unicode/utf8.acceptRanges"], apart := false, laid := [("unicode/utf8.acceptRanges", laid_unicode_utf8_acceptRanges), ("unicode/utf8.first", laid_unicode_utf8_first)], narrowed := true }
def PubTagsUptoSaid : Prop := pubTagsUptoRow.holds Tryz.pinned (OpenSpec.upto pubTagsSpec)

/-- 'rosterlaw16.PubKeeps', WHERE WHAT IT READS IS OF BULK AT MOST 1048576: true; the input reads as it did. -/
def pubKeepsUptoRow : OpenClaim := { program := "ythfmekdbcoaolaagreatdoor", sum := "2ba179fb14cdb632a8da7209f09c0f68bcbd8b22820d494adf97d35985c67d84", func := "roster/rosterlaw16.PubKeeps", spec := "pubKeeps", inPlace := ["internal/bytealg.IndexByteString", "internal/bytealg.IndexString", "internal/bytealg.CountString", "internal/abi.NoEscape"], unfollowed := true, recurses := true, named := ["internal/bytealg.MaxLen", "unicode/utf8.first", "unicode/utf8.acceptRanges"], apart := false, laid := [("unicode/utf8.acceptRanges", laid_unicode_utf8_acceptRanges), ("unicode/utf8.first", laid_unicode_utf8_first)], narrowed := true }
def PubKeepsUptoSaid : Prop := pubKeepsUptoRow.holds Tryz.pinned (OpenSpec.upto pubKeepsSpec)

/-- 'rosterlaw16.PubFull', WHERE WHAT IT READS IS OF BULK AT MOST 1048576: true; the input reads as it did. -/
def pubFullUptoRow : OpenClaim := { program := "ythfmekdbcoaolaagreatdoor", sum := "2ba179fb14cdb632a8da7209f09c0f68bcbd8b22820d494adf97d35985c67d84", func := "roster/rosterlaw16.PubFull", spec := "pubFull", inPlace := ["internal/bytealg.IndexByteString", "internal/bytealg.IndexString", "internal/bytealg.CountString", "internal/abi.NoEscape"], unfollowed := true, recurses := true, named := ["internal/bytealg.MaxLen", "unicode/utf8.first", "unicode/utf8.acceptRanges"], apart := false, laid := [("unicode/utf8.acceptRanges", laid_unicode_utf8_acceptRanges), ("unicode/utf8.first", laid_unicode_utf8_first)], narrowed := true }
def PubFullUptoSaid : Prop := pubFullUptoRow.holds Tryz.pinned (OpenSpec.upto pubFullSpec)

/-- 'rosterlaw16.PubOrder', WHERE WHAT IT READS IS OF BULK AT MOST 1048576: true; the input reads as it did. -/
def pubOrderUptoRow : OpenClaim := { program := "ythfmekdbcoaolaagreatdoor", sum := "2ba179fb14cdb632a8da7209f09c0f68bcbd8b22820d494adf97d35985c67d84", func := "roster/rosterlaw16.PubOrder", spec := "pubOrder", inPlace := ["internal/bytealg.IndexByteString", "internal/bytealg.IndexString", "internal/bytealg.CountString", "internal/abi.NoEscape"], unfollowed := true, recurses := true, named := ["internal/bytealg.MaxLen", "unicode/utf8.first", "unicode/utf8.acceptRanges"], apart := false, laid := [("unicode/utf8.acceptRanges", laid_unicode_utf8_acceptRanges), ("unicode/utf8.first", laid_unicode_utf8_first)], narrowed := true }
def PubOrderUptoSaid : Prop := pubOrderUptoRow.holds Tryz.pinned (OpenSpec.upto pubOrderSpec)

/-- 'rosterlaw16.PubPlays', WHERE WHAT IT READS IS OF BULK AT MOST 1048576: true; the input reads as it did. -/
def pubPlaysUptoRow : OpenClaim := { program := "ythfmekdbcoaolaagreatdoor", sum := "2ba179fb14cdb632a8da7209f09c0f68bcbd8b22820d494adf97d35985c67d84", func := "roster/rosterlaw16.PubPlays", spec := "pubPlays", inPlace := ["internal/bytealg.IndexByteString", "internal/bytealg.IndexString", "internal/bytealg.CountString", "internal/abi.NoEscape"], unfollowed := true, recurses := true, named := ["internal/bytealg.MaxLen", "unicode/utf8.first", "unicode/utf8.acceptRanges"], apart := false, laid := [("unicode/utf8.acceptRanges", laid_unicode_utf8_acceptRanges), ("unicode/utf8.first", laid_unicode_utf8_first)], narrowed := true }
def PubPlaysUptoSaid : Prop := pubPlaysUptoRow.holds Tryz.pinned (OpenSpec.upto pubPlaysSpec)

end Rows
end Go.Proofs.YthfmekdbcoaolaaGreatDoor
