/-
  NARROWER THAN 'FOR EVERY INPUT', by the rows' own cells (each row's printed sentence says how): SubsOnce: laid · SubsLasts: laid · SubsFull: laid · SubsApart: laid · SubsEnds: laid · SubsPlays: laid · SubsNobody: laid.
  DERIVED. THE GIVEN ROWS OF THIS SEAT. 7 by the template 'for every input the law returns true; each argument reads behind the call as it read before'; 0 by the template 'total and deterministic' (their statements: YthkadehlclcggaaGreatDoorTotals.lean).
  GIVEN WITH THE SEED: the statements are not yours to turn. If you find one false, say at which input.
  Laid BY PROGRAM, IN A SANDBOX (cutbox-rows.mjs): the forced cells as the released guide's own fill.sh prints them over the translation dfbaac4a77b67742… (all of the seat's roots in one cut). By AI agents, Wed Nov 11 2026. No macro, syntax, notation, axiom, sorry.
-/
import Derived.Test.YthkadehlclcggaaGreatDoorChecked
import GoSem.PinnedTables
import GoSem.Claim
import GoSem.ClaimJoined
import GoSem.ClaimMapViews
import Derived.JoinedTies
import Derived.KernelRfl
namespace Go.Proofs.YthkadehlclcggaaGreatDoor
/- THE CELL 'sum', in the pinned program and in every row, IS THE sha256 OF THE DUMP (.gsa) THAT YthkadehlclcggaaGreatDoorProg.lean LOADS. Nothing in Lean hashes anything: it is a label: what it is worth is what the hold of that sum in a sandbox is worth. -/
noncomputable def Tryz.pinned : Pinned := { name := "ythkadehlclcggaagreatdoor", sum := "dfbaac4a77b677424dbcec1a97a60cd0b6586ca1c58fe15083be0b3c606340d9", checked := Tryz.checked }
namespace Rows
def none {H : Type} : Left H := { results := [], args := [] }

/- WHAT THE LISTED PACKAGE-LEVEL VARIABLES READ AS WHEN THE CALL BEGINS. Each datum BY PROGRAM (the guide's laid-datum.mjs) off the statement by which the dump's own 'gosem.cut.vars' lays the variable. In a bare row this is a premise. The card (YthkadehlclcggaaGreatDoorCards.lean) ties it to the program's text. -/
def laid_unicode_utf8_acceptRanges {H : Type} : DataW H := .agg [.agg [.lit (.int .u8 128), .lit (.int .u8 191)], .agg [.lit (.int .u8 160), .lit (.int .u8 191)], .agg [.lit (.int .u8 128), .lit (.int .u8 159)], .agg [.lit (.int .u8 144), .lit (.int .u8 191)], .agg [.lit (.int .u8 128), .lit (.int .u8 143)], .agg [.lit (.int .u8 0), .lit (.int .u8 0)], .agg [.lit (.int .u8 0), .lit (.int .u8 0)], .agg [.lit (.int .u8 0), .lit (.int .u8 0)], .agg [.lit (.int .u8 0), .lit (.int .u8 0)], .agg [.lit (.int .u8 0), .lit (.int .u8 0)], .agg [.lit (.int .u8 0), .lit (.int .u8 0)], .agg [.lit (.int .u8 0), .lit (.int .u8 0)], .agg [.lit (.int .u8 0), .lit (.int .u8 0)], .agg [.lit (.int .u8 0), .lit (.int .u8 0)], .agg [.lit (.int .u8 0), .lit (.int .u8 0)], .agg [.lit (.int .u8 0), .lit (.int .u8 0)]]
/-- One of Go's own tables, pinned by name: the form's constant. -/
def laid_unicode_utf8_first : DataW Unit := Go.Pinned.utf8First

/-- 'rosterlaw19.SubsOnce': WHATEVER THE INPUT: true; the input reads as it did. -/
def subsOnceSpec : ChangeSpec := { name := "subsOnce", fn := fun _ => fun
  | [d1, d2, d3] => { results := [.lit (.bool true)], args := [d1, d2, d3] }
  | _ => none }
def subsOnceRow : OpenClaim := { program := "ythkadehlclcggaagreatdoor", sum := "dfbaac4a77b677424dbcec1a97a60cd0b6586ca1c58fe15083be0b3c606340d9", func := "roster/rosterlaw19.SubsOnce", spec := "subsOnce", inPlace := ["internal/bytealg.CountString", "internal/bytealg.IndexByteString", "internal/bytealg.IndexString"], unfollowed := true, recurses := true, named := ["unicode/utf8.first", "unicode/utf8.acceptRanges", "internal/bytealg.MaxLen"], apart := false, laid := [("unicode/utf8.acceptRanges", laid_unicode_utf8_acceptRanges), ("unicode/utf8.first", laid_unicode_utf8_first)] }
def SubsOnceSaid : Prop := subsOnceRow.holds Tryz.pinned (OpenSpec.ofChange subsOnceSpec)

/-- ITS FALSE NEIGHBOUR: 'it returns false'. Refute it at one input. -/
def subsOnceWrong : ChangeSpec := { name := "subsOnce", fn := fun _ => fun
  | [d1, d2, d3] => { results := [.lit (.bool false)], args := [d1, d2, d3] }
  | _ => none }
def SubsOnceWrongFalsely : Prop := subsOnceRow.holds Tryz.pinned (OpenSpec.ofChange subsOnceWrong)

/-- 'rosterlaw19.SubsLasts': WHATEVER THE INPUT: true; the input reads as it did. -/
def subsLastsSpec : ChangeSpec := { name := "subsLasts", fn := fun _ => fun
  | [d1, d2, d3] => { results := [.lit (.bool true)], args := [d1, d2, d3] }
  | _ => none }
def subsLastsRow : OpenClaim := { program := "ythkadehlclcggaagreatdoor", sum := "dfbaac4a77b677424dbcec1a97a60cd0b6586ca1c58fe15083be0b3c606340d9", func := "roster/rosterlaw19.SubsLasts", spec := "subsLasts", inPlace := ["internal/bytealg.CountString", "internal/bytealg.IndexByteString", "internal/bytealg.IndexString"], unfollowed := true, recurses := true, named := ["unicode/utf8.first", "unicode/utf8.acceptRanges", "internal/bytealg.MaxLen"], apart := false, laid := [("unicode/utf8.acceptRanges", laid_unicode_utf8_acceptRanges), ("unicode/utf8.first", laid_unicode_utf8_first)] }
def SubsLastsSaid : Prop := subsLastsRow.holds Tryz.pinned (OpenSpec.ofChange subsLastsSpec)

/-- ITS FALSE NEIGHBOUR: 'it returns false'. Refute it at one input. -/
def subsLastsWrong : ChangeSpec := { name := "subsLasts", fn := fun _ => fun
  | [d1, d2, d3] => { results := [.lit (.bool false)], args := [d1, d2, d3] }
  | _ => none }
def SubsLastsWrongFalsely : Prop := subsLastsRow.holds Tryz.pinned (OpenSpec.ofChange subsLastsWrong)

/-- 'rosterlaw19.SubsFull': WHATEVER THE INPUT: true; the input reads as it did. -/
def subsFullSpec : ChangeSpec := { name := "subsFull", fn := fun _ => fun
  | [d] => { results := [.lit (.bool true)], args := [d] }
  | _ => none }
def subsFullRow : OpenClaim := { program := "ythkadehlclcggaagreatdoor", sum := "dfbaac4a77b677424dbcec1a97a60cd0b6586ca1c58fe15083be0b3c606340d9", func := "roster/rosterlaw19.SubsFull", spec := "subsFull", inPlace := ["internal/bytealg.CountString", "internal/bytealg.IndexByteString", "internal/bytealg.IndexString"], unfollowed := true, recurses := true, named := ["unicode/utf8.first", "unicode/utf8.acceptRanges", "internal/bytealg.MaxLen"], apart := false, laid := [("unicode/utf8.acceptRanges", laid_unicode_utf8_acceptRanges), ("unicode/utf8.first", laid_unicode_utf8_first)] }
def SubsFullSaid : Prop := subsFullRow.holds Tryz.pinned (OpenSpec.ofChange subsFullSpec)

/-- ITS FALSE NEIGHBOUR: 'it returns false'. Refute it at one input. -/
def subsFullWrong : ChangeSpec := { name := "subsFull", fn := fun _ => fun
  | [d] => { results := [.lit (.bool false)], args := [d] }
  | _ => none }
def SubsFullWrongFalsely : Prop := subsFullRow.holds Tryz.pinned (OpenSpec.ofChange subsFullWrong)

/-- 'rosterlaw19.SubsApart': WHATEVER THE INPUT: true; the input reads as it did. -/
def subsApartSpec : ChangeSpec := { name := "subsApart", fn := fun _ => fun
  | [d1, d2] => { results := [.lit (.bool true)], args := [d1, d2] }
  | _ => none }
def subsApartRow : OpenClaim := { program := "ythkadehlclcggaagreatdoor", sum := "dfbaac4a77b677424dbcec1a97a60cd0b6586ca1c58fe15083be0b3c606340d9", func := "roster/rosterlaw19.SubsApart", spec := "subsApart", inPlace := ["internal/bytealg.CountString", "internal/bytealg.IndexByteString", "internal/bytealg.IndexString"], unfollowed := true, recurses := true, named := ["unicode/utf8.first", "unicode/utf8.acceptRanges", "internal/bytealg.MaxLen"], apart := false, laid := [("unicode/utf8.acceptRanges", laid_unicode_utf8_acceptRanges), ("unicode/utf8.first", laid_unicode_utf8_first)] }
def SubsApartSaid : Prop := subsApartRow.holds Tryz.pinned (OpenSpec.ofChange subsApartSpec)

/-- ITS FALSE NEIGHBOUR: 'it returns false'. Refute it at one input. -/
def subsApartWrong : ChangeSpec := { name := "subsApart", fn := fun _ => fun
  | [d1, d2] => { results := [.lit (.bool false)], args := [d1, d2] }
  | _ => none }
def SubsApartWrongFalsely : Prop := subsApartRow.holds Tryz.pinned (OpenSpec.ofChange subsApartWrong)

/-- 'rosterlaw19.SubsEnds': WHATEVER THE INPUT: true; the input reads as it did. -/
def subsEndsSpec : ChangeSpec := { name := "subsEnds", fn := fun _ => fun
  | [d] => { results := [.lit (.bool true)], args := [d] }
  | _ => none }
def subsEndsRow : OpenClaim := { program := "ythkadehlclcggaagreatdoor", sum := "dfbaac4a77b677424dbcec1a97a60cd0b6586ca1c58fe15083be0b3c606340d9", func := "roster/rosterlaw19.SubsEnds", spec := "subsEnds", inPlace := ["internal/bytealg.CountString", "internal/bytealg.IndexByteString", "internal/bytealg.IndexString"], unfollowed := true, recurses := true, named := ["unicode/utf8.first", "unicode/utf8.acceptRanges", "internal/bytealg.MaxLen"], apart := false, laid := [("unicode/utf8.acceptRanges", laid_unicode_utf8_acceptRanges), ("unicode/utf8.first", laid_unicode_utf8_first)] }
def SubsEndsSaid : Prop := subsEndsRow.holds Tryz.pinned (OpenSpec.ofChange subsEndsSpec)

/-- ITS FALSE NEIGHBOUR: 'it returns false'. Refute it at one input. -/
def subsEndsWrong : ChangeSpec := { name := "subsEnds", fn := fun _ => fun
  | [d] => { results := [.lit (.bool false)], args := [d] }
  | _ => none }
def SubsEndsWrongFalsely : Prop := subsEndsRow.holds Tryz.pinned (OpenSpec.ofChange subsEndsWrong)

/-- 'rosterlaw19.SubsPlays': WHATEVER THE INPUT: true; the input reads as it did. -/
def subsPlaysSpec : ChangeSpec := { name := "subsPlays", fn := fun _ => fun
  | [d1, d2] => { results := [.lit (.bool true)], args := [d1, d2] }
  | _ => none }
def subsPlaysRow : OpenClaim := { program := "ythkadehlclcggaagreatdoor", sum := "dfbaac4a77b677424dbcec1a97a60cd0b6586ca1c58fe15083be0b3c606340d9", func := "roster/rosterlaw19.SubsPlays", spec := "subsPlays", inPlace := ["internal/bytealg.CountString", "internal/bytealg.IndexByteString", "internal/bytealg.IndexString"], unfollowed := true, recurses := true, named := ["unicode/utf8.first", "unicode/utf8.acceptRanges", "internal/bytealg.MaxLen"], apart := false, laid := [("unicode/utf8.acceptRanges", laid_unicode_utf8_acceptRanges), ("unicode/utf8.first", laid_unicode_utf8_first)] }
def SubsPlaysSaid : Prop := subsPlaysRow.holds Tryz.pinned (OpenSpec.ofChange subsPlaysSpec)

/-- ITS FALSE NEIGHBOUR: 'it returns false'. Refute it at one input. -/
def subsPlaysWrong : ChangeSpec := { name := "subsPlays", fn := fun _ => fun
  | [d1, d2] => { results := [.lit (.bool false)], args := [d1, d2] }
  | _ => none }
def SubsPlaysWrongFalsely : Prop := subsPlaysRow.holds Tryz.pinned (OpenSpec.ofChange subsPlaysWrong)

/-- 'rosterlaw19.SubsNobody': WHATEVER THE INPUT: true; the input reads as it did. -/
def subsNobodySpec : ChangeSpec := { name := "subsNobody", fn := fun _ => fun
  | [d] => { results := [.lit (.bool true)], args := [d] }
  | _ => none }
def subsNobodyRow : OpenClaim := { program := "ythkadehlclcggaagreatdoor", sum := "dfbaac4a77b677424dbcec1a97a60cd0b6586ca1c58fe15083be0b3c606340d9", func := "roster/rosterlaw19.SubsNobody", spec := "subsNobody", inPlace := ["internal/bytealg.CountString", "internal/bytealg.IndexByteString", "internal/bytealg.IndexString"], unfollowed := true, recurses := true, named := ["unicode/utf8.first", "unicode/utf8.acceptRanges", "internal/bytealg.MaxLen"], apart := false, laid := [("unicode/utf8.acceptRanges", laid_unicode_utf8_acceptRanges), ("unicode/utf8.first", laid_unicode_utf8_first)] }
def SubsNobodySaid : Prop := subsNobodyRow.holds Tryz.pinned (OpenSpec.ofChange subsNobodySpec)

/-- ITS FALSE NEIGHBOUR: 'it returns false'. Refute it at one input. -/
def subsNobodyWrong : ChangeSpec := { name := "subsNobody", fn := fun _ => fun
  | [d] => { results := [.lit (.bool false)], args := [d] }
  | _ => none }
def SubsNobodyWrongFalsely : Prop := subsNobodyRow.holds Tryz.pinned (OpenSpec.ofChange subsNobodyWrong)

/- THE SECOND FORM. 'bulk': how many values and letters a reading holds, each counted each time it is reached (what is shared counts as often as it is met; a slice's spare places count too). A statement '..UptoSaid' is the law's where the arguments, and the package variables that the reading takes, are together of bulk at most 1048576: NARROWER than '..Said'. Prove '..Said' where nothing that the law and all that it calls make is longer than what came in: it says more and counts as full. Else prove '..UptoSaid'. A law counts once. -/
mutual
def uptoBulk {H : Type} : DataW H → Nat
  | .lit (.string bytes) => bytes.length + 1
  | .lit _ => 1
  | .nil => 1
  | .ptr d => uptoBulk d + 1
  | .slice elems spare => uptoBulkAll elems + uptoBulkAll spare + 1
  | .agg parts => uptoBulkAll parts + 1
  | .iface _ d => uptoBulk d + 1
  | .map entries => uptoBulkEntries entries + 1
  | .held _ => 1
def uptoBulkAll {H : Type} : List (DataW H) → Nat
  | [] => 0
  | d :: r => uptoBulk d + uptoBulkAll r
def uptoBulkEntries {H : Type} : List (Lit × DataW H) → Nat
  | [] => 0
  | x :: r => uptoBulkEntry x + uptoBulkEntries r
def uptoBulkEntry {H : Type} : Lit × DataW H → Nat
  | (.string bytes, d) => bytes.length + uptoBulk d + 1
  | (_, d) => uptoBulk d + 1
 end
def uptoSmall : (H : Type) → List (DataW H) → Bool := fun _ ds => decide (uptoBulkAll ds ≤ 1048576)
def OpenSpec.upto (s : _root_.Go.ChangeSpec) : _root_.Go.OpenSpec := { _root_.Go.OpenSpec.ofChange s with cond := some uptoSmall }

/-- 'rosterlaw19.SubsOnce', WHERE WHAT IT READS IS OF BULK AT MOST 1048576: true; the input reads as it did. -/
def subsOnceUptoRow : OpenClaim := { program := "ythkadehlclcggaagreatdoor", sum := "dfbaac4a77b677424dbcec1a97a60cd0b6586ca1c58fe15083be0b3c606340d9", func := "roster/rosterlaw19.SubsOnce", spec := "subsOnce", inPlace := ["internal/bytealg.CountString", "internal/bytealg.IndexByteString", "internal/bytealg.IndexString"], unfollowed := true, recurses := true, named := ["unicode/utf8.first", "unicode/utf8.acceptRanges", "internal/bytealg.MaxLen"], apart := false, laid := [("unicode/utf8.acceptRanges", laid_unicode_utf8_acceptRanges), ("unicode/utf8.first", laid_unicode_utf8_first)], narrowed := true }
def SubsOnceUptoSaid : Prop := subsOnceUptoRow.holds Tryz.pinned (OpenSpec.upto subsOnceSpec)

/-- 'rosterlaw19.SubsLasts', WHERE WHAT IT READS IS OF BULK AT MOST 1048576: true; the input reads as it did. -/
def subsLastsUptoRow : OpenClaim := { program := "ythkadehlclcggaagreatdoor", sum := "dfbaac4a77b677424dbcec1a97a60cd0b6586ca1c58fe15083be0b3c606340d9", func := "roster/rosterlaw19.SubsLasts", spec := "subsLasts", inPlace := ["internal/bytealg.CountString", "internal/bytealg.IndexByteString", "internal/bytealg.IndexString"], unfollowed := true, recurses := true, named := ["unicode/utf8.first", "unicode/utf8.acceptRanges", "internal/bytealg.MaxLen"], apart := false, laid := [("unicode/utf8.acceptRanges", laid_unicode_utf8_acceptRanges), ("unicode/utf8.first", laid_unicode_utf8_first)], narrowed := true }
def SubsLastsUptoSaid : Prop := subsLastsUptoRow.holds Tryz.pinned (OpenSpec.upto subsLastsSpec)

/-- 'rosterlaw19.SubsFull', WHERE WHAT IT READS IS OF BULK AT MOST 1048576: true; the input reads as it did. -/
def subsFullUptoRow : OpenClaim := { program := "ythkadehlclcggaagreatdoor", sum := "dfbaac4a77b677424dbcec1a97a60cd0b6586ca1c58fe15083be0b3c606340d9", func := "roster/rosterlaw19.SubsFull", spec := "subsFull", inPlace := ["internal/bytealg.CountString", "internal/bytealg.IndexByteString", "internal/bytealg.IndexString"], unfollowed := true, recurses := true, named := ["unicode/utf8.first", "unicode/utf8.acceptRanges", "internal/bytealg.MaxLen"], apart := false, laid := [("unicode/utf8.acceptRanges", laid_unicode_utf8_acceptRanges), ("unicode/utf8.first", laid_unicode_utf8_first)], narrowed := true }
def SubsFullUptoSaid : Prop := subsFullUptoRow.holds Tryz.pinned (OpenSpec.upto subsFullSpec)

/-- 'rosterlaw19.SubsApart', WHERE WHAT IT READS IS OF BULK AT MOST 1048576: true; the input reads as it did. -/
def subsApartUptoRow : OpenClaim := { program := "ythkadehlclcggaagreatdoor", sum := "dfbaac4a77b677424dbcec1a97a60cd0b6586ca1c58fe15083be0b3c606340d9", func := "roster/rosterlaw19.SubsApart", spec := "subsApart", inPlace := ["internal/bytealg.CountString", "internal/bytealg.IndexByteString", "internal/bytealg.IndexString"], unfollowed := true, recurses := true, named := ["unicode/utf8.first", "unicode/utf8.acceptRanges", "internal/bytealg.MaxLen"], apart := false, laid := [("unicode/utf8.acceptRanges", laid_unicode_utf8_acceptRanges), ("unicode/utf8.first", laid_unicode_utf8_first)], narrowed := true }
def SubsApartUptoSaid : Prop := subsApartUptoRow.holds Tryz.pinned (OpenSpec.upto subsApartSpec)

/-- 'rosterlaw19.SubsEnds', WHERE WHAT IT READS IS OF BULK AT MOST 1048576: true; the input reads as it did. -/
def subsEndsUptoRow : OpenClaim := { program := "ythkadehlclcggaagreatdoor", sum := "dfbaac4a77b677424dbcec1a97a60cd0b6586ca1c58fe15083be0b3c606340d9", func := "roster/rosterlaw19.SubsEnds", spec := "subsEnds", inPlace := ["internal/bytealg.CountString", "internal/bytealg.IndexByteString", "internal/bytealg.IndexString"], unfollowed := true, recurses := true, named := ["unicode/utf8.first", "unicode/utf8.acceptRanges", "internal/bytealg.MaxLen"], apart := false, laid := [("unicode/utf8.acceptRanges", laid_unicode_utf8_acceptRanges), ("unicode/utf8.first", laid_unicode_utf8_first)], narrowed := true }
def SubsEndsUptoSaid : Prop := subsEndsUptoRow.holds Tryz.pinned (OpenSpec.upto subsEndsSpec)

/-- 'rosterlaw19.SubsPlays', WHERE WHAT IT READS IS OF BULK AT MOST 1048576: true; the input reads as it did. -/
def subsPlaysUptoRow : OpenClaim := { program := "ythkadehlclcggaagreatdoor", sum := "dfbaac4a77b677424dbcec1a97a60cd0b6586ca1c58fe15083be0b3c606340d9", func := "roster/rosterlaw19.SubsPlays", spec := "subsPlays", inPlace := ["internal/bytealg.CountString", "internal/bytealg.IndexByteString", "internal/bytealg.IndexString"], unfollowed := true, recurses := true, named := ["unicode/utf8.first", "unicode/utf8.acceptRanges", "internal/bytealg.MaxLen"], apart := false, laid := [("unicode/utf8.acceptRanges", laid_unicode_utf8_acceptRanges), ("unicode/utf8.first", laid_unicode_utf8_first)], narrowed := true }
def SubsPlaysUptoSaid : Prop := subsPlaysUptoRow.holds Tryz.pinned (OpenSpec.upto subsPlaysSpec)

/-- 'rosterlaw19.SubsNobody', WHERE WHAT IT READS IS OF BULK AT MOST 1048576: true; the input reads as it did. -/
def subsNobodyUptoRow : OpenClaim := { program := "ythkadehlclcggaagreatdoor", sum := "dfbaac4a77b677424dbcec1a97a60cd0b6586ca1c58fe15083be0b3c606340d9", func := "roster/rosterlaw19.SubsNobody", spec := "subsNobody", inPlace := ["internal/bytealg.CountString", "internal/bytealg.IndexByteString", "internal/bytealg.IndexString"], unfollowed := true, recurses := true, named := ["unicode/utf8.first", "unicode/utf8.acceptRanges", "internal/bytealg.MaxLen"], apart := false, laid := [("unicode/utf8.acceptRanges", laid_unicode_utf8_acceptRanges), ("unicode/utf8.first", laid_unicode_utf8_first)], narrowed := true }
def SubsNobodyUptoSaid : Prop := subsNobodyUptoRow.holds Tryz.pinned (OpenSpec.upto subsNobodySpec)

end Rows
end Go.Proofs.YthkadehlclcggaaGreatDoor
