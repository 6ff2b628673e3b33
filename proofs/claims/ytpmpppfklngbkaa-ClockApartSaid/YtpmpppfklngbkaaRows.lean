/-
  No cell of these rows narrows 'for every input' (looked for: loops, veiled, ifaces, maps, wideKeys, modest, calm, conditions, laid).
  DERIVED. THE GIVEN ROWS OF THIS SEAT. 6 by the template 'for every input the law returns true; each argument reads behind the call as it read before'; 0 by the template 'total and deterministic' (their statements: YtpmpppfklngbkaaTotals.lean).
  GIVEN WITH THE SEED: the statements are not yours to turn. If you find one false, say at which input.
  Laid BY PROGRAM, IN A SANDBOX (cutbox-rows.mjs): the forced cells as the released guide's own fill.sh prints them over the translation 2bb94495e7b6360c… (all of the seat's roots in one cut). By AI agents, Wed Nov 11 2026. No macro, syntax, notation, axiom, sorry.
-/
import Derived.Test.YtpmpppfklngbkaaChecked
import GoSem.Claim
import GoSem.ClaimJoined
import GoSem.ClaimMapViews
import Derived.JoinedTies
import Derived.KernelRfl
namespace Go.Proofs.Ytpmpppfklngbkaa
/- THE CELL 'sum', in the pinned program and in every row, IS THE sha256 OF THE DUMP (.gsa) THAT YtpmpppfklngbkaaProg.lean LOADS. Nothing in Lean hashes anything: it is a label: what it is worth is what the hold of that sum in a sandbox is worth. -/
noncomputable def Try.pinned : Pinned := { name := "ytpmpppfklngbkaa", sum := "2bb94495e7b6360c354fdfc519c498dbb9b105d7d2b9b7a64568863bf92a1e6c", checked := Try.checked }
namespace Rows
def none {H : Type} : Left H := { results := [], args := [] }

/-- 'rosterlaw02.ClockWaits': WHATEVER THE INPUT: true; the input reads as it did. -/
def clockWaitsSpec : ChangeSpec := { name := "clockWaits", fn := fun _ => fun
  | [d] => { results := [.lit (.bool true)], args := [d] }
  | _ => none }
def clockWaitsRow : OpenClaim := { program := "ytpmpppfklngbkaa", sum := "2bb94495e7b6360c354fdfc519c498dbb9b105d7d2b9b7a64568863bf92a1e6c", func := "roster/rosterlaw02.ClockWaits", spec := "clockWaits", apart := false }
def ClockWaitsSaid : Prop := clockWaitsRow.holds Try.pinned (OpenSpec.ofChange clockWaitsSpec)

/-- ITS FALSE NEIGHBOUR: 'it returns false'. Refute it at one input. -/
def clockWaitsWrong : ChangeSpec := { name := "clockWaits", fn := fun _ => fun
  | [d] => { results := [.lit (.bool false)], args := [d] }
  | _ => none }
def ClockWaitsWrongFalsely : Prop := clockWaitsRow.holds Try.pinned (OpenSpec.ofChange clockWaitsWrong)

/-- 'rosterlaw02.ClockLeft': WHATEVER THE INPUT: true; the input reads as it did. -/
def clockLeftSpec : ChangeSpec := { name := "clockLeft", fn := fun _ => fun
  | [d1, d2] => { results := [.lit (.bool true)], args := [d1, d2] }
  | _ => none }
def clockLeftRow : OpenClaim := { program := "ytpmpppfklngbkaa", sum := "2bb94495e7b6360c354fdfc519c498dbb9b105d7d2b9b7a64568863bf92a1e6c", func := "roster/rosterlaw02.ClockLeft", spec := "clockLeft", apart := false }
def ClockLeftSaid : Prop := clockLeftRow.holds Try.pinned (OpenSpec.ofChange clockLeftSpec)

/-- ITS FALSE NEIGHBOUR: 'it returns false'. Refute it at one input. -/
def clockLeftWrong : ChangeSpec := { name := "clockLeft", fn := fun _ => fun
  | [d1, d2] => { results := [.lit (.bool false)], args := [d1, d2] }
  | _ => none }
def ClockLeftWrongFalsely : Prop := clockLeftRow.holds Try.pinned (OpenSpec.ofChange clockLeftWrong)

/-- 'rosterlaw02.ClockEleven': WHATEVER THE INPUT: true; the input reads as it did. -/
def clockElevenSpec : ChangeSpec := { name := "clockEleven", fn := fun _ => fun
  | [d] => { results := [.lit (.bool true)], args := [d] }
  | _ => none }
def clockElevenRow : OpenClaim := { program := "ytpmpppfklngbkaa", sum := "2bb94495e7b6360c354fdfc519c498dbb9b105d7d2b9b7a64568863bf92a1e6c", func := "roster/rosterlaw02.ClockEleven", spec := "clockEleven", apart := false }
def ClockElevenSaid : Prop := clockElevenRow.holds Try.pinned (OpenSpec.ofChange clockElevenSpec)

/-- ITS FALSE NEIGHBOUR: 'it returns false'. Refute it at one input. -/
def clockElevenWrong : ChangeSpec := { name := "clockEleven", fn := fun _ => fun
  | [d] => { results := [.lit (.bool false)], args := [d] }
  | _ => none }
def ClockElevenWrongFalsely : Prop := clockElevenRow.holds Try.pinned (OpenSpec.ofChange clockElevenWrong)

/-- 'rosterlaw02.ClockAdds': WHATEVER THE INPUT: true; the input reads as it did. -/
def clockAddsSpec : ChangeSpec := { name := "clockAdds", fn := fun _ => fun
  | [d1, d2] => { results := [.lit (.bool true)], args := [d1, d2] }
  | _ => none }
def clockAddsRow : OpenClaim := { program := "ytpmpppfklngbkaa", sum := "2bb94495e7b6360c354fdfc519c498dbb9b105d7d2b9b7a64568863bf92a1e6c", func := "roster/rosterlaw02.ClockAdds", spec := "clockAdds", apart := false }
def ClockAddsSaid : Prop := clockAddsRow.holds Try.pinned (OpenSpec.ofChange clockAddsSpec)

/-- ITS FALSE NEIGHBOUR: 'it returns false'. Refute it at one input. -/
def clockAddsWrong : ChangeSpec := { name := "clockAdds", fn := fun _ => fun
  | [d1, d2] => { results := [.lit (.bool false)], args := [d1, d2] }
  | _ => none }
def ClockAddsWrongFalsely : Prop := clockAddsRow.holds Try.pinned (OpenSpec.ofChange clockAddsWrong)

/-- 'rosterlaw02.ClockTags': WHATEVER THE INPUT: true; the input reads as it did. -/
def clockTagsSpec : ChangeSpec := { name := "clockTags", fn := fun _ => fun
  | [d1, d2, d3] => { results := [.lit (.bool true)], args := [d1, d2, d3] }
  | _ => none }
def clockTagsRow : OpenClaim := { program := "ytpmpppfklngbkaa", sum := "2bb94495e7b6360c354fdfc519c498dbb9b105d7d2b9b7a64568863bf92a1e6c", func := "roster/rosterlaw02.ClockTags", spec := "clockTags", apart := false }
def ClockTagsSaid : Prop := clockTagsRow.holds Try.pinned (OpenSpec.ofChange clockTagsSpec)

/-- ITS FALSE NEIGHBOUR: 'it returns false'. Refute it at one input. -/
def clockTagsWrong : ChangeSpec := { name := "clockTags", fn := fun _ => fun
  | [d1, d2, d3] => { results := [.lit (.bool false)], args := [d1, d2, d3] }
  | _ => none }
def ClockTagsWrongFalsely : Prop := clockTagsRow.holds Try.pinned (OpenSpec.ofChange clockTagsWrong)

/-- 'rosterlaw02.ClockApart': WHATEVER THE INPUT: true; the input reads as it did. -/
def clockApartSpec : ChangeSpec := { name := "clockApart", fn := fun _ => fun
  | [d1, d2, d3, d4] => { results := [.lit (.bool true)], args := [d1, d2, d3, d4] }
  | _ => none }
def clockApartRow : OpenClaim := { program := "ytpmpppfklngbkaa", sum := "2bb94495e7b6360c354fdfc519c498dbb9b105d7d2b9b7a64568863bf92a1e6c", func := "roster/rosterlaw02.ClockApart", spec := "clockApart", apart := false }
def ClockApartSaid : Prop := clockApartRow.holds Try.pinned (OpenSpec.ofChange clockApartSpec)

/-- ITS FALSE NEIGHBOUR: 'it returns false'. Refute it at one input. -/
def clockApartWrong : ChangeSpec := { name := "clockApart", fn := fun _ => fun
  | [d1, d2, d3, d4] => { results := [.lit (.bool false)], args := [d1, d2, d3, d4] }
  | _ => none }
def ClockApartWrongFalsely : Prop := clockApartRow.holds Try.pinned (OpenSpec.ofChange clockApartWrong)

/- THE SECOND FORM. 'bulk': how many values and letters a reading holds, each counted each time it is reached (what is shared counts as often as it is met; a slice's spare places count too). A statement '..UptoSaid' is the law's where the arguments, and the package variables that the reading takes, are together of bulk at most 1048576: NARROWER than '..Said'. Prove '..Said' where nothing that the law and all that it calls make is longer than what came in: it says more and counts as full. Else prove '..UptoSaid'. A law counts once. -/
mutual
def uptoBulk {H : Type} : DataW H → Nat
  | .lit (.string bytes) => bytes.length + 1
  | .lit _ => 1
  | .nil => 1
  | .ptr d => uptoBulk d + 1
  | .slice elems spare => uptoBulkAll elems + uptoBulkAll spare + 1
  | .agg parts => uptoBulkAll parts + 1
  | .iface _ d => uptoBulk d + 1
  | .map entries => uptoBulkEntries entries + 1
  | .held _ => 1
def uptoBulkAll {H : Type} : List (DataW H) → Nat
  | [] => 0
  | d :: r => uptoBulk d + uptoBulkAll r
def uptoBulkEntries {H : Type} : List (Lit × DataW H) → Nat
  | [] => 0
  | x :: r => uptoBulkEntry x + uptoBulkEntries r
def uptoBulkEntry {H : Type} : Lit × DataW H → Nat
  | (.string bytes, d) => bytes.length + uptoBulk d + 1
  | (_, d) => uptoBulk d + 1
 end
def uptoSmall : (H : Type) → List (DataW H) → Bool := fun _ ds => decide (uptoBulkAll ds ≤ 1048576)
def OpenSpec.upto (s : _root_.Go.ChangeSpec) : _root_.Go.OpenSpec := { _root_.Go.OpenSpec.ofChange s with cond := some uptoSmall }

/-- 'rosterlaw02.ClockWaits', WHERE WHAT IT READS IS OF BULK AT MOST 1048576: true; the input reads as it did. -/
def clockWaitsUptoRow : OpenClaim := { program := "ytpmpppfklngbkaa", sum := "2bb94495e7b6360c354fdfc519c498dbb9b105d7d2b9b7a64568863bf92a1e6c", func := "roster/rosterlaw02.ClockWaits", spec := "clockWaits", apart := false, narrowed := true }
def ClockWaitsUptoSaid : Prop := clockWaitsUptoRow.holds Try.pinned (OpenSpec.upto clockWaitsSpec)

/-- 'rosterlaw02.ClockLeft', WHERE WHAT IT READS IS OF BULK AT MOST 1048576: true; the input reads as it did. -/
def clockLeftUptoRow : OpenClaim := { program := "ytpmpppfklngbkaa", sum := "2bb94495e7b6360c354fdfc519c498dbb9b105d7d2b9b7a64568863bf92a1e6c", func := "roster/rosterlaw02.ClockLeft", spec := "clockLeft", apart := false, narrowed := true }
def ClockLeftUptoSaid : Prop := clockLeftUptoRow.holds Try.pinned (OpenSpec.upto clockLeftSpec)

/-- 'rosterlaw02.ClockEleven', WHERE WHAT IT READS IS OF BULK AT MOST 1048576: true; the input reads as it did. -/
def clockElevenUptoRow : OpenClaim := { program := "ytpmpppfklngbkaa", sum := "2bb94495e7b6360c354fdfc519c498dbb9b105d7d2b9b7a64568863bf92a1e6c", func := "roster/rosterlaw02.ClockEleven", spec := "clockEleven", apart := false, narrowed := true }
def ClockElevenUptoSaid : Prop := clockElevenUptoRow.holds Try.pinned (OpenSpec.upto clockElevenSpec)

/-- 'rosterlaw02.ClockAdds', WHERE WHAT IT READS IS OF BULK AT MOST 1048576: true; the input reads as it did. -/
def clockAddsUptoRow : OpenClaim := { program := "ytpmpppfklngbkaa", sum := "2bb94495e7b6360c354fdfc519c498dbb9b105d7d2b9b7a64568863bf92a1e6c", func := "roster/rosterlaw02.ClockAdds", spec := "clockAdds", apart := false, narrowed := true }
def ClockAddsUptoSaid : Prop := clockAddsUptoRow.holds Try.pinned (OpenSpec.upto clockAddsSpec)

/-- 'rosterlaw02.ClockTags', WHERE WHAT IT READS IS OF BULK AT MOST 1048576: true; the input reads as it did. -/
def clockTagsUptoRow : OpenClaim := { program := "ytpmpppfklngbkaa", sum := "2bb94495e7b6360c354fdfc519c498dbb9b105d7d2b9b7a64568863bf92a1e6c", func := "roster/rosterlaw02.ClockTags", spec := "clockTags", apart := false, narrowed := true }
def ClockTagsUptoSaid : Prop := clockTagsUptoRow.holds Try.pinned (OpenSpec.upto clockTagsSpec)

/-- 'rosterlaw02.ClockApart', WHERE WHAT IT READS IS OF BULK AT MOST 1048576: true; the input reads as it did. -/
def clockApartUptoRow : OpenClaim := { program := "ytpmpppfklngbkaa", sum := "2bb94495e7b6360c354fdfc519c498dbb9b105d7d2b9b7a64568863bf92a1e6c", func := "roster/rosterlaw02.ClockApart", spec := "clockApart", apart := false, narrowed := true }
def ClockApartUptoSaid : Prop := clockApartUptoRow.holds Try.pinned (OpenSpec.upto clockApartSpec)

end Rows
end Go.Proofs.Ytpmpppfklngbkaa
