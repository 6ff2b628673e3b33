/-
  No cell of these rows narrows 'for every input' (looked for: loops, veiled, ifaces, maps, wideKeys, modest, calm, conditions, laid).
  DERIVED. THE GIVEN ROWS OF THIS SEAT. 17 by the template 'for every input the law returns true; each argument reads behind the call as it read before'; 0 by the template 'total and deterministic' (their statements: YtgfoobgkpnknmaaTotals.lean).
  GIVEN WITH THE SEED: the statements are not yours to turn. If you find one false, say at which input.
  Laid BY PROGRAM, IN A SANDBOX (cutbox-rows.mjs): the forced cells as the released guide's own fill.sh prints them over the translation 28d6b8295595b22c… (all of the seat's roots in one cut). By AI agents, Wed Nov 11 2026. No macro, syntax, notation, axiom, sorry.
-/
import Derived.Test.YtgfoobgkpnknmaaChecked
import GoSem.Claim
import GoSem.ClaimJoined
import GoSem.ClaimMapViews
import Derived.JoinedTies
import Derived.KernelRfl
namespace Go.Proofs.Ytgfoobgkpnknmaa
/- THE CELL 'sum', in the pinned program and in every row, IS THE sha256 OF THE DUMP (.gsa) THAT YtgfoobgkpnknmaaProg.lean LOADS. Nothing in Lean hashes anything: it is a label: what it is worth is what the hold of that sum in a sandbox is worth. -/
noncomputable def Try.pinned : Pinned := { name := "ytgfoobgkpnknmaa", sum := "28d6b8295595b22ca95d588edceb3e74f12ad4ba46686080622515cb5cbe4f27", checked := Try.checked }
namespace Rows
def none {H : Type} : Left H := { results := [], args := [] }

/-- 'rosterlaw09.WheelSteps': WHATEVER THE INPUT: true; the input reads as it did. -/
def wheelStepsSpec : ChangeSpec := { name := "wheelSteps", fn := fun _ => fun
  | [d1, d2, d3] => { results := [.lit (.bool true)], args := [d1, d2, d3] }
  | _ => none }
def wheelStepsRow : OpenClaim := { program := "ytgfoobgkpnknmaa", sum := "28d6b8295595b22ca95d588edceb3e74f12ad4ba46686080622515cb5cbe4f27", func := "roster/rosterlaw09.WheelSteps", spec := "wheelSteps", unfollowed := true, recurses := true, plainKeys := false, apart := false }
def WheelStepsSaid : Prop := wheelStepsRow.holds Try.pinned (OpenSpec.ofChange wheelStepsSpec)

/-- ITS FALSE NEIGHBOUR: 'it returns false'. Refute it at one input. -/
def wheelStepsWrong : ChangeSpec := { name := "wheelSteps", fn := fun _ => fun
  | [d1, d2, d3] => { results := [.lit (.bool false)], args := [d1, d2, d3] }
  | _ => none }
def WheelStepsWrongFalsely : Prop := wheelStepsRow.holds Try.pinned (OpenSpec.ofChange wheelStepsWrong)

/-- 'rosterlaw09.WheelAgain': WHATEVER THE INPUT: true; the input reads as it did. -/
def wheelAgainSpec : ChangeSpec := { name := "wheelAgain", fn := fun _ => fun
  | [d1, d2, d3, d4] => { results := [.lit (.bool true)], args := [d1, d2, d3, d4] }
  | _ => none }
def wheelAgainRow : OpenClaim := { program := "ytgfoobgkpnknmaa", sum := "28d6b8295595b22ca95d588edceb3e74f12ad4ba46686080622515cb5cbe4f27", func := "roster/rosterlaw09.WheelAgain", spec := "wheelAgain", unfollowed := true, recurses := true, plainKeys := false, apart := false }
def WheelAgainSaid : Prop := wheelAgainRow.holds Try.pinned (OpenSpec.ofChange wheelAgainSpec)

/-- ITS FALSE NEIGHBOUR: 'it returns false'. Refute it at one input. -/
def wheelAgainWrong : ChangeSpec := { name := "wheelAgain", fn := fun _ => fun
  | [d1, d2, d3, d4] => { results := [.lit (.bool false)], args := [d1, d2, d3, d4] }
  | _ => none }
def WheelAgainWrongFalsely : Prop := wheelAgainRow.holds Try.pinned (OpenSpec.ofChange wheelAgainWrong)

/-- 'rosterlaw09.WheelFull': WHATEVER THE INPUT: true; the input reads as it did. -/
def wheelFullSpec : ChangeSpec := { name := "wheelFull", fn := fun _ => fun
  | [d1, d2] => { results := [.lit (.bool true)], args := [d1, d2] }
  | _ => none }
def wheelFullRow : OpenClaim := { program := "ytgfoobgkpnknmaa", sum := "28d6b8295595b22ca95d588edceb3e74f12ad4ba46686080622515cb5cbe4f27", func := "roster/rosterlaw09.WheelFull", spec := "wheelFull", unfollowed := true, recurses := true, plainKeys := false, apart := false }
def WheelFullSaid : Prop := wheelFullRow.holds Try.pinned (OpenSpec.ofChange wheelFullSpec)

/-- ITS FALSE NEIGHBOUR: 'it returns false'. Refute it at one input. -/
def wheelFullWrong : ChangeSpec := { name := "wheelFull", fn := fun _ => fun
  | [d1, d2] => { results := [.lit (.bool false)], args := [d1, d2] }
  | _ => none }
def WheelFullWrongFalsely : Prop := wheelFullRow.holds Try.pinned (OpenSpec.ofChange wheelFullWrong)

/-- 'rosterlaw09.WheelPlays': WHATEVER THE INPUT: true; the input reads as it did. -/
def wheelPlaysSpec : ChangeSpec := { name := "wheelPlays", fn := fun _ => fun
  | [d] => { results := [.lit (.bool true)], args := [d] }
  | _ => none }
def wheelPlaysRow : OpenClaim := { program := "ytgfoobgkpnknmaa", sum := "28d6b8295595b22ca95d588edceb3e74f12ad4ba46686080622515cb5cbe4f27", func := "roster/rosterlaw09.WheelPlays", spec := "wheelPlays", unfollowed := true, recurses := true, plainKeys := false, apart := false }
def WheelPlaysSaid : Prop := wheelPlaysRow.holds Try.pinned (OpenSpec.ofChange wheelPlaysSpec)

/-- ITS FALSE NEIGHBOUR: 'it returns false'. Refute it at one input. -/
def wheelPlaysWrong : ChangeSpec := { name := "wheelPlays", fn := fun _ => fun
  | [d] => { results := [.lit (.bool false)], args := [d] }
  | _ => none }
def WheelPlaysWrongFalsely : Prop := wheelPlaysRow.holds Try.pinned (OpenSpec.ofChange wheelPlaysWrong)

/-- 'rosterlaw09.WheelOrder': WHATEVER THE INPUT: true; the input reads as it did. -/
def wheelOrderSpec : ChangeSpec := { name := "wheelOrder", fn := fun _ => fun
  | [d1, d2] => { results := [.lit (.bool true)], args := [d1, d2] }
  | _ => none }
def wheelOrderRow : OpenClaim := { program := "ytgfoobgkpnknmaa", sum := "28d6b8295595b22ca95d588edceb3e74f12ad4ba46686080622515cb5cbe4f27", func := "roster/rosterlaw09.WheelOrder", spec := "wheelOrder", unfollowed := true, recurses := true, plainKeys := false, apart := false }
def WheelOrderSaid : Prop := wheelOrderRow.holds Try.pinned (OpenSpec.ofChange wheelOrderSpec)

/-- ITS FALSE NEIGHBOUR: 'it returns false'. Refute it at one input. -/
def wheelOrderWrong : ChangeSpec := { name := "wheelOrder", fn := fun _ => fun
  | [d1, d2] => { results := [.lit (.bool false)], args := [d1, d2] }
  | _ => none }
def WheelOrderWrongFalsely : Prop := wheelOrderRow.holds Try.pinned (OpenSpec.ofChange wheelOrderWrong)

/-- 'rosterlaw09.WheelNobody': WHATEVER THE INPUT: true; the input reads as it did. -/
def wheelNobodySpec : ChangeSpec := { name := "wheelNobody", fn := fun _ => fun
  | [d1, d2] => { results := [.lit (.bool true)], args := [d1, d2] }
  | _ => none }
def wheelNobodyRow : OpenClaim := { program := "ytgfoobgkpnknmaa", sum := "28d6b8295595b22ca95d588edceb3e74f12ad4ba46686080622515cb5cbe4f27", func := "roster/rosterlaw09.WheelNobody", spec := "wheelNobody", unfollowed := true, recurses := true, plainKeys := false, apart := false }
def WheelNobodySaid : Prop := wheelNobodyRow.holds Try.pinned (OpenSpec.ofChange wheelNobodySpec)

/-- ITS FALSE NEIGHBOUR: 'it returns false'. Refute it at one input. -/
def wheelNobodyWrong : ChangeSpec := { name := "wheelNobody", fn := fun _ => fun
  | [d1, d2] => { results := [.lit (.bool false)], args := [d1, d2] }
  | _ => none }
def WheelNobodyWrongFalsely : Prop := wheelNobodyRow.holds Try.pinned (OpenSpec.ofChange wheelNobodyWrong)

/-- 'rosterlaw12.ClientEleven': WHATEVER THE INPUT: true; the input reads as it did. -/
def clientElevenSpec : ChangeSpec := { name := "clientEleven", fn := fun _ => fun
  | [d1, d2, d3, d4] => { results := [.lit (.bool true)], args := [d1, d2, d3, d4] }
  | _ => none }
def clientElevenRow : OpenClaim := { program := "ytgfoobgkpnknmaa", sum := "28d6b8295595b22ca95d588edceb3e74f12ad4ba46686080622515cb5cbe4f27", func := "roster/rosterlaw12.ClientEleven", spec := "clientEleven", unfollowed := true, recurses := true, plainKeys := false, apart := false }
def ClientElevenSaid : Prop := clientElevenRow.holds Try.pinned (OpenSpec.ofChange clientElevenSpec)

/-- ITS FALSE NEIGHBOUR: 'it returns false'. Refute it at one input. -/
def clientElevenWrong : ChangeSpec := { name := "clientEleven", fn := fun _ => fun
  | [d1, d2, d3, d4] => { results := [.lit (.bool false)], args := [d1, d2, d3, d4] }
  | _ => none }
def ClientElevenWrongFalsely : Prop := clientElevenRow.holds Try.pinned (OpenSpec.ofChange clientElevenWrong)

/-- 'rosterlaw12.ClientSteps': WHATEVER THE INPUT: true; the input reads as it did. -/
def clientStepsSpec : ChangeSpec := { name := "clientSteps", fn := fun _ => fun
  | [d1, d2, d3, d4] => { results := [.lit (.bool true)], args := [d1, d2, d3, d4] }
  | _ => none }
def clientStepsRow : OpenClaim := { program := "ytgfoobgkpnknmaa", sum := "28d6b8295595b22ca95d588edceb3e74f12ad4ba46686080622515cb5cbe4f27", func := "roster/rosterlaw12.ClientSteps", spec := "clientSteps", unfollowed := true, recurses := true, plainKeys := false, apart := false }
def ClientStepsSaid : Prop := clientStepsRow.holds Try.pinned (OpenSpec.ofChange clientStepsSpec)

/-- ITS FALSE NEIGHBOUR: 'it returns false'. Refute it at one input. -/
def clientStepsWrong : ChangeSpec := { name := "clientSteps", fn := fun _ => fun
  | [d1, d2, d3, d4] => { results := [.lit (.bool false)], args := [d1, d2, d3, d4] }
  | _ => none }
def ClientStepsWrongFalsely : Prop := clientStepsRow.holds Try.pinned (OpenSpec.ofChange clientStepsWrong)

/-- 'rosterlaw12.ClientPlays': WHATEVER THE INPUT: true; the input reads as it did. -/
def clientPlaysSpec : ChangeSpec := { name := "clientPlays", fn := fun _ => fun
  | [d1, d2] => { results := [.lit (.bool true)], args := [d1, d2] }
  | _ => none }
def clientPlaysRow : OpenClaim := { program := "ytgfoobgkpnknmaa", sum := "28d6b8295595b22ca95d588edceb3e74f12ad4ba46686080622515cb5cbe4f27", func := "roster/rosterlaw12.ClientPlays", spec := "clientPlays", unfollowed := true, recurses := true, plainKeys := false, apart := false }
def ClientPlaysSaid : Prop := clientPlaysRow.holds Try.pinned (OpenSpec.ofChange clientPlaysSpec)

/-- ITS FALSE NEIGHBOUR: 'it returns false'. Refute it at one input. -/
def clientPlaysWrong : ChangeSpec := { name := "clientPlays", fn := fun _ => fun
  | [d1, d2] => { results := [.lit (.bool false)], args := [d1, d2] }
  | _ => none }
def ClientPlaysWrongFalsely : Prop := clientPlaysRow.holds Try.pinned (OpenSpec.ofChange clientPlaysWrong)

/-- 'rosterlaw12.ClientAnswered': WHATEVER THE INPUT: true; the input reads as it did. -/
def clientAnsweredSpec : ChangeSpec := { name := "clientAnswered", fn := fun _ => fun
  | [d1, d2, d3, d4] => { results := [.lit (.bool true)], args := [d1, d2, d3, d4] }
  | _ => none }
def clientAnsweredRow : OpenClaim := { program := "ytgfoobgkpnknmaa", sum := "28d6b8295595b22ca95d588edceb3e74f12ad4ba46686080622515cb5cbe4f27", func := "roster/rosterlaw12.ClientAnswered", spec := "clientAnswered", unfollowed := true, recurses := true, plainKeys := false, apart := false }
def ClientAnsweredSaid : Prop := clientAnsweredRow.holds Try.pinned (OpenSpec.ofChange clientAnsweredSpec)

/-- ITS FALSE NEIGHBOUR: 'it returns false'. Refute it at one input. -/
def clientAnsweredWrong : ChangeSpec := { name := "clientAnswered", fn := fun _ => fun
  | [d1, d2, d3, d4] => { results := [.lit (.bool false)], args := [d1, d2, d3, d4] }
  | _ => none }
def ClientAnsweredWrongFalsely : Prop := clientAnsweredRow.holds Try.pinned (OpenSpec.ofChange clientAnsweredWrong)

/-- 'rosterlaw12.ClientNobody': WHATEVER THE INPUT: true; the input reads as it did. -/
def clientNobodySpec : ChangeSpec := { name := "clientNobody", fn := fun _ => fun
  | [d] => { results := [.lit (.bool true)], args := [d] }
  | _ => none }
def clientNobodyRow : OpenClaim := { program := "ytgfoobgkpnknmaa", sum := "28d6b8295595b22ca95d588edceb3e74f12ad4ba46686080622515cb5cbe4f27", func := "roster/rosterlaw12.ClientNobody", spec := "clientNobody", unfollowed := true, recurses := true, plainKeys := false, apart := false }
def ClientNobodySaid : Prop := clientNobodyRow.holds Try.pinned (OpenSpec.ofChange clientNobodySpec)

/-- ITS FALSE NEIGHBOUR: 'it returns false'. Refute it at one input. -/
def clientNobodyWrong : ChangeSpec := { name := "clientNobody", fn := fun _ => fun
  | [d] => { results := [.lit (.bool false)], args := [d] }
  | _ => none }
def ClientNobodyWrongFalsely : Prop := clientNobodyRow.holds Try.pinned (OpenSpec.ofChange clientNobodyWrong)

/-- 'rosterlaw11.ServerFull': WHATEVER THE INPUT: true; the input reads as it did. -/
def serverFullSpec : ChangeSpec := { name := "serverFull", fn := fun _ => fun
  | [d1, d2, d3] => { results := [.lit (.bool true)], args := [d1, d2, d3] }
  | _ => none }
def serverFullRow : OpenClaim := { program := "ytgfoobgkpnknmaa", sum := "28d6b8295595b22ca95d588edceb3e74f12ad4ba46686080622515cb5cbe4f27", func := "roster/rosterlaw11.ServerFull", spec := "serverFull", unfollowed := true, recurses := true, plainKeys := false, apart := false }
def ServerFullSaid : Prop := serverFullRow.holds Try.pinned (OpenSpec.ofChange serverFullSpec)

/-- ITS FALSE NEIGHBOUR: 'it returns false'. Refute it at one input. -/
def serverFullWrong : ChangeSpec := { name := "serverFull", fn := fun _ => fun
  | [d1, d2, d3] => { results := [.lit (.bool false)], args := [d1, d2, d3] }
  | _ => none }
def ServerFullWrongFalsely : Prop := serverFullRow.holds Try.pinned (OpenSpec.ofChange serverFullWrong)

/-- 'rosterlaw11.ServerRises': WHATEVER THE INPUT: true; the input reads as it did. -/
def serverRisesSpec : ChangeSpec := { name := "serverRises", fn := fun _ => fun
  | [d1, d2] => { results := [.lit (.bool true)], args := [d1, d2] }
  | _ => none }
def serverRisesRow : OpenClaim := { program := "ytgfoobgkpnknmaa", sum := "28d6b8295595b22ca95d588edceb3e74f12ad4ba46686080622515cb5cbe4f27", func := "roster/rosterlaw11.ServerRises", spec := "serverRises", unfollowed := true, recurses := true, plainKeys := false, apart := false }
def ServerRisesSaid : Prop := serverRisesRow.holds Try.pinned (OpenSpec.ofChange serverRisesSpec)

/-- ITS FALSE NEIGHBOUR: 'it returns false'. Refute it at one input. -/
def serverRisesWrong : ChangeSpec := { name := "serverRises", fn := fun _ => fun
  | [d1, d2] => { results := [.lit (.bool false)], args := [d1, d2] }
  | _ => none }
def ServerRisesWrongFalsely : Prop := serverRisesRow.holds Try.pinned (OpenSpec.ofChange serverRisesWrong)

/-- 'rosterlaw11.ServerApart': WHATEVER THE INPUT: true; the input reads as it did. -/
def serverApartSpec : ChangeSpec := { name := "serverApart", fn := fun _ => fun
  | [d1, d2] => { results := [.lit (.bool true)], args := [d1, d2] }
  | _ => none }
def serverApartRow : OpenClaim := { program := "ytgfoobgkpnknmaa", sum := "28d6b8295595b22ca95d588edceb3e74f12ad4ba46686080622515cb5cbe4f27", func := "roster/rosterlaw11.ServerApart", spec := "serverApart", unfollowed := true, recurses := true, plainKeys := false, apart := false }
def ServerApartSaid : Prop := serverApartRow.holds Try.pinned (OpenSpec.ofChange serverApartSpec)

/-- ITS FALSE NEIGHBOUR: 'it returns false'. Refute it at one input. -/
def serverApartWrong : ChangeSpec := { name := "serverApart", fn := fun _ => fun
  | [d1, d2] => { results := [.lit (.bool false)], args := [d1, d2] }
  | _ => none }
def ServerApartWrongFalsely : Prop := serverApartRow.holds Try.pinned (OpenSpec.ofChange serverApartWrong)

/-- 'rosterlaw11.ServerPlays': WHATEVER THE INPUT: true; the input reads as it did. -/
def serverPlaysSpec : ChangeSpec := { name := "serverPlays", fn := fun _ => fun
  | [d1, d2] => { results := [.lit (.bool true)], args := [d1, d2] }
  | _ => none }
def serverPlaysRow : OpenClaim := { program := "ytgfoobgkpnknmaa", sum := "28d6b8295595b22ca95d588edceb3e74f12ad4ba46686080622515cb5cbe4f27", func := "roster/rosterlaw11.ServerPlays", spec := "serverPlays", unfollowed := true, recurses := true, plainKeys := false, apart := false }
def ServerPlaysSaid : Prop := serverPlaysRow.holds Try.pinned (OpenSpec.ofChange serverPlaysSpec)

/-- ITS FALSE NEIGHBOUR: 'it returns false'. Refute it at one input. -/
def serverPlaysWrong : ChangeSpec := { name := "serverPlays", fn := fun _ => fun
  | [d1, d2] => { results := [.lit (.bool false)], args := [d1, d2] }
  | _ => none }
def ServerPlaysWrongFalsely : Prop := serverPlaysRow.holds Try.pinned (OpenSpec.ofChange serverPlaysWrong)

/-- 'rosterlaw11.ServerAgain': WHATEVER THE INPUT: true; the input reads as it did. -/
def serverAgainSpec : ChangeSpec := { name := "serverAgain", fn := fun _ => fun
  | [d1, d2, d3, d4, d5, d6, d7] => { results := [.lit (.bool true)], args := [d1, d2, d3, d4, d5, d6, d7] }
  | _ => none }
def serverAgainRow : OpenClaim := { program := "ytgfoobgkpnknmaa", sum := "28d6b8295595b22ca95d588edceb3e74f12ad4ba46686080622515cb5cbe4f27", func := "roster/rosterlaw11.ServerAgain", spec := "serverAgain", unfollowed := true, recurses := true, plainKeys := false, apart := false }
def ServerAgainSaid : Prop := serverAgainRow.holds Try.pinned (OpenSpec.ofChange serverAgainSpec)

/-- ITS FALSE NEIGHBOUR: 'it returns false'. Refute it at one input. -/
def serverAgainWrong : ChangeSpec := { name := "serverAgain", fn := fun _ => fun
  | [d1, d2, d3, d4, d5, d6, d7] => { results := [.lit (.bool false)], args := [d1, d2, d3, d4, d5, d6, d7] }
  | _ => none }
def ServerAgainWrongFalsely : Prop := serverAgainRow.holds Try.pinned (OpenSpec.ofChange serverAgainWrong)

/-- 'rosterlaw11.ServerNobody': WHATEVER THE INPUT: true; the input reads as it did. -/
def serverNobodySpec : ChangeSpec := { name := "serverNobody", fn := fun _ => fun
  | [d] => { results := [.lit (.bool true)], args := [d] }
  | _ => none }
def serverNobodyRow : OpenClaim := { program := "ytgfoobgkpnknmaa", sum := "28d6b8295595b22ca95d588edceb3e74f12ad4ba46686080622515cb5cbe4f27", func := "roster/rosterlaw11.ServerNobody", spec := "serverNobody", unfollowed := true, recurses := true, plainKeys := false, apart := false }
def ServerNobodySaid : Prop := serverNobodyRow.holds Try.pinned (OpenSpec.ofChange serverNobodySpec)

/-- ITS FALSE NEIGHBOUR: 'it returns false'. Refute it at one input. -/
def serverNobodyWrong : ChangeSpec := { name := "serverNobody", fn := fun _ => fun
  | [d] => { results := [.lit (.bool false)], args := [d] }
  | _ => none }
def ServerNobodyWrongFalsely : Prop := serverNobodyRow.holds Try.pinned (OpenSpec.ofChange serverNobodyWrong)

/- THE SECOND FORM. 'bulk': how many values and letters a reading holds, each counted each time it is reached (what is shared counts as often as it is met; a slice's spare places count too). A statement '..UptoSaid' is the law's where the arguments, and the package variables that the reading takes, are together of bulk at most 1048576: NARROWER than '..Said'. Prove '..Said' where nothing that the law and all that it calls make is longer than what came in: it says more and counts as full. Else prove '..UptoSaid'. A law counts once. -/
mutual
def uptoBulk {H : Type} : DataW H → Nat
  | .lit (.string bytes) => bytes.length + 1
  | .lit _ => 1
  | .nil => 1
  | .ptr d => uptoBulk d + 1
  | .slice elems spare => uptoBulkAll elems + uptoBulkAll spare + 1
  | .agg parts => uptoBulkAll parts + 1
  | .iface _ d => uptoBulk d + 1
  | .map entries => uptoBulkEntries entries + 1
  | .held _ => 1
def uptoBulkAll {H : Type} : List (DataW H) → Nat
  | [] => 0
  | d :: r => uptoBulk d + uptoBulkAll r
def uptoBulkEntries {H : Type} : List (Lit × DataW H) → Nat
  | [] => 0
  | x :: r => uptoBulkEntry x + uptoBulkEntries r
def uptoBulkEntry {H : Type} : Lit × DataW H → Nat
  | (.string bytes, d) => bytes.length + uptoBulk d + 1
  | (_, d) => uptoBulk d + 1
 end
def uptoSmall : (H : Type) → List (DataW H) → Bool := fun _ ds => decide (uptoBulkAll ds ≤ 1048576)
def OpenSpec.upto (s : _root_.Go.ChangeSpec) : _root_.Go.OpenSpec := { _root_.Go.OpenSpec.ofChange s with cond := some uptoSmall }

/-- 'rosterlaw09.WheelSteps', WHERE WHAT IT READS IS OF BULK AT MOST 1048576: true; the input reads as it did. -/
def wheelStepsUptoRow : OpenClaim := { program := "ytgfoobgkpnknmaa", sum := "28d6b8295595b22ca95d588edceb3e74f12ad4ba46686080622515cb5cbe4f27", func := "roster/rosterlaw09.WheelSteps", spec := "wheelSteps", unfollowed := true, recurses := true, plainKeys := false, apart := false, narrowed := true }
def WheelStepsUptoSaid : Prop := wheelStepsUptoRow.holds Try.pinned (OpenSpec.upto wheelStepsSpec)

/-- 'rosterlaw09.WheelAgain', WHERE WHAT IT READS IS OF BULK AT MOST 1048576: true; the input reads as it did. -/
def wheelAgainUptoRow : OpenClaim := { program := "ytgfoobgkpnknmaa", sum := "28d6b8295595b22ca95d588edceb3e74f12ad4ba46686080622515cb5cbe4f27", func := "roster/rosterlaw09.WheelAgain", spec := "wheelAgain", unfollowed := true, recurses := true, plainKeys := false, apart := false, narrowed := true }
def WheelAgainUptoSaid : Prop := wheelAgainUptoRow.holds Try.pinned (OpenSpec.upto wheelAgainSpec)

/-- 'rosterlaw09.WheelFull', WHERE WHAT IT READS IS OF BULK AT MOST 1048576: true; the input reads as it did. -/
def wheelFullUptoRow : OpenClaim := { program := "ytgfoobgkpnknmaa", sum := "28d6b8295595b22ca95d588edceb3e74f12ad4ba46686080622515cb5cbe4f27", func := "roster/rosterlaw09.WheelFull", spec := "wheelFull", unfollowed := true, recurses := true, plainKeys := false, apart := false, narrowed := true }
def WheelFullUptoSaid : Prop := wheelFullUptoRow.holds Try.pinned (OpenSpec.upto wheelFullSpec)

/-- 'rosterlaw09.WheelPlays', WHERE WHAT IT READS IS OF BULK AT MOST 1048576: true; the input reads as it did. -/
def wheelPlaysUptoRow : OpenClaim := { program := "ytgfoobgkpnknmaa", sum := "28d6b8295595b22ca95d588edceb3e74f12ad4ba46686080622515cb5cbe4f27", func := "roster/rosterlaw09.WheelPlays", spec := "wheelPlays", unfollowed := true, recurses := true, plainKeys := false, apart := false, narrowed := true }
def WheelPlaysUptoSaid : Prop := wheelPlaysUptoRow.holds Try.pinned (OpenSpec.upto wheelPlaysSpec)

/-- 'rosterlaw09.WheelOrder', WHERE WHAT IT READS IS OF BULK AT MOST 1048576: true; the input reads as it did. -/
def wheelOrderUptoRow : OpenClaim := { program := "ytgfoobgkpnknmaa", sum := "28d6b8295595b22ca95d588edceb3e74f12ad4ba46686080622515cb5cbe4f27", func := "roster/rosterlaw09.WheelOrder", spec := "wheelOrder", unfollowed := true, recurses := true, plainKeys := false, apart := false, narrowed := true }
def WheelOrderUptoSaid : Prop := wheelOrderUptoRow.holds Try.pinned (OpenSpec.upto wheelOrderSpec)

/-- 'rosterlaw09.WheelNobody', WHERE WHAT IT READS IS OF BULK AT MOST 1048576: true; the input reads as it did. -/
def wheelNobodyUptoRow : OpenClaim := { program := "ytgfoobgkpnknmaa", sum := "28d6b8295595b22ca95d588edceb3e74f12ad4ba46686080622515cb5cbe4f27", func := "roster/rosterlaw09.WheelNobody", spec := "wheelNobody", unfollowed := true, recurses := true, plainKeys := false, apart := false, narrowed := true }
def WheelNobodyUptoSaid : Prop := wheelNobodyUptoRow.holds Try.pinned (OpenSpec.upto wheelNobodySpec)

/-- 'rosterlaw12.ClientEleven', WHERE WHAT IT READS IS OF BULK AT MOST 1048576: true; the input reads as it did. -/
def clientElevenUptoRow : OpenClaim := { program := "ytgfoobgkpnknmaa", sum := "28d6b8295595b22ca95d588edceb3e74f12ad4ba46686080622515cb5cbe4f27", func := "roster/rosterlaw12.ClientEleven", spec := "clientEleven", unfollowed := true, recurses := true, plainKeys := false, apart := false, narrowed := true }
def ClientElevenUptoSaid : Prop := clientElevenUptoRow.holds Try.pinned (OpenSpec.upto clientElevenSpec)

/-- 'rosterlaw12.ClientSteps', WHERE WHAT IT READS IS OF BULK AT MOST 1048576: true; the input reads as it did. -/
def clientStepsUptoRow : OpenClaim := { program := "ytgfoobgkpnknmaa", sum := "28d6b8295595b22ca95d588edceb3e74f12ad4ba46686080622515cb5cbe4f27", func := "roster/rosterlaw12.ClientSteps", spec := "clientSteps", unfollowed := true, recurses := true, plainKeys := false, apart := false, narrowed := true }
def ClientStepsUptoSaid : Prop := clientStepsUptoRow.holds Try.pinned (OpenSpec.upto clientStepsSpec)

/-- 'rosterlaw12.ClientPlays', WHERE WHAT IT READS IS OF BULK AT MOST 1048576: true; the input reads as it did. -/
def clientPlaysUptoRow : OpenClaim := { program := "ytgfoobgkpnknmaa", sum := "28d6b8295595b22ca95d588edceb3e74f12ad4ba46686080622515cb5cbe4f27", func := "roster/rosterlaw12.ClientPlays", spec := "clientPlays", unfollowed := true, recurses := true, plainKeys := false, apart := false, narrowed := true }
def ClientPlaysUptoSaid : Prop := clientPlaysUptoRow.holds Try.pinned (OpenSpec.upto clientPlaysSpec)

/-- 'rosterlaw12.ClientAnswered', WHERE WHAT IT READS IS OF BULK AT MOST 1048576: true; the input reads as it did. -/
def clientAnsweredUptoRow : OpenClaim := { program := "ytgfoobgkpnknmaa", sum := "28d6b8295595b22ca95d588edceb3e74f12ad4ba46686080622515cb5cbe4f27", func := "roster/rosterlaw12.ClientAnswered", spec := "clientAnswered", unfollowed := true, recurses := true, plainKeys := false, apart := false, narrowed := true }
def ClientAnsweredUptoSaid : Prop := clientAnsweredUptoRow.holds Try.pinned (OpenSpec.upto clientAnsweredSpec)

/-- 'rosterlaw12.ClientNobody', WHERE WHAT IT READS IS OF BULK AT MOST 1048576: true; the input reads as it did. -/
def clientNobodyUptoRow : OpenClaim := { program := "ytgfoobgkpnknmaa", sum := "28d6b8295595b22ca95d588edceb3e74f12ad4ba46686080622515cb5cbe4f27", func := "roster/rosterlaw12.ClientNobody", spec := "clientNobody", unfollowed := true, recurses := true, plainKeys := false, apart := false, narrowed := true }
def ClientNobodyUptoSaid : Prop := clientNobodyUptoRow.holds Try.pinned (OpenSpec.upto clientNobodySpec)

/-- 'rosterlaw11.ServerFull', WHERE WHAT IT READS IS OF BULK AT MOST 1048576: true; the input reads as it did. -/
def serverFullUptoRow : OpenClaim := { program := "ytgfoobgkpnknmaa", sum := "28d6b8295595b22ca95d588edceb3e74f12ad4ba46686080622515cb5cbe4f27", func := "roster/rosterlaw11.ServerFull", spec := "serverFull", unfollowed := true, recurses := true, plainKeys := false, apart := false, narrowed := true }
def ServerFullUptoSaid : Prop := serverFullUptoRow.holds Try.pinned (OpenSpec.upto serverFullSpec)

/-- 'rosterlaw11.ServerRises', WHERE WHAT IT READS IS OF BULK AT MOST 1048576: true; the input reads as it did. -/
def serverRisesUptoRow : OpenClaim := { program := "ytgfoobgkpnknmaa", sum := "28d6b8295595b22ca95d588edceb3e74f12ad4ba46686080622515cb5cbe4f27", func := "roster/rosterlaw11.ServerRises", spec := "serverRises", unfollowed := true, recurses := true, plainKeys := false, apart := false, narrowed := true }
def ServerRisesUptoSaid : Prop := serverRisesUptoRow.holds Try.pinned (OpenSpec.upto serverRisesSpec)

/-- 'rosterlaw11.ServerApart', WHERE WHAT IT READS IS OF BULK AT MOST 1048576: true; the input reads as it did. -/
def serverApartUptoRow : OpenClaim := { program := "ytgfoobgkpnknmaa", sum := "28d6b8295595b22ca95d588edceb3e74f12ad4ba46686080622515cb5cbe4f27", func := "roster/rosterlaw11.ServerApart", spec := "serverApart", unfollowed := true, recurses := true, plainKeys := false, apart := false, narrowed := true }
def ServerApartUptoSaid : Prop := serverApartUptoRow.holds Try.pinned (OpenSpec.upto serverApartSpec)

/-- 'rosterlaw11.ServerPlays', WHERE WHAT IT READS IS OF BULK AT MOST 1048576: true; the input reads as it did. -/
def serverPlaysUptoRow : OpenClaim := { program := "ytgfoobgkpnknmaa", sum := "28d6b8295595b22ca95d588edceb3e74f12ad4ba46686080622515cb5cbe4f27", func := "roster/rosterlaw11.ServerPlays", spec := "serverPlays", unfollowed := true, recurses := true, plainKeys := false, apart := false, narrowed := true }
def ServerPlaysUptoSaid : Prop := serverPlaysUptoRow.holds Try.pinned (OpenSpec.upto serverPlaysSpec)

/-- 'rosterlaw11.ServerAgain', WHERE WHAT IT READS IS OF BULK AT MOST 1048576: true; the input reads as it did. -/
def serverAgainUptoRow : OpenClaim := { program := "ytgfoobgkpnknmaa", sum := "28d6b8295595b22ca95d588edceb3e74f12ad4ba46686080622515cb5cbe4f27", func := "roster/rosterlaw11.ServerAgain", spec := "serverAgain", unfollowed := true, recurses := true, plainKeys := false, apart := false, narrowed := true }
def ServerAgainUptoSaid : Prop := serverAgainUptoRow.holds Try.pinned (OpenSpec.upto serverAgainSpec)

/-- 'rosterlaw11.ServerNobody', WHERE WHAT IT READS IS OF BULK AT MOST 1048576: true; the input reads as it did. -/
def serverNobodyUptoRow : OpenClaim := { program := "ytgfoobgkpnknmaa", sum := "28d6b8295595b22ca95d588edceb3e74f12ad4ba46686080622515cb5cbe4f27", func := "roster/rosterlaw11.ServerNobody", spec := "serverNobody", unfollowed := true, recurses := true, plainKeys := false, apart := false, narrowed := true }
def ServerNobodyUptoSaid : Prop := serverNobodyUptoRow.holds Try.pinned (OpenSpec.upto serverNobodySpec)

end Rows
end Go.Proofs.Ytgfoobgkpnknmaa
