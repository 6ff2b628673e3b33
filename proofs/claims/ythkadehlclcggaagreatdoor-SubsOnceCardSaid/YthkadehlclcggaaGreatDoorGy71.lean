/- How a tied card is closed: a world that holds the listed tables. The row's closed facts, one by one: each is then a proof of its own for the kernel. -/
import Derived.Test.YthkadehlclcggaaGreatDoorCards
import Derived.Test.YthkadehlclcggaaGreatDoorTie
import Derived.Test.YthkadehlclcggaaGreatDoorGy14
import Derived.Deep.DeepHandedRow
import Derived.Lib.LaidTab
import Derived.JoinedCond
import Derived.Deep.CondSized
namespace Go.Proofs.YthkadehlclcggaaGreatDoor
set_option linter.unusedSimpArgs false
set_option linter.unusedVariables false
open Go.ChangeShapes Go.WideShapes Go.ChangeAt Go.RowKit
def putFirst:Obj->Obj
 | .cells _ t frozen=>.cells ((Go.Pinned.utf8FirstZ.map fun n=>Value.int .u8 ((n:Nat):Int)):List Value).toArray t frozen
 | o=>o
def putAccept:Obj->Obj
 | .cells _ t frozen=>.cells #[.int .u8 128,.int .u8 191,.int .u8 160,.int .u8 191,.int .u8 128,.int .u8 159,.int .u8 144,.int .u8 191,.int .u8 128,.int .u8 143,.int .u8 0,.int .u8 0,.int .u8 0,.int .u8 0,.int .u8 0,.int .u8 0,.int .u8 0,.int .u8 0,.int .u8 0,.int .u8 0,.int .u8 0,.int .u8 0,.int .u8 0,.int .u8 0,.int .u8 0,.int .u8 0,.int .u8 0,.int .u8 0,.int .u8 0,.int .u8 0,.int .u8 0,.int .u8 0] t frozen
 | o=>o
noncomputable def laidWorld (os:Os):World :=
 { World.holding Tryz.prog os ⟨#[],#[],[]⟩ with heap:=((World.holding Tryz.prog os ⟨#[],#[],[]⟩).heap.modify 1 putFirst).modify 2 putAccept }
end Go.Proofs.YthkadehlclcggaaGreatDoor
namespace Go.Proofs.YthkadehlclcggaaGreatDoor
set_option linter.unusedSimpArgs false
set_option linter.unusedVariables false
open Go.RowKit Go.ChangeShapes Go.WideShapes Go.ChangeAt
theorem joined_of {P:Program} {f:FuncId} {fn:Func} {s:ChangeSpec} {c:OpenClaim}
 (h1:(c.wf (OpenSpec.ofChange s))=true)
 (h2:(laidOutB P)=true)
 (h3:(mapsRowed P)=true)
 (h4:(fn.params.all (P.readableRec ·))=true)
 (h5:(namedTie P c.named s.vars)=true)
 (h6:((c.stops == []))=true)
 (h7:((P.stops == []))=true)
 (h8:((c.knobs == []))=true)
 (h9:((P.stopKnobs == []))=true)
 (h10:((c.inPlace == P.inPlace f))=true)
 (h11:((c.unfollowed == P.unfollowed f))=true)
 (h12:((c.recurses == P.recurses f))=true)
 (h13:((c.named == P.varsNamed f))=true)
 (h14:((c.maps == (fn.params.toList++s.plain.varTypes P).any (P.mapsRec ·)))=true)
 (h15:((c.ifaces == (fn.params.toList++s.plain.varTypes P).any (P.ifacesRec ·)))=true)
 (h16:((c.mapsOut == P.mapsAmong fn.resultTypes.toList))=true)
 (h17:((c.loops == (fn.params.toList++s.plain.varTypes P).any (P.loopsFrom ·)))=true)
 (h18:((c.wideKeys == (fn.params.toList++s.plain.varTypes P++fn.resultTypes.toList).any (P.wideKeysFrom ·)))=true)
 (h19:(s.vars.all (P.varReadable ·))=true)
 (h20:(fn.resultTypes.all (fun t=>P.readableRec t&&decide (t<P.types.size)))=true)
 (h21:((c.ifacesOut == fn.resultTypes.toList.any (P.ifacesRec ·)))=true)
 (h22:((c.loopsOut == fn.resultTypes.toList.any (P.loopsFrom ·)))=true)
 (h23:((c.plainKeys == P.plainKeys))=true)
 (h24:(c.shortTexts.isNone)=true)
 (h25:(P.stopsHeard)=true)
 (h26:(P.mayEnter)=true)
 (h27:((c.lifted == P.liftsFinal))=true)
 (h28:((P.make == some c.make))=true)
 (h29:((c.kinds == (if c.domain.isEmpty then [] else fn.params.toList.map fun t=>match P.underlying t with|some (.int k)=>some k|_=>none)))=true)
 (h30:((c.pinned == c.pinnedBy))=true)
 (h31:((c.veiled == (fn.params.toList++s.plain.varTypes P++fn.resultTypes.toList).any (P.veiledRec ·)))=true)
 (h32:(c.veiledFits P fn.params.toList (fn.params.toList++s.plain.varTypes P++fn.resultTypes.toList))=true)
 : joinedFacts P f fn s c=true:=by
 unfold joinedFacts
 repeat (first|assumption|refine Bool.and_eq_true_iff.2 ⟨?_,?_⟩)
 all_goals first|assumption|skip
end Go.Proofs.YthkadehlclcggaaGreatDoor
