/- Chapter 19: SubsPlays. -/
import Derived.Test.YthkadehlclcggaaGreatDoorGx82
namespace Go.Proofs.YthkadehlclcggaaGreatDoor
set_option linter.unusedSimpArgs false
set_option linter.unusedVariables false
open Go.RowKit
open Go.Lib (hid)
theorem doS_last (c:Conf) (last:Int) (L:List SubP) (a:ActN):(doS c last L a).last<=last+1:=by
 unfold doS
 split
 .rcases begS_ways c last L a.now a.r abT a.text a.state a.text with ⟨_,e⟩|⟨_,_,_,e⟩|⟨_,_,_,e⟩|⟨_,_,_,_,e⟩|⟨_,_,_,_,_,e⟩|⟨_,_,_,_,_,d,_,e⟩
  all_goals (rw [e];dsimp only;omega)
 all_goals (repeat' split) <;> (show last<=last+1;omega)
end Go.Proofs.YthkadehlclcggaaGreatDoor
