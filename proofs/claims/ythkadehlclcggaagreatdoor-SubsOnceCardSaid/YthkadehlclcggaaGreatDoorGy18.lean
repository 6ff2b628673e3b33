/- Chapter 3: what is printed, part by part. -/
import Derived.Test.YthkadehlclcggaaGreatDoorGy17
import Derived.Test.YthkadehlclcggaaGreatDoorGy02
import Derived.Deep.DeepCutAuto
import Derived.Deep.CutBlock
import Derived.Deep.RegionHeld3
namespace Go.Proofs.YthkadehlclcggaaGreatDoor
set_option linter.unusedSimpArgs false
set_option linter.unusedVariables false
open Go.RowKit
def prScheme (u:Uri):T:=u.scheme++[58]
def prUser (u:Uri):T:=if u.user=[] then [] else esc users u.user++[64]
end Go.Proofs.YthkadehlclcggaaGreatDoor
