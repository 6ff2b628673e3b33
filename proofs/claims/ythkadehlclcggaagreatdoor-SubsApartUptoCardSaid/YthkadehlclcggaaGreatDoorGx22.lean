/- Chapter 3: rosterlaw03.UriPrints, UriBack. -/
import Derived.Test.YthkadehlclcggaaGreatDoorGx21
import Derived.Deep.RegionHeld3
namespace Go.Proofs.YthkadehlclcggaaGreatDoor
set_option linter.unusedSimpArgs false
set_option linter.unusedVariables false
open Go.RowKit
theorem thenB {a b c:World} (h:Below a.heap.size a b) (k:Below b.heap.size b c):Below a.heap.size a c:=h.trans (k.mono h.size)
end Go.Proofs.YthkadehlclcggaaGreatDoor
