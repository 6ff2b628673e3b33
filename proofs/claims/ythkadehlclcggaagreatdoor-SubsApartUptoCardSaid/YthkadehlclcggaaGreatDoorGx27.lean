/- Chapter 16: New, made, Len. -/
import Derived.Test.YthkadehlclcggaaGreatDoorGx03
import Derived.Test.YthkadehlclcggaaGreatDoorGx07
import Derived.Deep.RegionWith
import Derived.Deep.RegionHeld3
import Derived.Deep.Cut
namespace Go.Proofs.YthkadehlclcggaaGreatDoor
set_option linter.unusedSimpArgs false
set_option linter.unusedVariables false
open Go.RowKit
theorem thenB_ {a b c:World} (h:Below a.heap.size a b) (k:Below b.heap.size b c):Below a.heap.size a c:=h.trans (k.mono h.size)
def MapZ (w:World) (b:Nat):Prop:=w.heap[b]?=some (.map #[] 0)
theorem MapZ.is {w:World} {b:Nat} {κ:Type} (key:κ->Value) (h:MapZ w b):MapIs w b key []:=⟨#[],0,h,rfl⟩
theorem MapZ.born {w:World} {b:Nat} (h:MapZ w b):Born w b:=⟨#[],0,h,by simp,by simp⟩
theorem MapZ.lt {w:World} {b:Nat} (h:MapZ w b):b<w.heap.size:=(h.is (κ:=Int) intKey).lt
theorem MapZ.fr {w w':World} {b:Nat} {F:Nat->Prop} (h:MapZ w b) (hf:Fr F w w') (hb:¬F b):MapZ w' b:=(hf.block b h.lt hb).trans h
theorem MapZ.made (w:World):MapZ (w.alloc (.map #[] 0)) w.heap.size:=by
 show (w.heap.push _)[w.heap.size]?=_
 simp
theorem MapZ.alloc {w:World} {b:Nat} (h:MapZ w b) (x:Obj):MapZ (w.alloc x) b:=h.fr ((Fr.refl (fun _=>False) _).alloc x) (fun h=>h)
theorem MapZ.below {w w':World} {b:Nat} (h:MapZ w b) (hb:Below w.heap.size w w'):MapZ w' b:=h.fr (Fr.of_below (F:=fun _=>False) hb) (fun h=>h)
end Go.Proofs.YthkadehlclcggaaGreatDoor
