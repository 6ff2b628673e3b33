/- Chapter 16: New, made, Len. -/
import Derived.Test.YthkadehlclcggaaGreatDoorGy03
import Derived.Test.YthkadehlclcggaaGreatDoorGy07
import Derived.Deep.RegionWith
import Derived.Deep.RegionHeld3
import Derived.Deep.Cut
namespace Go.Proofs.YthkadehlclcggaaGreatDoor
set_option linter.unusedSimpArgs false
set_option linter.unusedVariables false
open Go.RowKit
theorem thenB_ {a b c:World} (h:Below a.heap.size a b) (k:Below b.heap.size b c):Below a.heap.size a c:=h.trans (k.mono h.size)
def MapZ (w:World) (b:Nat):Prop:=w.heap[b]?=some (.map #[] 0)
theorem MapZ.is {w:World} {b:Nat} {κ:Type} (key:κ->Value) (h:MapZ w b):MapIs w b key []:=⟨#[],0,h,rfl⟩
theorem MapZ.born {w:World} {b:Nat} (h:MapZ w b):Born w b:=⟨#[],0,h,by simp,by simp⟩
theorem MapZ.lt {w:World} {b:Nat} (h:MapZ w b):b<w.heap.size:=(h.is (κ:=Int) intKey).lt
theorem MapZ.fr {w w':World} {b:Nat} {F:Nat->Prop} (h:MapZ w b) (hf:Fr F w w') (hb:¬F b):MapZ w' b:=(hf.block b h.lt hb).trans h
theorem MapZ.made (w:World):MapZ (w.alloc (.map #[] 0)) w.heap.size:=by
 show (w.heap.push _)[w.heap.size]?=_
 simp
theorem MapZ.alloc {w:World} {b:Nat} (h:MapZ w b) (x:Obj):MapZ (w.alloc x) b:=h.fr ((Fr.refl (fun _=>False) _).alloc x) (fun h=>h)
theorem MapZ.below {w w':World} {b:Nat} (h:MapZ w b) (hb:Below w.heap.size w w'):MapZ w' b:=h.fr (Fr.of_below (F:=fun _=>False) hb) (fun h=>h)
structure NewG (w1 W:World) (bl bt pw:Nat) (FW:Nat->Prop):Prop where
 below:Below w1.heap.size w1 W
 hl:MapZ W bl
 ht:MapZ W bt
 hd:bl≠bt
 h1:w1.heap.size<=bl
 h2:w1.heap.size<=bt
 wh:Wh W pw [] FW
 f1:¬FW bl
 f2:¬FW bt
 hF:∀ k,FW k->w1.heap.size<=k
theorem NewG.swap {w1 W:World} {bl bt pw:Nat} {FW:Nat->Prop} (h:NewG w1 W bl bt pw FW):NewG w1 W bt bl pw FW :=
 ⟨h.below,h.ht,h.hl,h.hd.symm,h.h2,h.h1,h.wh,h.f2,h.f1,h.hF⟩
theorem NewG.a {w1 w3:World} {pw:Nat} {FW:Nat->Prop} (hW:Wh w3 pw [] FW) (hb:Below ((w1.alloc (.map #[] 0)).alloc (.map #[] 0)).heap.size ((w1.alloc (.map #[] 0)).alloc (.map #[] 0)) w3) (hF:∀ k,FW k->((w1.alloc (.map #[] 0)).alloc (.map #[] 0)).heap.size<=k) :
 NewG w1 w3 w1.heap.size (w1.heap.size+1) pw FW:=by
 have hF':∀ k,FW k->w1.heap.size+2<=k:=fun k hk=>by have:=hF k hk;simp at this;omega
 have m2:=MapZ.made (w1.alloc (.map #[] 0))
 rw [show (w1.alloc (.map #[] 0)).heap.size=w1.heap.size+1 by simp] at m2
 exact ⟨(((Below.refl _ _).alloc (Nat.le_refl _) _).alloc (by simp) _).trans (hb.mono (by simp;omega)),((MapZ.made w1).alloc _).below hb,m2.below hb,by omega,by omega,by omega,hW,fun h=>by have:=hF' _ h;omega,fun h=>by have:=hF' _ h;omega,fun k hk=>by have:=hF' _ hk;omega⟩
theorem NewG.b {w1 w3:World} {pw:Nat} {FW:Nat->Prop} (hW:Wh w3 pw [] FW) (hb:Below (w1.alloc (.map #[] 0)).heap.size (w1.alloc (.map #[] 0)) w3) (hF:∀ k,FW k->(w1.alloc (.map #[] 0)).heap.size<=k) :
 NewG w1 (w3.alloc (.map #[] 0)) w1.heap.size w3.heap.size pw FW:=by
 have hF':∀ k,FW k->w1.heap.size+1<=k:=fun k hk=>by have:=hF k hk;simp at this;omega
 have hs:=hb.size
 simp at hs
 exact ⟨(((Below.refl _ _).alloc (Nat.le_refl _) _).trans (hb.mono (by simp))).alloc (by omega) _,((MapZ.made w1).below hb).alloc _,MapZ.made w3,by omega,by omega,by omega,hW.fr ((Fr.refl (fun _=>False) _).alloc _) (fun _ _ h=>h),fun h=>by have:=hF' _ h;omega,fun h=>by have:=hW.lt h;omega,fun k hk=>by have:=hF' _ hk;omega⟩
theorem NewG.c {w1 w3:World} {pw:Nat} {FW:Nat->Prop} (hW:Wh w3 pw [] FW) (hb:Below w1.heap.size w1 w3) (hF:∀ k,FW k->w1.heap.size<=k) :
 NewG w1 ((w3.alloc (.map #[] 0)).alloc (.map #[] 0)) w3.heap.size (w3.heap.size+1) pw FW:=by
 have hs:=hb.size
 have m2:=MapZ.made (w3.alloc (.map #[] 0))
 rw [show (w3.alloc (.map #[] 0)).heap.size=w3.heap.size+1 by simp] at m2
 exact ⟨(hb.alloc (by omega) _).alloc (by simp;omega) _,(MapZ.made w3).alloc _,m2,by omega,by omega,by omega,hW.fr (((Fr.refl (fun _=>False) _).alloc _).alloc _) (fun _ _ h=>h),fun h=>by have:=hW.lt h;omega,fun h=>by have:=hW.lt h;omega,hF⟩
end Go.Proofs.YthkadehlclcggaaGreatDoor
