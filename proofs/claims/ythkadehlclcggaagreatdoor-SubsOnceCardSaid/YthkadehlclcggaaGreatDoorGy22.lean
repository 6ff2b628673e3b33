/- Chapter 3: rosterlaw03.UriHosts, UriParses. Chapter 3: rosterlaw03.UriPrints, UriBack. Chapter 3: rosterlaw03.UriLetters. -/
import Derived.Test.YthkadehlclcggaaGreatDoorGy21
import Derived.Deep.RegionHeld3
namespace Go.Proofs.YthkadehlclcggaaGreatDoor
set_option linter.unusedSimpArgs false
set_option linter.unusedVariables false
open Go.RowKit
theorem RdB.on {w w':World} {n sz:Nat} {A:Option Addr} {xs:List Value} (h:RdB w w.heap.size sz n A xs) (hb:Below w.heap.size w w'):RdB w' w'.heap.size sz n A xs:=by
 have q:=h.below hb
 exact ⟨q.1,fun hn=>by
  obtain ⟨gb,off,e,h1,h2⟩:=q.2 hn
  exact ⟨gb,off,e,by have:=hb.size;omega,h2⟩⟩
theorem UriB.of {w:World} {B:Nat} {u:Uri} {Ap Ah:Option Addr} {cp ch:Nat} (h1:RdB w B 3 u.params.length Ap (rows parC u.params)) (h2:RdB w B 3 u.headers.length Ah (rows parC u.headers)):UriB w B (.agg #[.string (str u.scheme),.string (str u.user),.string (str u.host),.int .i64 u.port,.slice Ap u.params.length cp,.slice Ah u.headers.length ch]) u:=⟨_,_,rfl,⟨_,_,rfl,h1⟩,⟨_,_,rfl,h2⟩⟩
theorem thenB {a b c:World} (h:Below a.heap.size a b) (k:Below b.heap.size b c):Below a.heap.size a c:=h.trans (k.mono h.size)
def upAt (f:Nat->Bool) (l:T) (k j:Nat):UInt8:=if j<k then up1 (f j) (l.getD j 0) else l.getD j 0
structure LetRel (f:Nat->Bool) (l:T) (w:World) (g k:Nat) (wr:World):Prop where
 cell:∀ j,j<l.length->wr.cell? ⟨g,j,none⟩=some (.int .u8 ((upAt f l k j).toNat:Int))
 fz:∀ j,j<l.length->wr.frozen? ⟨g,j,none⟩=false
 be:Below w.heap.size w wr
 ge:w.heap.size<=g
theorem LetRel.step {f:Nat->Bool} {l:T} {w wr:World} {g k:Nat} (H:LetRel f l w g k wr) (hk:k<l.length) {x:Int} (hx:x=((up1 (f k) l[k]).toNat:Int)):LetRel f l w g (k+1) (wr.setCell ⟨g,k,none⟩ (.int .u8 x)) where
 cell:=fun j hj=>by
  have hc:=H.cell j hj
  subst hx
  by_cases e:j=k
  .subst e
   have h1:upAt f l (j+1) j=up1 (f j) l[j]:=by
    unfold upAt
    rw [if_pos (by omega)]
    simp [List.getD,hj]
   rw [h1]
   exact World.cell?_setCell_same' _ _ _ (by rw [hc];rfl)
  .refine (World.cell?_setCell_other (w:=wr) (a:=⟨g,k,none⟩) (b:=⟨g,j,none⟩) (v:=_) (by intro q;injection q with _ q _;exact e q.symm)).trans ?_
   rw [hc]
   unfold upAt
   by_cases q:j<k
   .rw [if_pos q,if_pos (by omega)]
   .rw [if_neg q,if_neg (by omega)]
 fz:=fun j hj=>by rw [World.frozen?_setCell];exact H.fz j hj
 be:=H.be.setCell H.ge _
 ge:=H.ge
end Go.Proofs.YthkadehlclcggaaGreatDoor
