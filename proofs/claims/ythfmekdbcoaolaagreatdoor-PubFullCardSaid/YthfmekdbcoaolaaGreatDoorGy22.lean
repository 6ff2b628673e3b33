/- Chapter 3: rosterlaw03.awake; UriHosts, UriParses. Chapter 3: rosterlaw03.UriHosts, UriParses. Chapter 3: rosterlaw03.UriPrints, UriBack. Chapter 3: rosterlaw03.UriOnce, UriSigns. Chapter 3: rosterlaw03.UriLetters. -/
import Derived.Test.YthfmekdbcoaolaaGreatDoorGy21
import Derived.Deep.RegionHeld3
namespace Go.Proofs.YthfmekdbcoaolaaGreatDoor
set_option linter.unusedSimpArgs false
set_option linter.unusedVariables false
open Go.RowKit
def TruePost (w:World) (e:Ending) (w':World):Prop:=e=.returned (.bool true)/\Below w.heap.size w w'
theorem parse_is {s:ByteArray} {r:Uri × Int} (h:parseE s.data.toList=r) (hs:s.size<=100000000) (w:World):Calls Tryz.prog 94 #[.string s] w fun e w'=>∃ Ap cp Ah ch,e=.returned (.tuple #[.agg #[.string (str r.1.scheme),.string (str r.1.user),.string (str r.1.host),.int .i64 r.1.port,.slice Ap r.1.params.length cp,.slice Ah r.1.headers.length ch],.int .i64 r.2])/\RdB w' w'.heap.size 3 r.1.params.length Ap (rows parC r.1.params)/\RdB w' w'.heap.size 3 r.1.headers.length Ah (rows parC r.1.headers)/\Below w.heap.size w w':=by
 subst h
 refine (Parse_any s w hs).mono ?_
 rintro e w' ⟨vp,vh,rfl,⟨Ap,cp,rfl,hp⟩,⟨Ah,ch,rfl,hh⟩,hb⟩
 exact ⟨Ap,cp,Ah,ch,rfl,hp,hh,hb⟩
theorem rparse_is {s:ByteArray} {r:Uri × Int} (h:parseE s.data.toList=r) (hs:s.size<=100000000) (w:World):Calls Tryz.prog 89 #[.string s] w fun e w'=>∃ Ap cp Ah ch,e=.returned (.tuple #[.agg #[.string (str r.1.scheme),.string (str r.1.user),.string (str r.1.host),.int .i64 r.1.port,.slice Ap r.1.params.length cp,.slice Ah r.1.headers.length ch],.int .i64 r.2])/\RdB w' w'.heap.size 3 r.1.params.length Ap (rows parC r.1.params)/\RdB w' w'.heap.size 3 r.1.headers.length Ah (rows parC r.1.headers)/\Below w.heap.size w w':=by
 subst h
 refine (rParse_any s w hs).mono ?_
 rintro e w' ⟨vp,vh,rfl,⟨Ap,cp,rfl,hp⟩,⟨Ah,ch,rfl,hh⟩,hb⟩
 exact ⟨Ap,cp,Ah,ch,rfl,hp,hh,hb⟩
theorem RdB.on {w w':World} {n sz:Nat} {A:Option Addr} {xs:List Value} (h:RdB w w.heap.size sz n A xs) (hb:Below w.heap.size w w'):RdB w' w'.heap.size sz n A xs:=by
 have q:=h.below hb
 exact ⟨q.1,fun hn=>by
  obtain ⟨gb,off,e,h1,h2⟩:=q.2 hn
  exact ⟨gb,off,e,by have:=hb.size;omega,h2⟩⟩
theorem UriB.of {w:World} {B:Nat} {u:Uri} {Ap Ah:Option Addr} {cp ch:Nat} (h1:RdB w B 3 u.params.length Ap (rows parC u.params)) (h2:RdB w B 3 u.headers.length Ah (rows parC u.headers)):UriB w B (.agg #[.string (str u.scheme),.string (str u.user),.string (str u.host),.int .i64 u.port,.slice Ap u.params.length cp,.slice Ah u.headers.length ch]) u:=⟨_,_,rfl,⟨_,_,rfl,h1⟩,⟨_,_,rfl,h2⟩⟩
theorem thenB {a b c:World} (h:Below a.heap.size a b) (k:Below b.heap.size b c):Below a.heap.size a c:=h.trans (k.mono h.size)
theorem printV_form (u:Uri):∃ S E,printV u=.tuple #[.string S,.int .i64 E]/\(checkE u=0->S=str (printT u)/\E=0)/\(checkE u≠0->S=⟨#[]⟩/\E=checkE u):=by
 by_cases h:checkE u=0
 .exact ⟨_,_,printV_ok h,fun _=>⟨rfl,rfl⟩,fun q=>absurd h q⟩
 .exact ⟨_,_,printV_no h,fun q=>absurd q h,fun _=>⟨rfl,rfl⟩⟩
theorem uri_box {u:Uri} {Ap Ah:Option Addr} {cp ch:Nat} {w w0:World} (hw0:w.alloc (.cells #[.string (str u.scheme),.string (str u.user),.string (str u.host),.int .i64 u.port,.slice Ap u.params.length cp,.slice Ah u.headers.length ch] 155)=w0) :
 Below w.heap.size w w0/\∀ W,Below w0.heap.size w0 W->W.cell? ⟨w.heap.size,0,none⟩=some (.string (str u.scheme))/\W.cell? ⟨w.heap.size,1,none⟩=some (.string (str u.user))/\W.cell? ⟨w.heap.size,2,none⟩=some (.string (str u.host))/\W.cell? ⟨w.heap.size,3,none⟩=some (.int .i64 u.port)/\W.cell? ⟨w.heap.size,4,none⟩=some (.slice Ap u.params.length cp)/\W.cell? ⟨w.heap.size,5,none⟩=some (.slice Ah u.headers.length ch):=by
 subst hw0
 refine ⟨(Below.refl _ _).alloc (Nat.le_refl _) _,fun W h=>?_⟩
 have hk:=(Blk.new w 155 #[.string (str u.scheme),.string (str u.user),.string (str u.host),.int .i64 u.port,.slice Ap u.params.length cp,.slice Ah u.headers.length ch]).fr (Fr.of_below (F:=fun _=>False) h) (fun h=>h)
 exact ⟨hk.cell 0,hk.cell 1,hk.cell 2,hk.cell 3,hk.cell 4,hk.cell 5⟩
theorem uriS_ok {u:Uri} (h:checkE u=0):UriS u:=by
 obtain ⟨h1,h2,h3,h4,h5,h6,h7,_⟩:=check_parts h
 have a:=scheme_len h1
 have b:=host_len h3
 have c:=list_len h6
 have d:=list_len h7
 have e:∀ p,parOk p=true->parS p:=fun p h=>by
  unfold parOk at h
  simp only [Bool.and_eq_true,decide_eq_true_eq] at h
  exact ⟨by have:=h.1.1.2;omega,by have:=h.1.2;omega⟩
 exact ⟨by omega,by omega,by omega,by omega,by omega,by omega,fun p hp=>e p (list_ok h6 p hp),fun p hp=>e p (list_ok h7 p hp)⟩
def upAt (f:Nat->Bool) (l:T) (k j:Nat):UInt8:=if j<k then up1 (f j) (l.getD j 0) else l.getD j 0
structure LetRel (f:Nat->Bool) (l:T) (w:World) (g k:Nat) (wr:World):Prop where
 cell:∀ j,j<l.length->wr.cell? ⟨g,j,none⟩=some (.int .u8 ((upAt f l k j).toNat:Int))
 fz:∀ j,j<l.length->wr.frozen? ⟨g,j,none⟩=false
 be:Below w.heap.size w wr
 ge:w.heap.size<=g
theorem LetRel.same {f:Nat->Bool} {l:T} {w wr:World} {g k:Nat} (H:LetRel f l w g k wr) (hk:k<l.length) (he:up1 (f k) l[k]=l[k]):LetRel f l w g (k+1) wr :=
 ⟨fun j hj=>by
  rw [H.cell j hj]
  unfold upAt
  by_cases e:j=k
  .subst e
   rw [if_neg (by omega),if_pos (by omega)]
   simp [List.getD,hk,he]
  .by_cases q:j<k
   .rw [if_pos q,if_pos (by omega)]
   .rw [if_neg q,if_neg (by omega)],H.fz,H.be,H.ge⟩
theorem LetRel.step {f:Nat->Bool} {l:T} {w wr:World} {g k:Nat} (H:LetRel f l w g k wr) (hk:k<l.length) {x:Int} (hx:x=((up1 (f k) l[k]).toNat:Int)):LetRel f l w g (k+1) (wr.setCell ⟨g,k,none⟩ (.int .u8 x)) where
 cell:=fun j hj=>by
  have hc:=H.cell j hj
  subst hx
  by_cases e:j=k
  .subst e
   have h1:upAt f l (j+1) j=up1 (f j) l[j]:=by
    unfold upAt
    rw [if_pos (by omega)]
    simp [List.getD,hj]
   rw [h1]
   exact World.cell?_setCell_same' _ _ _ (by rw [hc];rfl)
  .refine (World.cell?_setCell_other (w:=wr) (a:=⟨g,k,none⟩) (b:=⟨g,j,none⟩) (v:=_) (by intro q;injection q with _ q _;exact e q.symm)).trans ?_
   rw [hc]
   unfold upAt
   by_cases q:j<k
   .rw [if_pos q,if_pos (by omega)]
   .rw [if_neg q,if_neg (by omega)]
 fz:=fun j hj=>by rw [World.frozen?_setCell];exact H.fz j hj
 be:=H.be.setCell H.ge _
 ge:=H.ge
end Go.Proofs.YthfmekdbcoaolaaGreatDoor
