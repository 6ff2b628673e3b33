/- Chapters 14, 16: the same documents, the same publications, told apart by the document's a Chapter 16: the same publications, told by the document's answer. -/
import Derived.Test.YthfmekdbcoaolaaGreatDoorGy43
import Derived.Test.YthfmekdbcoaolaaGreatDoorGy39
import Derived.StillTailTactics
namespace Go.Proofs.YthfmekdbcoaolaaGreatDoor
set_option linter.unusedSimpArgs false
set_option linter.unusedVariables false
open Go.RowKit
open Go.Lib (hid)
theorem rtexts_sameB {l:List T} {A1 A2:Option Addr} {c1 c2 B:Nat} {w:World} (h1:RdB w B 1 l.length A1 (rows noteC l)) (h2:RdB w B 1 l.length A2 (rows noteC l)) (l1:l.length<=1000000) :
 Calls Tryz.prog 19 #[.slice A1 l.length c1,.slice A2 l.length c2] w fun e w'=>e=.returned (.bool true)/\∃ n,w'=w.drewN n:=by
 have H1:=hid h1
 have H2:=hid h2
 clear h1 h2
 go_enter Tryz.func19,Tryz.ntmps19
 go_wp2
 go_loopw [5] (fun i wr=>∃ j:Nat,j<=l.length/\i=.int .i64 j/\∃ n,wr=w.drewN n) (fun i _=>l.length-(intOf i).toNat)
 case atStart=>exact ⟨0,by omega,rfl,0,rfl⟩
 case round =>
  obtain ⟨j,hj,rfl,n,rfl⟩:=hrel
  by_cases hlt:j<l.length
  .have x0:(0:Int)<=j:=by omega
   have x1:(j:Int)<l.length:=by omega
   obtain ⟨gb,off,rfl,_,y0⟩:=note_at H1.out hlt
   obtain ⟨gb2,off2,rfl,_,z0⟩:=note_at H2.out hlt
   go_wp2
   go_quiet (fail)
   go_wp2
   go_roundw
   case rel=>exact ⟨j+1,by omega,by go_num,_,by first|rfl|exact World.drewN_drewN _ _ _⟩
   case measure=>simp [intOf] <;> omega
  .have x1:¬(j:Int)<l.length:=by omega
   go_wp2
   go_ret
   exact ⟨rfl,n,rfl⟩
theorem neq_tup (p:Tup) (W:World):(binOp .neq 115 (.agg #[.string (str p.id),.bool p.opn,.string (str p.contact),.int .i64 p.prio,.string (str p.note)]) (.agg #[.string (str p.id),.bool p.opn,.string (str p.contact),.int .i64 p.prio,.string (str p.note)])).run Tryz.prog W=.ok (.bool false) W:=by
 simp [go_sem]
set_option maxRecDepth 100000 in
set_option maxHeartbeats 4000000 in
theorem rsame14_any {w:World} {d:DocP} {At1 An1 At2 An2:Option Addr} {ct1 cn1 ct2 cn2:Nat} (h1:DocB w w.heap.size d (.slice At1 d.tups.length ct1) (.slice An1 d.notes.length cn1)) (h2:DocB w w.heap.size d (.slice At2 d.tups.length ct2) (.slice An2 d.notes.length cn2)) (l1:d.tups.length<=1000000) (l2:d.notes.length<=1000000) :
 Calls Tryz.prog 42 #[.agg #[.string (str d.ent),.slice At1 d.tups.length ct1,.slice An1 d.notes.length cn1],.agg #[.string (str d.ent),.slice At2 d.tups.length ct2,.slice An2 d.notes.length cn2]] w fun e w'=>e=.returned (.bool true)/\Below w.heap.size w w':=by
 obtain ⟨⟨a1,b1,e1,_,_,ht1⟩,⟨a2,b2,e2,_,_,hn1⟩⟩:=h1
 obtain ⟨⟨a3,b3,e3,_,_,ht2⟩,⟨a4,b4,e4,_,_,hn2⟩⟩:=h2
 injection e1 with e1 _ f1
 injection e2 with e2 _ f2
 injection e3 with e3 _ f3
 injection e4 with e4 _ f4
 subst e1 e2 e3 e4 f1 f2 f3 f4
 obtain ⟨w0,hw0⟩:∃ w0,(w.alloc (.cells #[.string (str d.ent),.slice At1 d.tups.length ct1,.slice An1 d.notes.length cn1] 39)).alloc (.cells #[.string (str d.ent),.slice At2 d.tups.length ct2,.slice An2 d.notes.length cn2] 39)=w0:=⟨_,rfl⟩
 obtain ⟨hb0,hs0,k1,k2⟩:=two_box hw0
 have HB0:=hid hb0
 have HT1:Hid (∀ W,Below w0.heap.size w0 W->RdB W w.heap.size 5 d.tups.length At1 (rows tupC d.tups)):=hid (fun W hW=>ht1.below (hb0.trans (hW.mono hb0.size)))
 have HT2:Hid (∀ W,Below w0.heap.size w0 W->RdB W w.heap.size 5 d.tups.length At2 (rows tupC d.tups)):=hid (fun W hW=>ht2.below (hb0.trans (hW.mono hb0.size)))
 have HTX:=hid (rtexts_sameB (w:=w0) (c1:=cn1) (c2:=cn2) (hn1.below hb0) (hn2.below hb0) l2)
 have c0:=(k1 w0 (Below.refl _ _)).cell 0
 have c1:=(k1 w0 (Below.refl _ _)).cell 1
 have c2:=(k1 w0 (Below.refl _ _)).cell 2
 have d0:=(k2 w0 (Below.refl _ _)).cell 0
 have d1:=(k2 w0 (Below.refl _ _)).cell 1
 have d2:=(k2 w0 (Below.refl _ _)).cell 2
 have K1:=hid k1
 have K2:=hid k2
 clear hb0 hs0 k1 k2 ht1 ht2 hn1 hn2
 go_enter Tryz.func42,Tryz.ntmps42
 go_upto_region 1 with (fail)
 try rw [hw0]
 clear hw0
 go_wp2_with fail
 refine (HTX.out).mono ?_
 rintro e w1 ⟨rfl,n,rfl⟩
 clear c0 c1 c2 d0 d1 d2
 have HN0:Hid (Below w0.heap.size w0 (w0.drewN n)):=hid (below_drewN (Below.refl _ _) n)
 generalize w0.drewN n=wn at *
 go_wp2
 go_loopw [5] (fun i wr=>∃ j:Nat,j<=d.tups.length/\i=.int .i64 j/\Below w0.heap.size w0 wr) (fun i _=>d.tups.length-(intOf i).toNat)
 case atStart=>exact ⟨0,by omega,rfl,HN0.out⟩
 case round =>
  obtain ⟨j,hj,rfl,hb⟩:=hrel
  have HB:=hid hb
  have c1:=(K1.out _ hb).cell 1
  have d1:=(K2.out _ hb).cell 1
  clear hb
  by_cases hlt:j<d.tups.length
  .have x0:(0:Int)<=j:=by omega
   have x1:(j:Int)<d.tups.length:=by omega
   obtain ⟨gb,off,rfl,_,y0,y1,y2,y3,y4⟩:=tup_at (HT1.out _ HB.out) hlt
   obtain ⟨gb2,off2,rfl,_,z0,z1,z2,z3,z4⟩:=tup_at (HT2.out _ HB.out) hlt
   have heq:=neq_tup d.tups[j]
   go_wp2
   go_quiet (fail)
   go_wp2
   go_roundw
   case rel=>exact ⟨j+1,by omega,by go_num,below_drewN HB.out _⟩
   case measure=>simp [intOf] <;> omega
  .have x1:¬(j:Int)<d.tups.length:=by omega
   go_wp2
   go_ret
   exact ⟨rfl,thenB_ HB0.out HB.out⟩
set_option maxRecDepth 100000 in
set_option maxHeartbeats 4000000 in
theorem rsame16_any {w:World} {L:List Pub} {v1 v2:Value} (h1:PubsR w L v1) (h2:PubsR w L v2) (hl:L.length<=1000000) (hd:∀ p∈L,p.doc.tups.length<=1000000/\p.doc.notes.length<=1000000) :
 Calls Tryz.prog 24 #[v1,v2] w fun e w'=>e=.returned (.bool true)/\Below w.heap.size w w':=by
 obtain ⟨xs,A1,cp1,rfl,rfl,hr1,hd1⟩:=h1
 obtain ⟨ys,A2,cp2,hxy,rfl,hr2,hd2⟩:=h2
 have hlen:ys.length=xs.length:=by have:=congrArg List.length hxy;simpa using this
 rw [List.length_map] at hl
 have H1:Hid (∀ W,Below w.heap.size w W->Rd W 66 7 xs.length A1 (rows rpC xs)):=hid (fun W hW=>hr1.below hW)
 have H2:Hid (∀ W,Below w.heap.size w W->Rd W 66 7 ys.length A2 (rows rpC ys)):=hid (fun W hW=>hr2.below hW)
 have HD:Hid (∀ (j:Nat) (hx:j<xs.length) (hy:j<ys.length),∀ W,Below w.heap.size w W->ys[j].p=xs[j].p/\DocB W W.heap.size xs[j].p.doc xs[j].vt xs[j].vn/\DocB W W.heap.size xs[j].p.doc ys[j].vt ys[j].vn/\xs[j].p.doc.tups.length<=1000000/\xs[j].p.doc.notes.length<=1000000):=hid (fun j hx hy W hW=>by
  have e:ys[j].p=xs[j].p:=by
   have h9:(ys.map (·.p))[j]'(by simpa using hy)=(xs.map (·.p))[j]'(by simpa using hx):=by simp only [hxy]
   simpa using h9
  have k2:=(hd2 _ (List.getElem_mem hy)).on hW
  rw [e] at k2
  exact ⟨e,(hd1 _ (List.getElem_mem hx)).on hW,k2,hd _ (List.mem_map.2 ⟨_,List.getElem_mem hx,rfl⟩)⟩)
 have HL:=hid hlen
 rw [hlen]
 clear hr1 hr2 hd1 hd2 hxy hlen hd
 go_enter Tryz.func24,Tryz.ntmps24
 go_wp2
 go_loopw [5] (fun i wr=>∃ j:Nat,j<=xs.length/\i=.int .i64 j/\Below w.heap.size w wr) (fun i _=>xs.length-(intOf i).toNat)
 case atStart=>exact ⟨0,by omega,rfl,Below.refl _ _⟩
 case round =>
  obtain ⟨j,hj,rfl,hb⟩:=hrel
  have HB:=hid hb
  clear hb
  by_cases hlt:j<xs.length
  .have x0:(0:Int)<=j:=by omega
   have x1:(j:Int)<xs.length:=by omega
   have hly:j<ys.length:=by have:=HL.out;omega
   obtain ⟨gb,off,rfl,_,y0,y1,y2,y3,y4,y5,y6⟩:=rp_rd (H1.out _ HB.out) hlt
   obtain ⟨gb2,off2,rfl,_,z0,z1,z2,z3,z4,z5,z6⟩:=rp_rd (H2.out _ HB.out) hly
   obtain ⟨e,k1,k2,l1,l2⟩:=HD.out j hlt hly _ HB.out
   rw [e] at z0 z1 z2 z3 z4
   have HXX:Hid (∀ W,Below wr.heap.size wr W->Calls Tryz.prog 42 #[.agg #[.string (str xs[j].p.doc.ent),xs[j].vt,xs[j].vn],.agg #[.string (str xs[j].p.doc.ent),ys[j].vt,ys[j].vn]] W fun e w'=>e=.returned (.bool true)/\Below W.heap.size W w'):=hid (fun W hW=>by
    have q1:=k1.on hW
    have q2:=k2.on hW
    obtain ⟨a1,b1,e1,_⟩:=q1.t
    obtain ⟨a2,b2,e2,_⟩:=q1.n
    obtain ⟨a3,b3,e3,_⟩:=q2.t
    obtain ⟨a4,b4,e4,_⟩:=q2.n
    rw [e1,e2] at q1
    rw [e3,e4] at q2
    rw [e1,e2,e3,e4]
    exact rsame14_any q1 q2 l1 l2)
   clear e k1 k2 l1 l2
   go_wp2
   go_still_tail 61,(by kernel_rfl)
   go_wp2_with fail
   refine (HXX.out _ ?_).mono ?_
   .exact (Below.refl _ _).drew
   rintro e w6 ⟨rfl,hb6⟩
   have HB6:=hid (HB.out.trans ((Below.refl _ _).drew.trans (hb6.mono HB.out.size)))
   clear hb6
   go_wp2
   go_roundw
   case rel=>exact ⟨j+1,by omega,by go_num,HB6.out⟩
   case measure=>simp [intOf] <;> omega
  .have x1:¬(j:Int)<xs.length:=by omega
   go_wp2
   go_ret
   exact ⟨rfl,HB.out⟩
end Go.Proofs.YthfmekdbcoaolaaGreatDoor
