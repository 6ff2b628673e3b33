/- Chapter 16: the document's answer, Do: a question that lacks something. -/
import Derived.Test.YthfmekdbcoaolaaGreatDoorGy46
namespace Go.Proofs.YthfmekdbcoaolaaGreatDoor
set_option linter.unusedSimpArgs false
set_option linter.unusedVariables false
open Go.RowKit
open Go.Lib (hid)
set_option maxRecDepth 100000 in
set_option maxHeartbeats 0 in
theorem rdo_400n {w:World} {N:Nat->Prop} {B:Nat} {c:Conf} {last now:Int} {L:List Pub} {v:Value} {l:List TM} {a:AskP} {At An:Option Addr} {ct cn:Nat} (H:RL w N B L v) (Q:StQ c last L l) (hB:B<=w.heap.size) (hd:DocB w B a.doc (.slice At a.doc.tups.length ct) (.slice An a.doc.notes.length cn)) (hs:AskS a) (he:a.has=true->a.doc.ent.length<=99999990) (hla:last<=1000000) (h:argE L now a=false) (hm:a.mtch=[]) (hk:secK c a.exp=true) (hx:a.has=false\/secN c a.exp=0) :
 Calls Tryz.prog 29 #[.agg (rsV c last v),.int .i64 now,.agg #[.string (str a.who),.string (str a.mtch),.int .i64 a.exp,.bool a.has,.string (str a.doc.ent),.slice At a.doc.tups.length ct,.slice An a.doc.notes.length cn,.string (str a.tag)]] w (RDoPost N B c (doR c last L now a) w):=by
 obtain ⟨A0,cp0,rfl⟩:∃ A cp,v=.slice A L.length cp:=by
  obtain ⟨xs,A,cp,e1,e2,_⟩:=H
  exact ⟨A,cp,by rw [e2,<-e1,List.length_map]⟩
 have hnn:(L.map (·.number)).Nodup/\(L.map (·.tag)).Nodup:=⟨pubs_idnd Q.ids,Q.tags⟩
 obtain ⟨W0,hW0⟩:∃ W0,(((w.alloc (.cells (rsV c last (.slice A0 L.length cp0)) 60)).alloc (.cells #[.string (str a.who),.string (str a.mtch),.int .i64 a.exp,.bool a.has,.string (str a.doc.ent),.slice At a.doc.tups.length ct,.slice An a.doc.notes.length cn,.string (str a.tag)] 42)).alloc (.cells #[.string ⟨#[]⟩,.int .i64 0,.int .i64 0,.int .i64 0,.int .i64 0,.int .i64 0,.int .i64 0,.int .i64 0,.slice none 0 0] 60)).alloc (.cells #[.int .i64 0,.int .i64 0,.string ⟨#[]⟩,.bool false] 33)=W0:=⟨_,rfl⟩
 have HBX:=hid (rdo_box hW0)
 have HRL:Hid (∀ W,Below W0.heap.size W0 W->RL W (fun k=>k<w.heap.size/\N k\/w.heap.size+4<=k) B L (.slice A0 L.length cp0)):=hid (fun W hW=>rl_old H (HBX.out W hW).be hB)
 have HPL:Hid (∀ W,Below W0.heap.size W0 W->∀ tag,Calls Tryz.prog 22 #[.agg (rsV c last (.slice A0 L.length cp0)),.string (str tag)] W (PlcPost L tag W)):=hid (fun W hW tag=>place_any (HRL.out W hW) (by have:=Q.len;have:=Q.pubs;omega))
 unfold PlcPost at HPL
 have HTK:Hid (∀ W,Calls Tryz.prog 21 #[.string (str a.tag)] W fun e w'=>e=.returned (.bool (tokB a.tag))/\W=w'):=hid (fun W=>rtoken_any a.tag W (by have:=hs.tag;omega))
 have HCK:Hid (a.has=true->∀ W,Below W0.heap.size W0 W->Calls Tryz.prog 44 #[.agg #[.string (str a.doc.ent),.slice At a.doc.tups.length ct,.slice An a.doc.notes.length cn]] W fun e w'=>e=.returned (.int .i64 (docE a.doc))/\Below W.heap.size W w'):=hid (fun hh W hW=>rcheck_any (B:=B) (Nat.le_trans hB (HBX.out W hW).be.size) (hd.below ((HBX.out W hW).be.mono hB)) hs.doc (he hh))
 have HW:Hid (Below W0.heap.size W0 W0):=hid (Below.refl _ _)
 have HARG:=hid (argE_no h)
 have HPT:Hid (plcI L a.tag=-1):=hid (plc_no fun p hp e=>HARG.out.2.2.2.1 (List.mem_map.2 ⟨p,hp,e⟩))
 rw [HARG.out.2.2.1] at HTK
 have HPT2:Hid (∀ W,Below W0.heap.size W0 W->Calls Tryz.prog 22 #[.agg (rsV c last (.slice A0 L.length cp0)),.string (str a.tag)] W fun e w'=>e=.returned (.int .i64 (-1))/\Below W.heap.size W w'):=hid (fun W hW=>by
  have h9:=HPL.out W hW a.tag
  rw [HPT.out] at h9
  exact h9)
 have HCK2:Hid (a.has=true->∀ W,Below W0.heap.size W0 W->Calls Tryz.prog 44 #[.agg #[.string (str a.doc.ent),.slice At a.doc.tups.length ct,.slice An a.doc.notes.length cn]] W fun e w'=>e=.returned (.int .i64 0)/\Below W.heap.size W w'):=hid (fun hh W hW=>by
  have h9:=HCK.out hh W hW
  rw [HARG.out.2.2.2.2 hh] at h9
  exact h9)
 have HSEC:Hid (∀ W,Calls Tryz.prog 12 #[.agg #[.string (str c.host),.int .i64 c.calls,.int .i64 c.pubs,.int .i64 c.subs,.int .i64 c.least,.int .i64 c.most,.int .i64 c.usual],.int .i64 a.exp] W fun e w'=>e=.returned (.tuple #[.int .i64 (secN c a.exp),.bool (secK c a.exp)])/\Below W.heap.size W w'):=hid (fun W=>rseconds_any c a.exp W)
 have HPM:Hid (∀ W,Below W0.heap.size W0 W->Calls Tryz.prog 22 #[.agg (rsV c last (.slice A0 L.length cp0)),.string (str a.mtch)] W fun e w'=>e=.returned (.int .i64 (plcI L a.mtch))/\Below W.heap.size W w'):=hid (fun W hW=>HPL.out W hW a.mtch)
 have d1:decide (now<0)=false:=decide_eq_false (by have:=HARG.out.1;omega)
 have d2:decide (now > 549755813888)=false:=decide_eq_false (by have:=HARG.out.2.1;omega)
 have HEND:=hid (fun (W:World) (hW:Below W0.heap.size W0 W)=>rdo_end (s:=⟨#[]⟩) rfl (HBX.out W hW) hB (doR_new2 h hm hk hx) (HRL.out W hW))
 have qe:(str a.mtch).toList.isEmpty=true:=by rw [size_nil];exact decide_eq_true hm
 clear hm
 clear h H Q hd hs he hnn
 generalize secN c a.exp=n at *
 generalize secK c a.exp=K at *
 subst hk
 go_enter Tryz.func29,Tryz.ntmps29
 go_upto_region 1 with (fail)
 try rw [hW0]
 clear hW0
 obtain ⟨c0,c1,c2,c3,c4,c5,c6,c7,c8⟩:=(HBX.out W0 HW.out).sc
 obtain ⟨a0,a1,a2,a3,a4,a5,a6,a7⟩:=(HBX.out W0 HW.out).ac
 obtain ⟨r0,r1,r2,r3,r4,r5,r6,r7,r8,f0,f1,f2,f3,f4,f5,f6,f7,f8⟩:=(HBX.out W0 HW.out).rc
 obtain ⟨t0,t1,t2,t3,g0,g1,g2,g3⟩:=(HBX.out W0 HW.out).tc
 cases hh:a.has with
 | false =>
   rw [hh] at a3
   go_wp2_with fail
   refine (HTK.out _).mono ?_
   rintro e w1 ⟨rfl,rfl⟩
   go_wp2_with fail
   refine (HPT2.out _ HW.out).mono ?_
   rintro e w1 ⟨rfl,hb9⟩
   have HW:=hid (thenB_ HW.out hb9)
   clear hb9
   clear c0 c1 c2 c3 c4 c5 c6 c7 c8 a0 a1 a2 a3 a4 a5 a6 a7 r0 r1 r2 r3 r4 r5 r6 r7 r8 f0 f1 f2 f3 f4 f5 f6 f7 f8 t0 t1 t2 t3 g0 g1 g2 g3
   obtain ⟨c0,c1,c2,c3,c4,c5,c6,c7,c8⟩:=(HBX.out w1 HW.out).sc
   obtain ⟨a0,a1,a2,a3,a4,a5,a6,a7⟩:=(HBX.out w1 HW.out).ac
   obtain ⟨r0,r1,r2,r3,r4,r5,r6,r7,r8,f0,f1,f2,f3,f4,f5,f6,f7,f8⟩:=(HBX.out w1 HW.out).rc
   obtain ⟨t0,t1,t2,t3,g0,g1,g2,g3⟩:=(HBX.out w1 HW.out).tc
   rw [hh] at a3
   go_wp2_with fail
   refine (HSEC.out _).mono ?_
   rintro e w3 ⟨rfl,hb9⟩
   have HW:=hid (thenB_ HW.out hb9)
   clear hb9
   clear c0 c1 c2 c3 c4 c5 c6 c7 c8 a0 a1 a2 a3 a4 a5 a6 a7 r0 r1 r2 r3 r4 r5 r6 r7 r8 f0 f1 f2 f3 f4 f5 f6 f7 f8 t0 t1 t2 t3 g0 g1 g2 g3
   obtain ⟨c0,c1,c2,c3,c4,c5,c6,c7,c8⟩:=(HBX.out w3 HW.out).sc
   obtain ⟨a0,a1,a2,a3,a4,a5,a6,a7⟩:=(HBX.out w3 HW.out).ac
   obtain ⟨r0,r1,r2,r3,r4,r5,r6,r7,r8,f0,f1,f2,f3,f4,f5,f6,f7,f8⟩:=(HBX.out w3 HW.out).rc
   obtain ⟨t0,t1,t2,t3,g0,g1,g2,g3⟩:=(HBX.out w3 HW.out).tc
   rw [hh] at a3
   go_wp2_with fail
   refine (HPM.out _ HW.out).mono ?_
   rintro e w4 ⟨rfl,hb9⟩
   have HW:=hid (thenB_ HW.out hb9)
   clear hb9
   clear c0 c1 c2 c3 c4 c5 c6 c7 c8 a0 a1 a2 a3 a4 a5 a6 a7 r0 r1 r2 r3 r4 r5 r6 r7 r8 f0 f1 f2 f3 f4 f5 f6 f7 f8 t0 t1 t2 t3 g0 g1 g2 g3
   obtain ⟨c0,c1,c2,c3,c4,c5,c6,c7,c8⟩:=(HBX.out w4 HW.out).sc
   obtain ⟨a0,a1,a2,a3,a4,a5,a6,a7⟩:=(HBX.out w4 HW.out).ac
   obtain ⟨r0,r1,r2,r3,r4,r5,r6,r7,r8,f0,f1,f2,f3,f4,f5,f6,f7,f8⟩:=(HBX.out w4 HW.out).rc
   obtain ⟨t0,t1,t2,t3,g0,g1,g2,g3⟩:=(HBX.out w4 HW.out).tc
   rw [hh] at a3
   generalize plcI L a.mtch=P at *
   go_wp2
   go_quiet (fail)
   have HWq:=hid (below_drewN HW.out nq)
   obtain ⟨w5,hw5⟩:∃ w5,w4.drewN nq=w5:=⟨_,rfl⟩
   rw [hw5] at HWq ⊢
   have HW:=HWq
   clear HWq hw5
   clear c0 c1 c2 c3 c4 c5 c6 c7 c8 a0 a1 a2 a3 a4 a5 a6 a7 r0 r1 r2 r3 r4 r5 r6 r7 r8 f0 f1 f2 f3 f4 f5 f6 f7 f8 t0 t1 t2 t3 g0 g1 g2 g3
   obtain ⟨c0,c1,c2,c3,c4,c5,c6,c7,c8⟩:=(HBX.out w5 HW.out).sc
   obtain ⟨a0,a1,a2,a3,a4,a5,a6,a7⟩:=(HBX.out w5 HW.out).ac
   obtain ⟨r0,r1,r2,r3,r4,r5,r6,r7,r8,f0,f1,f2,f3,f4,f5,f6,f7,f8⟩:=(HBX.out w5 HW.out).rc
   obtain ⟨t0,t1,t2,t3,g0,g1,g2,g3⟩:=(HBX.out w5 HW.out).tc
   rw [hh] at a3
   obtain ⟨⟨e0,e1,e2,e3,e4,e5,e6,e7,e8,e9,e10,e11,e12⟩,hp⟩:=HEND.out _ HW.out _ (.inl rfl)
   have HP:=hid hp
   clear hp
   go_wp2
   exact bodyPost_ret (v:=.tuple #[.agg #[.string (str c.host),.int .i64 c.calls,.int .i64 c.pubs,.int .i64 c.subs,.int .i64 c.least,.int .i64 c.most,.int .i64 c.usual,.int .i64 last,.slice A0 L.length cp0],.agg #[.int .i64 400,.int .i64 0,.string ⟨#[]⟩,.bool false],.int .i64 0]) (by simp [results,Tryz.results29,go_sem,e0,e1,e2,e3,e4,e5,e6,e7,e8,e9,e10,e11,e12]) rfl HP.out
 | true =>
   rw [hh] at a3
   go_wp2_with fail
   refine (HTK.out _).mono ?_
   rintro e w1 ⟨rfl,rfl⟩
   go_wp2_with fail
   refine (HPT2.out _ HW.out).mono ?_
   rintro e w1 ⟨rfl,hb9⟩
   have HW:=hid (thenB_ HW.out hb9)
   clear hb9
   clear c0 c1 c2 c3 c4 c5 c6 c7 c8 a0 a1 a2 a3 a4 a5 a6 a7 r0 r1 r2 r3 r4 r5 r6 r7 r8 f0 f1 f2 f3 f4 f5 f6 f7 f8 t0 t1 t2 t3 g0 g1 g2 g3
   obtain ⟨c0,c1,c2,c3,c4,c5,c6,c7,c8⟩:=(HBX.out w1 HW.out).sc
   obtain ⟨a0,a1,a2,a3,a4,a5,a6,a7⟩:=(HBX.out w1 HW.out).ac
   obtain ⟨r0,r1,r2,r3,r4,r5,r6,r7,r8,f0,f1,f2,f3,f4,f5,f6,f7,f8⟩:=(HBX.out w1 HW.out).rc
   obtain ⟨t0,t1,t2,t3,g0,g1,g2,g3⟩:=(HBX.out w1 HW.out).tc
   rw [hh] at a3
   go_wp2_with fail
   refine (HCK2.out hh _ HW.out).mono ?_
   rintro e w2 ⟨rfl,hb9⟩
   have HW:=hid (thenB_ HW.out hb9)
   clear hb9
   clear c0 c1 c2 c3 c4 c5 c6 c7 c8 a0 a1 a2 a3 a4 a5 a6 a7 r0 r1 r2 r3 r4 r5 r6 r7 r8 f0 f1 f2 f3 f4 f5 f6 f7 f8 t0 t1 t2 t3 g0 g1 g2 g3
   obtain ⟨c0,c1,c2,c3,c4,c5,c6,c7,c8⟩:=(HBX.out w2 HW.out).sc
   obtain ⟨a0,a1,a2,a3,a4,a5,a6,a7⟩:=(HBX.out w2 HW.out).ac
   obtain ⟨r0,r1,r2,r3,r4,r5,r6,r7,r8,f0,f1,f2,f3,f4,f5,f6,f7,f8⟩:=(HBX.out w2 HW.out).rc
   obtain ⟨t0,t1,t2,t3,g0,g1,g2,g3⟩:=(HBX.out w2 HW.out).tc
   rw [hh] at a3
   go_wp2_with fail
   refine (HSEC.out _).mono ?_
   rintro e w3 ⟨rfl,hb9⟩
   have HW:=hid (thenB_ HW.out hb9)
   clear hb9
   clear c0 c1 c2 c3 c4 c5 c6 c7 c8 a0 a1 a2 a3 a4 a5 a6 a7 r0 r1 r2 r3 r4 r5 r6 r7 r8 f0 f1 f2 f3 f4 f5 f6 f7 f8 t0 t1 t2 t3 g0 g1 g2 g3
   obtain ⟨c0,c1,c2,c3,c4,c5,c6,c7,c8⟩:=(HBX.out w3 HW.out).sc
   obtain ⟨a0,a1,a2,a3,a4,a5,a6,a7⟩:=(HBX.out w3 HW.out).ac
   obtain ⟨r0,r1,r2,r3,r4,r5,r6,r7,r8,f0,f1,f2,f3,f4,f5,f6,f7,f8⟩:=(HBX.out w3 HW.out).rc
   obtain ⟨t0,t1,t2,t3,g0,g1,g2,g3⟩:=(HBX.out w3 HW.out).tc
   rw [hh] at a3
   go_wp2_with fail
   refine (HPM.out _ HW.out).mono ?_
   rintro e w4 ⟨rfl,hb9⟩
   have HW:=hid (thenB_ HW.out hb9)
   clear hb9
   clear c0 c1 c2 c3 c4 c5 c6 c7 c8 a0 a1 a2 a3 a4 a5 a6 a7 r0 r1 r2 r3 r4 r5 r6 r7 r8 f0 f1 f2 f3 f4 f5 f6 f7 f8 t0 t1 t2 t3 g0 g1 g2 g3
   obtain ⟨c0,c1,c2,c3,c4,c5,c6,c7,c8⟩:=(HBX.out w4 HW.out).sc
   obtain ⟨a0,a1,a2,a3,a4,a5,a6,a7⟩:=(HBX.out w4 HW.out).ac
   obtain ⟨r0,r1,r2,r3,r4,r5,r6,r7,r8,f0,f1,f2,f3,f4,f5,f6,f7,f8⟩:=(HBX.out w4 HW.out).rc
   obtain ⟨t0,t1,t2,t3,g0,g1,g2,g3⟩:=(HBX.out w4 HW.out).tc
   rw [hh] at a3
   generalize plcI L a.mtch=P at *
   rcases hx with hx|hx
   .rw [hh] at hx
    cases hx
   subst hx
   go_wp2
   go_quiet (fail)
   have HWq:=hid (below_drewN HW.out nq)
   obtain ⟨w5,hw5⟩:∃ w5,w4.drewN nq=w5:=⟨_,rfl⟩
   rw [hw5] at HWq ⊢
   have HW:=HWq
   clear HWq hw5
   clear c0 c1 c2 c3 c4 c5 c6 c7 c8 a0 a1 a2 a3 a4 a5 a6 a7 r0 r1 r2 r3 r4 r5 r6 r7 r8 f0 f1 f2 f3 f4 f5 f6 f7 f8 t0 t1 t2 t3 g0 g1 g2 g3
   obtain ⟨c0,c1,c2,c3,c4,c5,c6,c7,c8⟩:=(HBX.out w5 HW.out).sc
   obtain ⟨a0,a1,a2,a3,a4,a5,a6,a7⟩:=(HBX.out w5 HW.out).ac
   obtain ⟨r0,r1,r2,r3,r4,r5,r6,r7,r8,f0,f1,f2,f3,f4,f5,f6,f7,f8⟩:=(HBX.out w5 HW.out).rc
   obtain ⟨t0,t1,t2,t3,g0,g1,g2,g3⟩:=(HBX.out w5 HW.out).tc
   rw [hh] at a3
   obtain ⟨⟨e0,e1,e2,e3,e4,e5,e6,e7,e8,e9,e10,e11,e12⟩,hp⟩:=HEND.out _ HW.out _ (.inl rfl)
   have HP:=hid hp
   clear hp
   go_wp2
   exact bodyPost_ret (v:=.tuple #[.agg #[.string (str c.host),.int .i64 c.calls,.int .i64 c.pubs,.int .i64 c.subs,.int .i64 c.least,.int .i64 c.most,.int .i64 c.usual,.int .i64 last,.slice A0 L.length cp0],.agg #[.int .i64 400,.int .i64 0,.string ⟨#[]⟩,.bool false],.int .i64 0]) (by simp [results,Tryz.results29,go_sem,e0,e1,e2,e3,e4,e5,e6,e7,e8,e9,e10,e11,e12]) rfl HP.out
set_option maxRecDepth 100000 in
set_option maxHeartbeats 0 in
theorem rdo_503 {w:World} {N:Nat->Prop} {B:Nat} {c:Conf} {last now:Int} {L:List Pub} {v:Value} {l:List TM} {a:AskP} {At An:Option Addr} {ct cn:Nat} (H:RL w N B L v) (Q:StQ c last L l) (hB:B<=w.heap.size) (hd:DocB w B a.doc (.slice At a.doc.tups.length ct) (.slice An a.doc.notes.length cn)) (hs:AskS a) (he:a.has=true->a.doc.ent.length<=99999990) (hla:last<=1000000) (h:argE L now a=false) (hm:a.mtch=[]) (hk:secK c a.exp=true) (hx:a.has=true) (hy:secN c a.exp≠0) (hl:c.pubs<=(L.length:Int)) :
 Calls Tryz.prog 29 #[.agg (rsV c last v),.int .i64 now,.agg #[.string (str a.who),.string (str a.mtch),.int .i64 a.exp,.bool a.has,.string (str a.doc.ent),.slice At a.doc.tups.length ct,.slice An a.doc.notes.length cn,.string (str a.tag)]] w (RDoPost N B c (doR c last L now a) w):=by
 obtain ⟨A0,cp0,rfl⟩:∃ A cp,v=.slice A L.length cp:=by
  obtain ⟨xs,A,cp,e1,e2,_⟩:=H
  exact ⟨A,cp,by rw [e2,<-e1,List.length_map]⟩
 have hnn:(L.map (·.number)).Nodup/\(L.map (·.tag)).Nodup:=⟨pubs_idnd Q.ids,Q.tags⟩
 obtain ⟨W0,hW0⟩:∃ W0,(((w.alloc (.cells (rsV c last (.slice A0 L.length cp0)) 60)).alloc (.cells #[.string (str a.who),.string (str a.mtch),.int .i64 a.exp,.bool a.has,.string (str a.doc.ent),.slice At a.doc.tups.length ct,.slice An a.doc.notes.length cn,.string (str a.tag)] 42)).alloc (.cells #[.string ⟨#[]⟩,.int .i64 0,.int .i64 0,.int .i64 0,.int .i64 0,.int .i64 0,.int .i64 0,.int .i64 0,.slice none 0 0] 60)).alloc (.cells #[.int .i64 0,.int .i64 0,.string ⟨#[]⟩,.bool false] 33)=W0:=⟨_,rfl⟩
 have HBX:=hid (rdo_box hW0)
 have HRL:Hid (∀ W,Below W0.heap.size W0 W->RL W (fun k=>k<w.heap.size/\N k\/w.heap.size+4<=k) B L (.slice A0 L.length cp0)):=hid (fun W hW=>rl_old H (HBX.out W hW).be hB)
 have HPL:Hid (∀ W,Below W0.heap.size W0 W->∀ tag,Calls Tryz.prog 22 #[.agg (rsV c last (.slice A0 L.length cp0)),.string (str tag)] W (PlcPost L tag W)):=hid (fun W hW tag=>place_any (HRL.out W hW) (by have:=Q.len;have:=Q.pubs;omega))
 unfold PlcPost at HPL
 have HTK:Hid (∀ W,Calls Tryz.prog 21 #[.string (str a.tag)] W fun e w'=>e=.returned (.bool (tokB a.tag))/\W=w'):=hid (fun W=>rtoken_any a.tag W (by have:=hs.tag;omega))
 have HCK:Hid (a.has=true->∀ W,Below W0.heap.size W0 W->Calls Tryz.prog 44 #[.agg #[.string (str a.doc.ent),.slice At a.doc.tups.length ct,.slice An a.doc.notes.length cn]] W fun e w'=>e=.returned (.int .i64 (docE a.doc))/\Below W.heap.size W w'):=hid (fun hh W hW=>rcheck_any (B:=B) (Nat.le_trans hB (HBX.out W hW).be.size) (hd.below ((HBX.out W hW).be.mono hB)) hs.doc (he hh))
 have HW:Hid (Below W0.heap.size W0 W0):=hid (Below.refl _ _)
 have HARG:=hid (argE_no h)
 have HPT:Hid (plcI L a.tag=-1):=hid (plc_no fun p hp e=>HARG.out.2.2.2.1 (List.mem_map.2 ⟨p,hp,e⟩))
 rw [HARG.out.2.2.1] at HTK
 have HPT2:Hid (∀ W,Below W0.heap.size W0 W->Calls Tryz.prog 22 #[.agg (rsV c last (.slice A0 L.length cp0)),.string (str a.tag)] W fun e w'=>e=.returned (.int .i64 (-1))/\Below W.heap.size W w'):=hid (fun W hW=>by
  have h9:=HPL.out W hW a.tag
  rw [HPT.out] at h9
  exact h9)
 have HCK2:Hid (a.has=true->∀ W,Below W0.heap.size W0 W->Calls Tryz.prog 44 #[.agg #[.string (str a.doc.ent),.slice At a.doc.tups.length ct,.slice An a.doc.notes.length cn]] W fun e w'=>e=.returned (.int .i64 0)/\Below W.heap.size W w'):=hid (fun hh W hW=>by
  have h9:=HCK.out hh W hW
  rw [HARG.out.2.2.2.2 hh] at h9
  exact h9)
 have HSEC:Hid (∀ W,Calls Tryz.prog 12 #[.agg #[.string (str c.host),.int .i64 c.calls,.int .i64 c.pubs,.int .i64 c.subs,.int .i64 c.least,.int .i64 c.most,.int .i64 c.usual],.int .i64 a.exp] W fun e w'=>e=.returned (.tuple #[.int .i64 (secN c a.exp),.bool (secK c a.exp)])/\Below W.heap.size W w'):=hid (fun W=>rseconds_any c a.exp W)
 have HPM:Hid (∀ W,Below W0.heap.size W0 W->Calls Tryz.prog 22 #[.agg (rsV c last (.slice A0 L.length cp0)),.string (str a.mtch)] W fun e w'=>e=.returned (.int .i64 (plcI L a.mtch))/\Below W.heap.size W w'):=hid (fun W hW=>HPL.out W hW a.mtch)
 have d1:decide (now<0)=false:=decide_eq_false (by have:=HARG.out.1;omega)
 have d2:decide (now > 549755813888)=false:=decide_eq_false (by have:=HARG.out.2.1;omega)
 have HEND:=hid (fun (W:World) (hW:Below W0.heap.size W0 W)=>rdo_end (s:=⟨#[]⟩) rfl (HBX.out W hW) hB (doR_new3 h hm hk hx hy hl) (HRL.out W hW))
 have qe:(str a.mtch).toList.isEmpty=true:=by rw [size_nil];exact decide_eq_true hm
 clear hm
 have HXX:=hid hx
 clear hx
 clear h H Q hd hs he hnn
 generalize secN c a.exp=n at *
 generalize secK c a.exp=K at *
 subst hk
 go_enter Tryz.func29,Tryz.ntmps29
 go_upto_region 1 with (fail)
 try rw [hW0]
 clear hW0
 obtain ⟨c0,c1,c2,c3,c4,c5,c6,c7,c8⟩:=(HBX.out W0 HW.out).sc
 obtain ⟨a0,a1,a2,a3,a4,a5,a6,a7⟩:=(HBX.out W0 HW.out).ac
 obtain ⟨r0,r1,r2,r3,r4,r5,r6,r7,r8,f0,f1,f2,f3,f4,f5,f6,f7,f8⟩:=(HBX.out W0 HW.out).rc
 obtain ⟨t0,t1,t2,t3,g0,g1,g2,g3⟩:=(HBX.out W0 HW.out).tc
 have hh:=HXX.out
 rw [hh] at a3
 go_wp2_with fail
 refine (HTK.out _).mono ?_
 rintro e w1 ⟨rfl,rfl⟩
 go_wp2_with fail
 refine (HPT2.out _ HW.out).mono ?_
 rintro e w1 ⟨rfl,hb9⟩
 have HW:=hid (thenB_ HW.out hb9)
 clear hb9
 clear c0 c1 c2 c3 c4 c5 c6 c7 c8 a0 a1 a2 a3 a4 a5 a6 a7 r0 r1 r2 r3 r4 r5 r6 r7 r8 f0 f1 f2 f3 f4 f5 f6 f7 f8 t0 t1 t2 t3 g0 g1 g2 g3
 obtain ⟨c0,c1,c2,c3,c4,c5,c6,c7,c8⟩:=(HBX.out w1 HW.out).sc
 obtain ⟨a0,a1,a2,a3,a4,a5,a6,a7⟩:=(HBX.out w1 HW.out).ac
 obtain ⟨r0,r1,r2,r3,r4,r5,r6,r7,r8,f0,f1,f2,f3,f4,f5,f6,f7,f8⟩:=(HBX.out w1 HW.out).rc
 obtain ⟨t0,t1,t2,t3,g0,g1,g2,g3⟩:=(HBX.out w1 HW.out).tc
 rw [hh] at a3
 go_wp2_with fail
 refine (HCK2.out hh _ HW.out).mono ?_
 rintro e w2 ⟨rfl,hb9⟩
 have HW:=hid (thenB_ HW.out hb9)
 clear hb9
 clear c0 c1 c2 c3 c4 c5 c6 c7 c8 a0 a1 a2 a3 a4 a5 a6 a7 r0 r1 r2 r3 r4 r5 r6 r7 r8 f0 f1 f2 f3 f4 f5 f6 f7 f8 t0 t1 t2 t3 g0 g1 g2 g3
 obtain ⟨c0,c1,c2,c3,c4,c5,c6,c7,c8⟩:=(HBX.out w2 HW.out).sc
 obtain ⟨a0,a1,a2,a3,a4,a5,a6,a7⟩:=(HBX.out w2 HW.out).ac
 obtain ⟨r0,r1,r2,r3,r4,r5,r6,r7,r8,f0,f1,f2,f3,f4,f5,f6,f7,f8⟩:=(HBX.out w2 HW.out).rc
 obtain ⟨t0,t1,t2,t3,g0,g1,g2,g3⟩:=(HBX.out w2 HW.out).tc
 rw [hh] at a3
 go_wp2_with fail
 refine (HSEC.out _).mono ?_
 rintro e w3 ⟨rfl,hb9⟩
 have HW:=hid (thenB_ HW.out hb9)
 clear hb9
 clear c0 c1 c2 c3 c4 c5 c6 c7 c8 a0 a1 a2 a3 a4 a5 a6 a7 r0 r1 r2 r3 r4 r5 r6 r7 r8 f0 f1 f2 f3 f4 f5 f6 f7 f8 t0 t1 t2 t3 g0 g1 g2 g3
 obtain ⟨c0,c1,c2,c3,c4,c5,c6,c7,c8⟩:=(HBX.out w3 HW.out).sc
 obtain ⟨a0,a1,a2,a3,a4,a5,a6,a7⟩:=(HBX.out w3 HW.out).ac
 obtain ⟨r0,r1,r2,r3,r4,r5,r6,r7,r8,f0,f1,f2,f3,f4,f5,f6,f7,f8⟩:=(HBX.out w3 HW.out).rc
 obtain ⟨t0,t1,t2,t3,g0,g1,g2,g3⟩:=(HBX.out w3 HW.out).tc
 rw [hh] at a3
 go_wp2_with fail
 refine (HPM.out _ HW.out).mono ?_
 rintro e w4 ⟨rfl,hb9⟩
 have HW:=hid (thenB_ HW.out hb9)
 clear hb9
 clear c0 c1 c2 c3 c4 c5 c6 c7 c8 a0 a1 a2 a3 a4 a5 a6 a7 r0 r1 r2 r3 r4 r5 r6 r7 r8 f0 f1 f2 f3 f4 f5 f6 f7 f8 t0 t1 t2 t3 g0 g1 g2 g3
 obtain ⟨c0,c1,c2,c3,c4,c5,c6,c7,c8⟩:=(HBX.out w4 HW.out).sc
 obtain ⟨a0,a1,a2,a3,a4,a5,a6,a7⟩:=(HBX.out w4 HW.out).ac
 obtain ⟨r0,r1,r2,r3,r4,r5,r6,r7,r8,f0,f1,f2,f3,f4,f5,f6,f7,f8⟩:=(HBX.out w4 HW.out).rc
 obtain ⟨t0,t1,t2,t3,g0,g1,g2,g3⟩:=(HBX.out w4 HW.out).tc
 rw [hh] at a3
 generalize plcI L a.mtch=P at *
 have z1:(n == 0)=false:=by simpa using hy
 have z2:(L.length:Int)>=c.pubs:=hl
 go_wp2
 go_quiet (fail)
 have HWq:=hid (below_drewN HW.out nq)
 obtain ⟨w5,hw5⟩:∃ w5,w4.drewN nq=w5:=⟨_,rfl⟩
 rw [hw5] at HWq ⊢
 have HW:=HWq
 clear HWq hw5
 clear c0 c1 c2 c3 c4 c5 c6 c7 c8 a0 a1 a2 a3 a4 a5 a6 a7 r0 r1 r2 r3 r4 r5 r6 r7 r8 f0 f1 f2 f3 f4 f5 f6 f7 f8 t0 t1 t2 t3 g0 g1 g2 g3
 obtain ⟨c0,c1,c2,c3,c4,c5,c6,c7,c8⟩:=(HBX.out w5 HW.out).sc
 obtain ⟨a0,a1,a2,a3,a4,a5,a6,a7⟩:=(HBX.out w5 HW.out).ac
 obtain ⟨r0,r1,r2,r3,r4,r5,r6,r7,r8,f0,f1,f2,f3,f4,f5,f6,f7,f8⟩:=(HBX.out w5 HW.out).rc
 obtain ⟨t0,t1,t2,t3,g0,g1,g2,g3⟩:=(HBX.out w5 HW.out).tc
 rw [hh] at a3
 obtain ⟨⟨e0,e1,e2,e3,e4,e5,e6,e7,e8,e9,e10,e11,e12⟩,hp⟩:=HEND.out _ HW.out _ (.inl rfl)
 have HP:=hid hp
 clear hp
 go_wp2
 exact bodyPost_ret (v:=.tuple #[.agg #[.string (str c.host),.int .i64 c.calls,.int .i64 c.pubs,.int .i64 c.subs,.int .i64 c.least,.int .i64 c.most,.int .i64 c.usual,.int .i64 last,.slice A0 L.length cp0],.agg #[.int .i64 503,.int .i64 0,.string ⟨#[]⟩,.bool false],.int .i64 0]) (by simp [results,Tryz.results29,go_sem,e0,e1,e2,e3,e4,e5,e6,e7,e8,e9,e10,e11,e12]) rfl HP.out
set_option maxRecDepth 100000 in
set_option maxHeartbeats 0 in
theorem rdo_400o {w:World} {N:Nat->Prop} {B:Nat} {c:Conf} {last now:Int} {L:List Pub} {v:Value} {l:List TM} {a:AskP} {At An:Option Addr} {ct cn:Nat} (H:RL w N B L v) (Q:StQ c last L l) (hB:B<=w.heap.size) (hd:DocB w B a.doc (.slice At a.doc.tups.length ct) (.slice An a.doc.notes.length cn)) (hs:AskS a) (he:a.has=true->a.doc.ent.length<=99999990) (hla:last<=1000000) (h:argE L now a=false) (hm:a.mtch≠[]) {j:Nat} (hj:j<L.length) (hp:plcI L a.mtch=j) (htg:L[j].tag=a.mtch) (hw:L[j].who=a.who) (hk:secK c a.exp=true) (hx:a.has=true) (hy:secN c a.exp=0) :
 Calls Tryz.prog 29 #[.agg (rsV c last v),.int .i64 now,.agg #[.string (str a.who),.string (str a.mtch),.int .i64 a.exp,.bool a.has,.string (str a.doc.ent),.slice At a.doc.tups.length ct,.slice An a.doc.notes.length cn,.string (str a.tag)]] w (RDoPost N B c (doR c last L now a) w):=by
 obtain ⟨A0,cp0,rfl⟩:∃ A cp,v=.slice A L.length cp:=by
  obtain ⟨xs,A,cp,e1,e2,_⟩:=H
  exact ⟨A,cp,by rw [e2,<-e1,List.length_map]⟩
 have hnn:(L.map (·.number)).Nodup/\(L.map (·.tag)).Nodup:=⟨pubs_idnd Q.ids,Q.tags⟩
 obtain ⟨W0,hW0⟩:∃ W0,(((w.alloc (.cells (rsV c last (.slice A0 L.length cp0)) 60)).alloc (.cells #[.string (str a.who),.string (str a.mtch),.int .i64 a.exp,.bool a.has,.string (str a.doc.ent),.slice At a.doc.tups.length ct,.slice An a.doc.notes.length cn,.string (str a.tag)] 42)).alloc (.cells #[.string ⟨#[]⟩,.int .i64 0,.int .i64 0,.int .i64 0,.int .i64 0,.int .i64 0,.int .i64 0,.int .i64 0,.slice none 0 0] 60)).alloc (.cells #[.int .i64 0,.int .i64 0,.string ⟨#[]⟩,.bool false] 33)=W0:=⟨_,rfl⟩
 have HBX:=hid (rdo_box hW0)
 have HRL:Hid (∀ W,Below W0.heap.size W0 W->RL W (fun k=>k<w.heap.size/\N k\/w.heap.size+4<=k) B L (.slice A0 L.length cp0)):=hid (fun W hW=>rl_old H (HBX.out W hW).be hB)
 have HPL:Hid (∀ W,Below W0.heap.size W0 W->∀ tag,Calls Tryz.prog 22 #[.agg (rsV c last (.slice A0 L.length cp0)),.string (str tag)] W (PlcPost L tag W)):=hid (fun W hW tag=>place_any (HRL.out W hW) (by have:=Q.len;have:=Q.pubs;omega))
 unfold PlcPost at HPL
 have HTK:Hid (∀ W,Calls Tryz.prog 21 #[.string (str a.tag)] W fun e w'=>e=.returned (.bool (tokB a.tag))/\W=w'):=hid (fun W=>rtoken_any a.tag W (by have:=hs.tag;omega))
 have HCK:Hid (a.has=true->∀ W,Below W0.heap.size W0 W->Calls Tryz.prog 44 #[.agg #[.string (str a.doc.ent),.slice At a.doc.tups.length ct,.slice An a.doc.notes.length cn]] W fun e w'=>e=.returned (.int .i64 (docE a.doc))/\Below W.heap.size W w'):=hid (fun hh W hW=>rcheck_any (B:=B) (Nat.le_trans hB (HBX.out W hW).be.size) (hd.below ((HBX.out W hW).be.mono hB)) hs.doc (he hh))
 have HW:Hid (Below W0.heap.size W0 W0):=hid (Below.refl _ _)
 have HARG:=hid (argE_no h)
 have HPT:Hid (plcI L a.tag=-1):=hid (plc_no fun p hp e=>HARG.out.2.2.2.1 (List.mem_map.2 ⟨p,hp,e⟩))
 rw [HARG.out.2.2.1] at HTK
 have HPT2:Hid (∀ W,Below W0.heap.size W0 W->Calls Tryz.prog 22 #[.agg (rsV c last (.slice A0 L.length cp0)),.string (str a.tag)] W fun e w'=>e=.returned (.int .i64 (-1))/\Below W.heap.size W w'):=hid (fun W hW=>by
  have h9:=HPL.out W hW a.tag
  rw [HPT.out] at h9
  exact h9)
 have HCK2:Hid (a.has=true->∀ W,Below W0.heap.size W0 W->Calls Tryz.prog 44 #[.agg #[.string (str a.doc.ent),.slice At a.doc.tups.length ct,.slice An a.doc.notes.length cn]] W fun e w'=>e=.returned (.int .i64 0)/\Below W.heap.size W w'):=hid (fun hh W hW=>by
  have h9:=HCK.out hh W hW
  rw [HARG.out.2.2.2.2 hh] at h9
  exact h9)
 have HSEC:Hid (∀ W,Calls Tryz.prog 12 #[.agg #[.string (str c.host),.int .i64 c.calls,.int .i64 c.pubs,.int .i64 c.subs,.int .i64 c.least,.int .i64 c.most,.int .i64 c.usual],.int .i64 a.exp] W fun e w'=>e=.returned (.tuple #[.int .i64 (secN c a.exp),.bool (secK c a.exp)])/\Below W.heap.size W w'):=hid (fun W=>rseconds_any c a.exp W)
 have HPM:Hid (∀ W,Below W0.heap.size W0 W->Calls Tryz.prog 22 #[.agg (rsV c last (.slice A0 L.length cp0)),.string (str a.mtch)] W fun e w'=>e=.returned (.int .i64 (plcI L a.mtch))/\Below W.heap.size W w'):=hid (fun W hW=>HPL.out W hW a.mtch)
 have d1:decide (now<0)=false:=decide_eq_false (by have:=HARG.out.1;omega)
 have d2:decide (now > 549755813888)=false:=decide_eq_false (by have:=HARG.out.2.1;omega)
 have HEND:=hid (fun (W:World) (hW:Below W0.heap.size W0 W)=>rdo_end (s:=⟨#[]⟩) rfl (HBX.out W hW) hB (doR_old2 h hm hnn.2 (List.getElem_mem hj) htg hw hk hx hy) (HRL.out W hW))
 have qe:(str a.mtch).toList.isEmpty=false:=by rw [size_nil];exact decide_eq_false hm
 have HROW:Hid (∀ W,Below W0.heap.size W0 W->∃ gb off,A0=some ⟨gb,off,none⟩/\W.cell? ⟨gb,off+j*7+1,none⟩=some (.string (str L[j].who))):=hid (fun W hW=>rl_who (HRL.out W hW) hj)
 rw [hp] at HPM
 have x0:(0:Int)<=j:=by omega
 have x1:(j:Int)<L.length:=by omega
 have x2:decide ((j:Int)<0)=false:=decide_eq_false (by omega)
 have w1:((str L[j].who).toList == (str a.who).toList)=true:=by rw [hw];exact beq_self_eq_true _
 have w2:(str L[j].who).toList=(str a.who).toList:=by rw [hw]
 have w3:((str L[j].who).toList != (str a.who).toList)=false:=by rw [hw];simp
 clear hp htg hm
 have HXX:=hid hx
 clear hx
 clear h H Q hd hs he hnn
 generalize secN c a.exp=n at *
 generalize secK c a.exp=K at *
 subst hk
 go_enter Tryz.func29,Tryz.ntmps29
 go_upto_region 1 with (fail)
 try rw [hW0]
 clear hW0
 obtain ⟨c0,c1,c2,c3,c4,c5,c6,c7,c8⟩:=(HBX.out W0 HW.out).sc
 obtain ⟨a0,a1,a2,a3,a4,a5,a6,a7⟩:=(HBX.out W0 HW.out).ac
 obtain ⟨r0,r1,r2,r3,r4,r5,r6,r7,r8,f0,f1,f2,f3,f4,f5,f6,f7,f8⟩:=(HBX.out W0 HW.out).rc
 obtain ⟨t0,t1,t2,t3,g0,g1,g2,g3⟩:=(HBX.out W0 HW.out).tc
 have hh:=HXX.out
 rw [hh] at a3
 go_wp2_with fail
 refine (HTK.out _).mono ?_
 rintro e w1 ⟨rfl,rfl⟩
 go_wp2_with fail
 refine (HPT2.out _ HW.out).mono ?_
 rintro e w1 ⟨rfl,hb9⟩
 have HW:=hid (thenB_ HW.out hb9)
 clear hb9
 clear c0 c1 c2 c3 c4 c5 c6 c7 c8 a0 a1 a2 a3 a4 a5 a6 a7 r0 r1 r2 r3 r4 r5 r6 r7 r8 f0 f1 f2 f3 f4 f5 f6 f7 f8 t0 t1 t2 t3 g0 g1 g2 g3
 obtain ⟨c0,c1,c2,c3,c4,c5,c6,c7,c8⟩:=(HBX.out w1 HW.out).sc
 obtain ⟨a0,a1,a2,a3,a4,a5,a6,a7⟩:=(HBX.out w1 HW.out).ac
 obtain ⟨r0,r1,r2,r3,r4,r5,r6,r7,r8,f0,f1,f2,f3,f4,f5,f6,f7,f8⟩:=(HBX.out w1 HW.out).rc
 obtain ⟨t0,t1,t2,t3,g0,g1,g2,g3⟩:=(HBX.out w1 HW.out).tc
 rw [hh] at a3
 go_wp2_with fail
 refine (HCK2.out hh _ HW.out).mono ?_
 rintro e w2 ⟨rfl,hb9⟩
 have HW:=hid (thenB_ HW.out hb9)
 clear hb9
 clear c0 c1 c2 c3 c4 c5 c6 c7 c8 a0 a1 a2 a3 a4 a5 a6 a7 r0 r1 r2 r3 r4 r5 r6 r7 r8 f0 f1 f2 f3 f4 f5 f6 f7 f8 t0 t1 t2 t3 g0 g1 g2 g3
 obtain ⟨c0,c1,c2,c3,c4,c5,c6,c7,c8⟩:=(HBX.out w2 HW.out).sc
 obtain ⟨a0,a1,a2,a3,a4,a5,a6,a7⟩:=(HBX.out w2 HW.out).ac
 obtain ⟨r0,r1,r2,r3,r4,r5,r6,r7,r8,f0,f1,f2,f3,f4,f5,f6,f7,f8⟩:=(HBX.out w2 HW.out).rc
 obtain ⟨t0,t1,t2,t3,g0,g1,g2,g3⟩:=(HBX.out w2 HW.out).tc
 rw [hh] at a3
 go_wp2_with fail
 refine (HSEC.out _).mono ?_
 rintro e w3 ⟨rfl,hb9⟩
 have HW:=hid (thenB_ HW.out hb9)
 clear hb9
 clear c0 c1 c2 c3 c4 c5 c6 c7 c8 a0 a1 a2 a3 a4 a5 a6 a7 r0 r1 r2 r3 r4 r5 r6 r7 r8 f0 f1 f2 f3 f4 f5 f6 f7 f8 t0 t1 t2 t3 g0 g1 g2 g3
 obtain ⟨c0,c1,c2,c3,c4,c5,c6,c7,c8⟩:=(HBX.out w3 HW.out).sc
 obtain ⟨a0,a1,a2,a3,a4,a5,a6,a7⟩:=(HBX.out w3 HW.out).ac
 obtain ⟨r0,r1,r2,r3,r4,r5,r6,r7,r8,f0,f1,f2,f3,f4,f5,f6,f7,f8⟩:=(HBX.out w3 HW.out).rc
 obtain ⟨t0,t1,t2,t3,g0,g1,g2,g3⟩:=(HBX.out w3 HW.out).tc
 rw [hh] at a3
 go_wp2_with fail
 refine (HPM.out _ HW.out).mono ?_
 rintro e w4 ⟨rfl,hb9⟩
 have HW:=hid (thenB_ HW.out hb9)
 clear hb9
 clear c0 c1 c2 c3 c4 c5 c6 c7 c8 a0 a1 a2 a3 a4 a5 a6 a7 r0 r1 r2 r3 r4 r5 r6 r7 r8 f0 f1 f2 f3 f4 f5 f6 f7 f8 t0 t1 t2 t3 g0 g1 g2 g3
 obtain ⟨c0,c1,c2,c3,c4,c5,c6,c7,c8⟩:=(HBX.out w4 HW.out).sc
 obtain ⟨a0,a1,a2,a3,a4,a5,a6,a7⟩:=(HBX.out w4 HW.out).ac
 obtain ⟨r0,r1,r2,r3,r4,r5,r6,r7,r8,f0,f1,f2,f3,f4,f5,f6,f7,f8⟩:=(HBX.out w4 HW.out).rc
 obtain ⟨t0,t1,t2,t3,g0,g1,g2,g3⟩:=(HBX.out w4 HW.out).tc
 rw [hh] at a3
 obtain ⟨gb,off,rfl,yw⟩:=HROW.out _ HW.out
 subst hy
 go_wp2
 go_quiet (fail)
 have HWq:=hid (below_drewN HW.out nq)
 obtain ⟨w5,hw5⟩:∃ w5,w4.drewN nq=w5:=⟨_,rfl⟩
 rw [hw5] at HWq ⊢
 have HW:=HWq
 clear HWq hw5
 clear c0 c1 c2 c3 c4 c5 c6 c7 c8 a0 a1 a2 a3 a4 a5 a6 a7 r0 r1 r2 r3 r4 r5 r6 r7 r8 f0 f1 f2 f3 f4 f5 f6 f7 f8 t0 t1 t2 t3 g0 g1 g2 g3
 obtain ⟨c0,c1,c2,c3,c4,c5,c6,c7,c8⟩:=(HBX.out w5 HW.out).sc
 obtain ⟨a0,a1,a2,a3,a4,a5,a6,a7⟩:=(HBX.out w5 HW.out).ac
 obtain ⟨r0,r1,r2,r3,r4,r5,r6,r7,r8,f0,f1,f2,f3,f4,f5,f6,f7,f8⟩:=(HBX.out w5 HW.out).rc
 obtain ⟨t0,t1,t2,t3,g0,g1,g2,g3⟩:=(HBX.out w5 HW.out).tc
 rw [hh] at a3
 obtain ⟨⟨e0,e1,e2,e3,e4,e5,e6,e7,e8,e9,e10,e11,e12⟩,hp⟩:=HEND.out _ HW.out _ (.inl rfl)
 have HP:=hid hp
 clear hp
 go_wp2
 exact bodyPost_ret (v:=.tuple #[.agg #[.string (str c.host),.int .i64 c.calls,.int .i64 c.pubs,.int .i64 c.subs,.int .i64 c.least,.int .i64 c.most,.int .i64 c.usual,.int .i64 last,.slice (some ⟨gb,off,none⟩) L.length cp0],.agg #[.int .i64 400,.int .i64 0,.string ⟨#[]⟩,.bool false],.int .i64 0]) (by simp [results,Tryz.results29,go_sem,e0,e1,e2,e3,e4,e5,e6,e7,e8,e9,e10,e11,e12]) rfl HP.out
end Go.Proofs.YthfmekdbcoaolaaGreatDoor
