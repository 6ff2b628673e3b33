/- Chapter 16: the document's answer, Do: what may not be asked. -/
import Derived.Test.YthfmekdbcoaolaaGreatDoorGy44
namespace Go.Proofs.YthfmekdbcoaolaaGreatDoor
set_option linter.unusedSimpArgs false
set_option linter.unusedVariables false
open Go.RowKit
open Go.Lib (hid)
set_option maxRecDepth 100000 in
set_option maxHeartbeats 0 in
theorem rdo_arg {w:World} {N:Nat->Prop} {B:Nat} {c:Conf} {last now:Int} {L:List Pub} {v:Value} {l:List TM} {a:AskP} {At An:Option Addr} {ct cn:Nat} (H:RL w N B L v) (Q:StQ c last L l) (hB:B<=w.heap.size) (hd:DocB w B a.doc (.slice At a.doc.tups.length ct) (.slice An a.doc.notes.length cn)) (hs:AskS a) (he:a.has=true->a.doc.ent.length<=99999990) (hla:last<=1000000) (h:argE L now a=true) :
 Calls Tryz.prog 29 #[.agg (rsV c last v),.int .i64 now,.agg #[.string (str a.who),.string (str a.mtch),.int .i64 a.exp,.bool a.has,.string (str a.doc.ent),.slice At a.doc.tups.length ct,.slice An a.doc.notes.length cn,.string (str a.tag)]] w (RDoPost N B c (doR c last L now a) w):=by
 obtain ⟨A0,cp0,rfl⟩:∃ A cp,v=.slice A L.length cp:=by
  obtain ⟨xs,A,cp,e1,e2,_⟩:=H
  exact ⟨A,cp,by rw [e2,<-e1,List.length_map]⟩
 have hnn:(L.map (·.number)).Nodup/\(L.map (·.tag)).Nodup:=⟨pubs_idnd Q.ids,Q.tags⟩
 obtain ⟨W0,hW0⟩:∃ W0,(((w.alloc (.cells (rsV c last (.slice A0 L.length cp0)) 60)).alloc (.cells #[.string (str a.who),.string (str a.mtch),.int .i64 a.exp,.bool a.has,.string (str a.doc.ent),.slice At a.doc.tups.length ct,.slice An a.doc.notes.length cn,.string (str a.tag)] 42)).alloc (.cells #[.string ⟨#[]⟩,.int .i64 0,.int .i64 0,.int .i64 0,.int .i64 0,.int .i64 0,.int .i64 0,.int .i64 0,.slice none 0 0] 60)).alloc (.cells #[.int .i64 0,.int .i64 0,.string ⟨#[]⟩,.bool false] 33)=W0:=⟨_,rfl⟩
 have HBX:=hid (rdo_box hW0)
 have HRL:Hid (∀ W,Below W0.heap.size W0 W->RL W (fun k=>k<w.heap.size/\N k\/w.heap.size+4<=k) B L (.slice A0 L.length cp0)):=hid (fun W hW=>rl_old H (HBX.out W hW).be hB)
 have HPL:Hid (∀ W,Below W0.heap.size W0 W->∀ tag,Calls Tryz.prog 22 #[.agg (rsV c last (.slice A0 L.length cp0)),.string (str tag)] W (PlcPost L tag W)):=hid (fun W hW tag=>place_any (HRL.out W hW) (by have:=Q.len;have:=Q.pubs;omega))
 unfold PlcPost at HPL
 have HTK:Hid (∀ W,Calls Tryz.prog 21 #[.string (str a.tag)] W fun e w'=>e=.returned (.bool (tokB a.tag))/\W=w'):=hid (fun W=>rtoken_any a.tag W (by have:=hs.tag;omega))
 have HCK:Hid (a.has=true->∀ W,Below W0.heap.size W0 W->Calls Tryz.prog 44 #[.agg #[.string (str a.doc.ent),.slice At a.doc.tups.length ct,.slice An a.doc.notes.length cn]] W fun e w'=>e=.returned (.int .i64 (docE a.doc))/\Below W.heap.size W w'):=hid (fun hh W hW=>rcheck_any (B:=B) (Nat.le_trans hB (HBX.out W hW).be.size) (hd.below ((HBX.out W hW).be.mono hB)) hs.doc (he hh))
 have HW:Hid (Below W0.heap.size W0 W0):=hid (Below.refl _ _)
 have HEND:=hid (fun (W:World) (hW:Below W0.heap.size W0 W)=>rdo_end (s:=⟨#[]⟩) rfl (HBX.out W hW) hB (doR_arg h) (HRL.out W hW))
 have HARG:=hid (argE_in h)
 clear h H Q hd hs he hnn
 go_enter Tryz.func29,Tryz.ntmps29
 go_upto_region 1 with (fail)
 try rw [hW0]
 clear hW0
 obtain ⟨c0,c1,c2,c3,c4,c5,c6,c7,c8⟩:=(HBX.out W0 HW.out).sc
 obtain ⟨a0,a1,a2,a3,a4,a5,a6,a7⟩:=(HBX.out W0 HW.out).ac
 obtain ⟨r0,r1,r2,r3,r4,r5,r6,r7,r8,f0,f1,f2,f3,f4,f5,f6,f7,f8⟩:=(HBX.out W0 HW.out).rc
 obtain ⟨t0,t1,t2,t3,g0,g1,g2,g3⟩:=(HBX.out W0 HW.out).tc
 by_cases q1:now<0
 .have d1:decide (now<0)=true:=decide_eq_true q1
  obtain ⟨⟨e0,e1,e2,e3,e4,e5,e6,e7,e8,e9,e10,e11,e12⟩,hp⟩:=HEND.out _ HW.out _ (.inl rfl)
  have HP:=hid hp
  clear hp
  go_wp2
  exact bodyPost_ret (v:=.tuple #[.agg #[.string (str c.host),.int .i64 c.calls,.int .i64 c.pubs,.int .i64 c.subs,.int .i64 c.least,.int .i64 c.most,.int .i64 c.usual,.int .i64 last,.slice A0 L.length cp0],.agg #[.int .i64 0,.int .i64 0,.string ⟨#[]⟩,.bool false],.int .i64 1]) (by simp [results,Tryz.results29,go_sem,e0,e1,e2,e3,e4,e5,e6,e7,e8,e9,e10,e11,e12]) rfl HP.out
 .by_cases q2:now > 549755813888
  .have d1:decide (now<0)=false:=decide_eq_false q1
   have d2:decide (now > 549755813888)=true:=decide_eq_true q2
   obtain ⟨⟨e0,e1,e2,e3,e4,e5,e6,e7,e8,e9,e10,e11,e12⟩,hp⟩:=HEND.out _ HW.out _ (.inl rfl)
   have HP:=hid hp
   clear hp
   go_wp2
   exact bodyPost_ret (v:=.tuple #[.agg #[.string (str c.host),.int .i64 c.calls,.int .i64 c.pubs,.int .i64 c.subs,.int .i64 c.least,.int .i64 c.most,.int .i64 c.usual,.int .i64 last,.slice A0 L.length cp0],.agg #[.int .i64 0,.int .i64 0,.string ⟨#[]⟩,.bool false],.int .i64 1]) (by simp [results,Tryz.results29,go_sem,e0,e1,e2,e3,e4,e5,e6,e7,e8,e9,e10,e11,e12]) rfl HP.out
  .have d1:decide (now<0)=false:=decide_eq_false q1
   have d2:decide (now > 549755813888)=false:=decide_eq_false q2
   go_wp2_with fail
   refine (HTK.out _).mono ?_
   rintro e w1 ⟨rfl,rfl⟩
   cases ht:tokB a.tag with
   | false =>
     obtain ⟨⟨e0,e1,e2,e3,e4,e5,e6,e7,e8,e9,e10,e11,e12⟩,hp⟩:=HEND.out _ HW.out _ (.inl rfl)
     have HP:=hid hp
     clear hp
     go_wp2
     exact bodyPost_ret (v:=.tuple #[.agg #[.string (str c.host),.int .i64 c.calls,.int .i64 c.pubs,.int .i64 c.subs,.int .i64 c.least,.int .i64 c.most,.int .i64 c.usual,.int .i64 last,.slice A0 L.length cp0],.agg #[.int .i64 0,.int .i64 0,.string ⟨#[]⟩,.bool false],.int .i64 1]) (by simp [results,Tryz.results29,go_sem,e0,e1,e2,e3,e4,e5,e6,e7,e8,e9,e10,e11,e12]) rfl HP.out
   | true =>
     go_wp2_with fail
     refine (HPL.out _ HW.out a.tag).mono ?_
     rintro e w1 ⟨rfl,hb9⟩
     have HW:=hid (thenB_ HW.out hb9)
     clear hb9
     clear c0 c1 c2 c3 c4 c5 c6 c7 c8 a0 a1 a2 a3 a4 a5 a6 a7 r0 r1 r2 r3 r4 r5 r6 r7 r8 f0 f1 f2 f3 f4 f5 f6 f7 f8 t0 t1 t2 t3 g0 g1 g2 g3
     obtain ⟨c0,c1,c2,c3,c4,c5,c6,c7,c8⟩:=(HBX.out w1 HW.out).sc
     obtain ⟨a0,a1,a2,a3,a4,a5,a6,a7⟩:=(HBX.out w1 HW.out).ac
     obtain ⟨r0,r1,r2,r3,r4,r5,r6,r7,r8,f0,f1,f2,f3,f4,f5,f6,f7,f8⟩:=(HBX.out w1 HW.out).rc
     obtain ⟨t0,t1,t2,t3,g0,g1,g2,g3⟩:=(HBX.out w1 HW.out).tc
     rcases plc_ways L a.tag with ⟨hp,hno⟩|⟨j,hj,hp,htg⟩
     .rw [hp]
      cases hh:a.has with
      | false =>
        exfalso
        have h9:=HARG.out
        rw [ht,hh,decide_eq_false (show ¬now<0 by omega),decide_eq_false (show ¬549755813888<now by omega)] at h9
        simp at h9
        exact hno (by obtain ⟨z,h1,h2⟩:=h9;exact List.mem_map.2 ⟨z,h1,h2⟩)
      | true =>
        rw [hh] at a3
        have hde:docE a.doc≠0:=fun q=>by
         have h9:=HARG.out
         rw [ht,hh,decide_eq_false (show ¬now<0 by omega),decide_eq_false (show ¬549755813888<now by omega)] at h9
         simp [q] at h9
         exact hno (by obtain ⟨z,h1,h2⟩:=h9;exact List.mem_map.2 ⟨z,h1,h2⟩)
        have qe:(docE a.doc != 0)=true:=by simpa using hde
        generalize docE a.doc=DE at *
        go_wp2_with fail
        refine (HCK.out hh _ HW.out).mono ?_
        rintro e w2 ⟨rfl,hb9⟩
        have HW:=hid (thenB_ HW.out hb9)
        clear hb9
        clear c0 c1 c2 c3 c4 c5 c6 c7 c8 a0 a1 a2 a3 a4 a5 a6 a7 r0 r1 r2 r3 r4 r5 r6 r7 r8 f0 f1 f2 f3 f4 f5 f6 f7 f8 t0 t1 t2 t3 g0 g1 g2 g3
        obtain ⟨c0,c1,c2,c3,c4,c5,c6,c7,c8⟩:=(HBX.out w2 HW.out).sc
        obtain ⟨a0,a1,a2,a3,a4,a5,a6,a7⟩:=(HBX.out w2 HW.out).ac
        obtain ⟨r0,r1,r2,r3,r4,r5,r6,r7,r8,f0,f1,f2,f3,f4,f5,f6,f7,f8⟩:=(HBX.out w2 HW.out).rc
        obtain ⟨t0,t1,t2,t3,g0,g1,g2,g3⟩:=(HBX.out w2 HW.out).tc
        obtain ⟨⟨e0,e1,e2,e3,e4,e5,e6,e7,e8,e9,e10,e11,e12⟩,hp⟩:=HEND.out _ HW.out _ (.inl rfl)
        have HP:=hid hp
        clear hp
        go_wp2
        exact bodyPost_ret (v:=.tuple #[.agg #[.string (str c.host),.int .i64 c.calls,.int .i64 c.pubs,.int .i64 c.subs,.int .i64 c.least,.int .i64 c.most,.int .i64 c.usual,.int .i64 last,.slice A0 L.length cp0],.agg #[.int .i64 0,.int .i64 0,.string ⟨#[]⟩,.bool false],.int .i64 1]) (by simp [results,Tryz.results29,go_sem,e0,e1,e2,e3,e4,e5,e6,e7,e8,e9,e10,e11,e12]) rfl HP.out
     .rw [hp]
      have x0:(j:Int)>=0:=by omega
      obtain ⟨⟨e0,e1,e2,e3,e4,e5,e6,e7,e8,e9,e10,e11,e12⟩,hp⟩:=HEND.out _ HW.out _ (.inl rfl)
      have HP:=hid hp
      clear hp
      go_wp2
      exact bodyPost_ret (v:=.tuple #[.agg #[.string (str c.host),.int .i64 c.calls,.int .i64 c.pubs,.int .i64 c.subs,.int .i64 c.least,.int .i64 c.most,.int .i64 c.usual,.int .i64 last,.slice A0 L.length cp0],.agg #[.int .i64 0,.int .i64 0,.string ⟨#[]⟩,.bool false],.int .i64 1]) (by simp [results,Tryz.results29,go_sem,e0,e1,e2,e3,e4,e5,e6,e7,e8,e9,e10,e11,e12]) rfl HP.out
end Go.Proofs.YthfmekdbcoaolaaGreatDoor
