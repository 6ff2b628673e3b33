/- Chapter 19: a call of both, kind 1. -/
import Derived.Test.YthkadehlclcggaaGreatDoorGx79
namespace Go.Proofs.YthkadehlclcggaaGreatDoor
set_option linter.unusedSimpArgs false
set_option linter.unusedVariables false
open Go.RowKit
open Go.Lib (hid)
set_option maxRecDepth 100000 in
set_option maxHeartbeats 16000000 in
theorem does1_any {X:Nat->Prop} {w:World} {p g:Nat} {c:Conf} {last last':Int} {L L':List SubP} {B:Nat} {v:Value} {a:ActN} {q:RqV} (H:Do9H X w p g c last last' L L' B v a q) (hk:a.kind=1) :
 Calls Tryz.prog 23 #[.pointer (some ⟨p,0,none⟩),.pointer (some ⟨g,0,none⟩),.agg (actN a q)] w (Do9Post X w p g c last last' L L' B a):=by
 obtain ⟨w0,hw0⟩:∃ w0,w.alloc (.cells (actN a q) 67)=w0:=⟨_,rfl⟩
 have hb0:Below w.heap.size w w0:=hw0▸(Below.refl _ _).alloc (Nat.le_refl _) _
 obtain ⟨A,nv,cp,rfl⟩:∃ A nv cp,v=.slice A nv cp:=by
  obtain ⟨xs,A,cp,_,e,_⟩:=H.ref
  exact ⟨A,xs.length,cp,e⟩
 have HH:=hid H
 have HRC:Hid (rightB c=true):=hid (by obtain ⟨l,Q⟩:=H.tab.sbq;exact Q.right)
 have HZR:Hid (∀ s∈L,SubZ s):=hid (by obtain ⟨l,Q⟩:=H.tab.sbq;exact Q.z)
 have HK0:=hid (H.box.fr (Fr.of_below (F:=fun _=>False) hb0) (fun e=>e))
 have HST:=hid (fun w1 hb hk=>H.start (w1:=w1) hw0 hb hk)
 have HS0:Hid (w.heap.size<w0.heap.size):=hid (by rw [<-hw0];simp)
 clear hb0 H
 go_enter Tryz.func23,Tryz.ntmps23
 go_upto_region 1 with (fail)
 try rw [hw0]
 clear hw0
 generalize hq0:Value.agg (actN a q)=q0
 clear hq0
 go_upto_region 2 with (first|(refine wpl_load rfl 71 (.tmp 28) rfl g 0 rfl HK0.out (rtV c last' (.slice A nv cp)).toList rfl _ Tryz.underlying71 rfl (by kernel_rfl) ?_)|(refine wpl_store rfl 71 (.tmp 7) (.tmp 29) rfl w0.heap.size 0 rfl (rtV c last' (.slice A nv cp)) rfl (rt_blk0 w0) (Nat.le_refl 9) (rtV c last' (.slice A nv cp)) rfl (by kernel_rfl) (rtV_one rfl) ?_;intro w1 hk1 hf1))
 have b1:Below w0.heap.size w0 w1:=((Below.refl w0.heap.size w0).alloc (Nat.le_refl _) _).trans (hf1.to_below (by simp) (fun k e=>by omega))
 have HZ1:=hid (HST.out w1 b1 hk1)
 have c0:w1.cell? ⟨w.heap.size,0,none⟩=some (.int .i64 a.kind):=HZ1.out.act.cell 0
 clear b1 hk1 hf1 HK0 HST
 have HEK:Hid (∀ last L,doS c last L a=_):=hid (fun last L=>doS1 (c:=c) (last:=last) (L:=L) hk)
 rw [hk] at c0
 clear hk
 go_upto_region 9 with (fail)
 have HS:Hid (∀ W,Below w1.heap.size w1 W->W.rangeAt g 0 (rtV c last' (.slice A nv cp)).toList/\W.rangeAt w.heap.size 5 (reqA a.r q).toList/\W.cell? ⟨w.heap.size,1,none⟩=some (.int .i64 a.now)/\W.cell? ⟨w.heap.size,2,none⟩=some (.int .i64 a.num)):=hid (fun W hW=>by have h9:=HZ1.out.below hW;exact ⟨blk_range (off:=0) h9.bg rfl,blk_range (off:=5) h9.act rfl,h9.act.cell 1,h9.act.cell 2⟩)
 have HC:Hid (∀ W,Below w1.heap.size w1 W->Calls Tryz.prog 52 #[.agg (rtV c last' (.slice A nv cp)),.int .i64 a.now,.int .i64 a.num,.agg (reqA a.r q)] W (RbgPost (XUp X w w1) B c last' (agaS c L' a.now a.num a.r) W)):=hid (fun W hW=>by
  have h9:=HZ1.out.below hW
  exact rtagain_any h9.ref h9.hBW (by have:=HH.out.ln;omega) HH.out.nd h9.tab.lt HH.out.zL HRC.out (HH.out.rq.below h9.bw) HH.out.rz)
 unfold RbgPost at HC
 have HW1:Hid (Below w1.heap.size w1 w1.drew):=hid (Below.refl _ _).drew
 clear c0
 go_cut [14,15,16] (fun p14 p15 p16 wx=>Mid0 (XUp X w w1) w1 B c last' (agaS c L' a.now a.num a.r) p14 p15 p16 wx)
 case first =>
  refine wp_region_noPanic (rgn HS.out HW1.out fun hHeld=>?_)
  refine tk 0 ?_
  refine tk 1 ?_
  refine tkm 2 (rtV c last' (.slice A nv cp)) (g) 0 (fun wq hSw=>hSw.1) Tryz.underlying71 ?_
  refine tk 3 ?_
  refine tk 4 ?_
  refine tk 5 ?_
  refine tk 6 ?_
  refine tk 7 ?_
  refine tkm 8 (reqA a.r q) (w.heap.size) 5 (fun wq hSw=>hSw.2.1) Tryz.underlying45 ?_
  have HSZD:Hid (w1.heap.size<=w1.drew.heap.size):=hid (Nat.le_refl _)
  generalize w1.drew=wd at *
  refine wpAnyH_ready (rs:=[9,14,15]) (by kernel_rfl) (by simp) ?_
  refine rdc (fun K hK=>?_) ?_
  .go_simp
   refine (HC.out _ HW1.out).mono ?_
   rintro e wc ⟨v5,sv,rfl,hr,hs,hb⟩
   have HYC:Hid (Below w1.heap.size w1 wc):=hid (HW1.out.trans (hb.mono HW1.out.size))
   have HCA:Hid (Cal (XUp X w w1) wd.heap.size wc.heap.size B (agaS c L' a.now a.num a.r).L v5 (agaS c L' a.now a.num a.r).sub sv wc):=hid (Cal.of hr hs (HZ1.out.below HW1.out).hBW hb)
   have HLO:Hid (w1.heap.size<=wd.heap.size/\wd.heap.size<=wc.heap.size):=hid ⟨HW1.out.size,hb.size⟩
   have HHI:Hid (wc.heap.size<=wc.heap.size):=hid (Nat.le_refl _)
   have HO5:Hid (v5.oneCell'=true):=hid hr.one
   clear hr hb hs
   go_wp2_with fail
   refine bk hK (HS.out _ HYC.out) fun hHeld=>?_
   clear hK K
   refine tk 10 ?_
   refine tk 11 ?_
   refine tk 12 ?_
   refine tk 13 ?_
   refine wpAnyH_ready (rs:=[14,15]) (by kernel_rfl) (by simp) ?_
   refine rdc (fun K hK=>?_) ?_
   .go_simp
    have hb:Below wc.heap.size wc (wc.alloc (.cells rt0 71)):=(Below.refl _ _).alloc (Nat.le_refl _) _
    have hz:Blk (wc.alloc (.cells rt0 71)) wc.heap.size 71 rt0:=rt_blk0 wc
    obtain ⟨ub0,hu⟩:∃ u,wc.alloc (.cells rt0 71)=u:=⟨_,rfl⟩
    rw [hu] at hb hz
    unfold rt0 at hu
    rw [hu]
    clear hu
    obtain ⟨b0,hb0⟩:∃ b,wc.heap.size=b:=⟨_,rfl⟩
    have HBB0:=hid hb0
    rw [hb0] at hz ⊢
    have H0:=hid hz
    have HL0:Hid (w1.heap.size<=b0):=hid (by rw [<-hb0];exact HYC.out.size)
    have HYA0:Hid (Below w1.heap.size w1 ub0):=hid (HYC.out.trans (hb.mono HYC.out.size))
    have HO0:Hid (b0<wd.heap.size\/wc.heap.size<=b0):=hid (.inr (by rw [<-hb0];exact HHI.out))
    have HHI:Hid (wc.heap.size<=ub0.heap.size):=hid (Nat.le_trans HHI.out hb.size)
    have HCA:=hid (HCA.out.below hb)
    clear hb hz hb0
    refine bk hK (HS.out _ HYA0.out) fun hHeld=>?_
    clear hK K
    refine wpAnyH_ready (rs:=[15]) (by kernel_rfl) (by simp) ?_
    refine rdc (fun K hK=>?_) ?_
    .go_simp
     have hb:Below ub0.heap.size ub0 (ub0.alloc (.cells sub0 39)):=(Below.refl _ _).alloc (Nat.le_refl _) _
     have hz:Blk (ub0.alloc (.cells sub0 39)) ub0.heap.size 39 sub0:=sub_blk0 ub0
     obtain ⟨ub1,hu⟩:∃ u,ub0.alloc (.cells sub0 39)=u:=⟨_,rfl⟩
     rw [hu] at hb hz
     unfold sub0 at hu
     rw [hu]
     clear hu
     obtain ⟨b1,hb1⟩:∃ b,ub0.heap.size=b:=⟨_,rfl⟩
     have HBB1:=hid hb1
     rw [hb1] at hz ⊢
     have H1:=hid hz
     have HL1:Hid (w1.heap.size<=b1):=hid (by rw [<-hb1];exact HYA0.out.size)
     have HYA1:Hid (Below w1.heap.size w1 ub1):=hid (HYA0.out.trans (hb.mono HYA0.out.size))
     have HNE:Hid (b0≠b1):=hid (by have h9:=H0.out.lt;rw [hb1] at h9;omega)
     have H0:=hid (H0.out.fr (Fr.of_below (F:=fun _=>False) hb) (fun e=>e))
     have HO1:Hid (b1<wd.heap.size\/wc.heap.size<=b1):=hid (.inr (by rw [<-hb1];exact HHI.out))
     have HHI:Hid (wc.heap.size<=ub1.heap.size):=hid (Nat.le_trans HHI.out hb.size)
     have HCA:=hid (HCA.out.below hb)
     clear hb hz hb1
     refine bk hK (HS.out _ HYA1.out) fun hHeld=>?_
     clear hK K
     refine rd1 16 fun K hK=>?_
     refine stg 71 (.tmp 14) (.tmp 89) (b0) (rtV c last' v5) (H0.out) (rtV_one HO5.out) ?_
     intro ua hkz hf
     have HF_ua:=hid hf
     have HK_ua:=hid hkz
     clear hf hkz
     have HYU:Hid (Below w1.heap.size w1 ua):=hid (HYA1.out.trans (HF_ua.out.to_below HYA1.out.size (fun k e=>by have:=HL0.out;omega)))
     have HCB:=hid (HCA.out.put HF_ua.out H0.out (by decide) (by decide) (by have:=HL0.out;have:=HZ1.out.tab.lt;intro e;have:=this _ e;omega) HO0.out (by have:=HL0.out;have:=HZ1.out.hBW;omega))
     have H1:=hid (H1.out.fr HF_ua.out (fun e=>HNE.out e.symm))
     refine bk hK (HS.out _ HYU.out) fun hHeld=>?_
     clear hK K
     refine rd1 17 fun K hK=>?_
     refine stg 39 (.tmp 15) (.tmp 90) (b1) (subA (agaS c L' a.now a.num a.r).sub sv) (H1.out) (subA_one HCA.out.s.ev.one HCA.out.s.d.one) ?_
     intro uv hkz hf
     have HF_uv:=hid hf
     have HK_uv:=hid hkz
     clear hf hkz
     have HYV:Hid (Below w1.heap.size w1 uv):=hid (HYU.out.trans (HF_uv.out.to_below HYU.out.size (fun k e=>by have:=HL1.out;omega)))
     have HCD:=hid (HCB.out.put HF_uv.out H1.out (by decide) (by decide) (by have:=HL1.out;have:=HZ1.out.tab.lt;intro e;have:=this _ e;omega) HO1.out (by have:=HL1.out;have:=HZ1.out.hBW;omega))
     refine bk hK (HS.out _ HYV.out) fun hHeld=>?_
     clear hK K
     refine tk 18 ?_
     refine dn9 (NoPanic.normal ?_)
     clear hHeld
     go_wp2_with fail
     go_meet
     exact ⟨b0,b1,v5,sv,rfl,rfl,rfl,HK_ua.out.fr HF_uv.out (fun e=>HNE.out e),HK_uv.out,HL0.out,HL1.out,HCD.out.r.mono (fun k hk q=>q.imp id (fun q=>⟨by have:=HLO.out;omega,hk⟩)),HCD.out.s,HYV.out⟩
    exact AllReadyH.nil
   refine rdc (fun K hK=>?_) ?_
   .go_simp
    have hb:Below wc.heap.size wc (wc.alloc (.cells sub0 39)):=(Below.refl _ _).alloc (Nat.le_refl _) _
    have hz:Blk (wc.alloc (.cells sub0 39)) wc.heap.size 39 sub0:=sub_blk0 wc
    obtain ⟨ub1,hu⟩:∃ u,wc.alloc (.cells sub0 39)=u:=⟨_,rfl⟩
    rw [hu] at hb hz
    unfold sub0 at hu
    rw [hu]
    clear hu
    obtain ⟨b1,hb1⟩:∃ b,wc.heap.size=b:=⟨_,rfl⟩
    have HBB1:=hid hb1
    rw [hb1] at hz ⊢
    have H1:=hid hz
    have HL1:Hid (w1.heap.size<=b1):=hid (by rw [<-hb1];exact HYC.out.size)
    have HYA1:Hid (Below w1.heap.size w1 ub1):=hid (HYC.out.trans (hb.mono HYC.out.size))
    have HO1:Hid (b1<wd.heap.size\/wc.heap.size<=b1):=hid (.inr (by rw [<-hb1];exact HHI.out))
    have HHI:Hid (wc.heap.size<=ub1.heap.size):=hid (Nat.le_trans HHI.out hb.size)
    have HCA:=hid (HCA.out.below hb)
    clear hb hz hb1
    refine bk hK (HS.out _ HYA1.out) fun hHeld=>?_
    clear hK K
    refine wpAnyH_ready (rs:=[14]) (by kernel_rfl) (by simp) ?_
    refine rdc (fun K hK=>?_) ?_
    .go_simp
     have hb:Below ub1.heap.size ub1 (ub1.alloc (.cells rt0 71)):=(Below.refl _ _).alloc (Nat.le_refl _) _
     have hz:Blk (ub1.alloc (.cells rt0 71)) ub1.heap.size 71 rt0:=rt_blk0 ub1
     obtain ⟨ub0,hu⟩:∃ u,ub1.alloc (.cells rt0 71)=u:=⟨_,rfl⟩
     rw [hu] at hb hz
     unfold rt0 at hu
     rw [hu]
     clear hu
     obtain ⟨b0,hb0⟩:∃ b,ub1.heap.size=b:=⟨_,rfl⟩
     have HBB0:=hid hb0
     rw [hb0] at hz ⊢
     have H0:=hid hz
     have HL0:Hid (w1.heap.size<=b0):=hid (by rw [<-hb0];exact HYA1.out.size)
     have HYA0:Hid (Below w1.heap.size w1 ub0):=hid (HYA1.out.trans (hb.mono HYA1.out.size))
     have HNE:Hid (b0≠b1):=hid (by have h9:=H1.out.lt;rw [hb0] at h9;omega)
     have H1:=hid (H1.out.fr (Fr.of_below (F:=fun _=>False) hb) (fun e=>e))
     have HO0:Hid (b0<wd.heap.size\/wc.heap.size<=b0):=hid (.inr (by rw [<-hb0];exact HHI.out))
     have HHI:Hid (wc.heap.size<=ub0.heap.size):=hid (Nat.le_trans HHI.out hb.size)
     have HCA:=hid (HCA.out.below hb)
     clear hb hz hb0
     refine bk hK (HS.out _ HYA0.out) fun hHeld=>?_
     clear hK K
     refine rd1 16 fun K hK=>?_
     refine stg 71 (.tmp 14) (.tmp 89) (b0) (rtV c last' v5) (H0.out) (rtV_one HO5.out) ?_
     intro ua hkz hf
     have HF_ua:=hid hf
     have HK_ua:=hid hkz
     clear hf hkz
     have HYU:Hid (Below w1.heap.size w1 ua):=hid (HYA0.out.trans (HF_ua.out.to_below HYA0.out.size (fun k e=>by have:=HL0.out;omega)))
     have HCB:=hid (HCA.out.put HF_ua.out H0.out (by decide) (by decide) (by have:=HL0.out;have:=HZ1.out.tab.lt;intro e;have:=this _ e;omega) HO0.out (by have:=HL0.out;have:=HZ1.out.hBW;omega))
     have H1:=hid (H1.out.fr HF_ua.out (fun e=>HNE.out e.symm))
     refine bk hK (HS.out _ HYU.out) fun hHeld=>?_
     clear hK K
     refine rd1 17 fun K hK=>?_
     refine stg 39 (.tmp 15) (.tmp 90) (b1) (subA (agaS c L' a.now a.num a.r).sub sv) (H1.out) (subA_one HCA.out.s.ev.one HCA.out.s.d.one) ?_
     intro uv hkz hf
     have HF_uv:=hid hf
     have HK_uv:=hid hkz
     clear hf hkz
     have HYV:Hid (Below w1.heap.size w1 uv):=hid (HYU.out.trans (HF_uv.out.to_below HYU.out.size (fun k e=>by have:=HL1.out;omega)))
     have HCD:=hid (HCB.out.put HF_uv.out H1.out (by decide) (by decide) (by have:=HL1.out;have:=HZ1.out.tab.lt;intro e;have:=this _ e;omega) HO1.out (by have:=HL1.out;have:=HZ1.out.hBW;omega))
     refine bk hK (HS.out _ HYV.out) fun hHeld=>?_
     clear hK K
     refine tk 18 ?_
     refine dn9 (NoPanic.normal ?_)
     clear hHeld
     go_wp2_with fail
     go_meet
     exact ⟨b0,b1,v5,sv,rfl,rfl,rfl,HK_ua.out.fr HF_uv.out (fun e=>HNE.out e),HK_uv.out,HL0.out,HL1.out,HCD.out.r.mono (fun k hk q=>q.imp id (fun q=>⟨by have:=HLO.out;omega,hk⟩)),HCD.out.s,HYV.out⟩
    exact AllReadyH.nil
   exact AllReadyH.nil
  refine rdc (fun K hK=>?_) ?_
  .go_simp
   have hb:Below wd.heap.size wd (wd.alloc (.cells rt0 71)):=(Below.refl _ _).alloc (Nat.le_refl _) _
   have hz:Blk (wd.alloc (.cells rt0 71)) wd.heap.size 71 rt0:=rt_blk0 wd
   obtain ⟨ub0,hu⟩:∃ u,wd.alloc (.cells rt0 71)=u:=⟨_,rfl⟩
   rw [hu] at hb hz
   unfold rt0 at hu
   rw [hu]
   clear hu
   obtain ⟨b0,hb0⟩:∃ b,wd.heap.size=b:=⟨_,rfl⟩
   have HBB0:=hid hb0
   rw [hb0] at hz ⊢
   have H0:=hid hz
   have HL0:Hid (w1.heap.size<=b0):=hid (by rw [<-hb0];exact HW1.out.size)
   have HYA0:Hid (Below w1.heap.size w1 ub0):=hid (HW1.out.trans (hb.mono HW1.out.size))
   clear hb hz hb0
   refine bk hK (HS.out _ HYA0.out) fun hHeld=>?_
   clear hK K
   refine wpAnyH_ready (rs:=[9,15]) (by kernel_rfl) (by simp) ?_
   refine rdc (fun K hK=>?_) ?_
   .go_simp
    refine (HC.out _ HYA0.out).mono ?_
    rintro e wc ⟨v5,sv,rfl,hr,hs,hb⟩
    have HYC:Hid (Below w1.heap.size w1 wc):=hid (HYA0.out.trans (hb.mono HYA0.out.size))
    have HCA:Hid (Cal (XUp X w w1) ub0.heap.size wc.heap.size B (agaS c L' a.now a.num a.r).L v5 (agaS c L' a.now a.num a.r).sub sv wc):=hid (Cal.of hr hs (HZ1.out.below HYA0.out).hBW hb)
    have HLO:Hid (w1.heap.size<=ub0.heap.size/\ub0.heap.size<=wc.heap.size):=hid ⟨HYA0.out.size,hb.size⟩
    have HHI:Hid (wc.heap.size<=wc.heap.size):=hid (Nat.le_refl _)
    have HO5:Hid (v5.oneCell'=true):=hid hr.one
    have HO0:Hid (b0<ub0.heap.size\/wc.heap.size<=b0):=hid (.inl H0.out.lt)
    have H0:=hid (H0.out.fr (Fr.of_below (F:=fun _=>False) hb) (fun e=>e))
    clear hr hb hs
    go_wp2_with fail
    refine bk hK (HS.out _ HYC.out) fun hHeld=>?_
    clear hK K
    refine tk 10 ?_
    refine tk 11 ?_
    refine tk 12 ?_
    refine tk 13 ?_
    refine wpAnyH_ready (rs:=[15]) (by kernel_rfl) (by simp) ?_
    refine rdc (fun K hK=>?_) ?_
    .go_simp
     have hb:Below wc.heap.size wc (wc.alloc (.cells sub0 39)):=(Below.refl _ _).alloc (Nat.le_refl _) _
     have hz:Blk (wc.alloc (.cells sub0 39)) wc.heap.size 39 sub0:=sub_blk0 wc
     obtain ⟨ub1,hu⟩:∃ u,wc.alloc (.cells sub0 39)=u:=⟨_,rfl⟩
     rw [hu] at hb hz
     unfold sub0 at hu
     rw [hu]
     clear hu
     obtain ⟨b1,hb1⟩:∃ b,wc.heap.size=b:=⟨_,rfl⟩
     have HBB1:=hid hb1
     rw [hb1] at hz ⊢
     have H1:=hid hz
     have HL1:Hid (w1.heap.size<=b1):=hid (by rw [<-hb1];exact HYC.out.size)
     have HYA1:Hid (Below w1.heap.size w1 ub1):=hid (HYC.out.trans (hb.mono HYC.out.size))
     have HNE:Hid (b0≠b1):=hid (by have h9:=H0.out.lt;rw [hb1] at h9;omega)
     have H0:=hid (H0.out.fr (Fr.of_below (F:=fun _=>False) hb) (fun e=>e))
     have HO1:Hid (b1<ub0.heap.size\/wc.heap.size<=b1):=hid (.inr (by rw [<-hb1];exact HHI.out))
     have HHI:Hid (wc.heap.size<=ub1.heap.size):=hid (Nat.le_trans HHI.out hb.size)
     have HCA:=hid (HCA.out.below hb)
     clear hb hz hb1
     refine bk hK (HS.out _ HYA1.out) fun hHeld=>?_
     clear hK K
     refine rd1 16 fun K hK=>?_
     refine stg 71 (.tmp 14) (.tmp 89) (b0) (rtV c last' v5) (H0.out) (rtV_one HO5.out) ?_
     intro ua hkz hf
     have HF_ua:=hid hf
     have HK_ua:=hid hkz
     clear hf hkz
     have HYU:Hid (Below w1.heap.size w1 ua):=hid (HYA1.out.trans (HF_ua.out.to_below HYA1.out.size (fun k e=>by have:=HL0.out;omega)))
     have HCB:=hid (HCA.out.put HF_ua.out H0.out (by decide) (by decide) (by have:=HL0.out;have:=HZ1.out.tab.lt;intro e;have:=this _ e;omega) HO0.out (by have:=HL0.out;have:=HZ1.out.hBW;omega))
     have H1:=hid (H1.out.fr HF_ua.out (fun e=>HNE.out e.symm))
     refine bk hK (HS.out _ HYU.out) fun hHeld=>?_
     clear hK K
     refine rd1 17 fun K hK=>?_
     refine stg 39 (.tmp 15) (.tmp 90) (b1) (subA (agaS c L' a.now a.num a.r).sub sv) (H1.out) (subA_one HCA.out.s.ev.one HCA.out.s.d.one) ?_
     intro uv hkz hf
     have HF_uv:=hid hf
     have HK_uv:=hid hkz
     clear hf hkz
     have HYV:Hid (Below w1.heap.size w1 uv):=hid (HYU.out.trans (HF_uv.out.to_below HYU.out.size (fun k e=>by have:=HL1.out;omega)))
     have HCD:=hid (HCB.out.put HF_uv.out H1.out (by decide) (by decide) (by have:=HL1.out;have:=HZ1.out.tab.lt;intro e;have:=this _ e;omega) HO1.out (by have:=HL1.out;have:=HZ1.out.hBW;omega))
     refine bk hK (HS.out _ HYV.out) fun hHeld=>?_
     clear hK K
     refine tk 18 ?_
     refine dn9 (NoPanic.normal ?_)
     clear hHeld
     go_wp2_with fail
     go_meet
     exact ⟨b0,b1,v5,sv,rfl,rfl,rfl,HK_ua.out.fr HF_uv.out (fun e=>HNE.out e),HK_uv.out,HL0.out,HL1.out,HCD.out.r.mono (fun k hk q=>q.imp id (fun q=>⟨by have:=HLO.out;omega,hk⟩)),HCD.out.s,HYV.out⟩
    exact AllReadyH.nil
   refine rdc (fun K hK=>?_) ?_
   .go_simp
    have hb:Below ub0.heap.size ub0 (ub0.alloc (.cells sub0 39)):=(Below.refl _ _).alloc (Nat.le_refl _) _
    have hz:Blk (ub0.alloc (.cells sub0 39)) ub0.heap.size 39 sub0:=sub_blk0 ub0
    obtain ⟨ub1,hu⟩:∃ u,ub0.alloc (.cells sub0 39)=u:=⟨_,rfl⟩
    rw [hu] at hb hz
    unfold sub0 at hu
    rw [hu]
    clear hu
    obtain ⟨b1,hb1⟩:∃ b,ub0.heap.size=b:=⟨_,rfl⟩
    have HBB1:=hid hb1
    rw [hb1] at hz ⊢
    have H1:=hid hz
    have HL1:Hid (w1.heap.size<=b1):=hid (by rw [<-hb1];exact HYA0.out.size)
    have HYA1:Hid (Below w1.heap.size w1 ub1):=hid (HYA0.out.trans (hb.mono HYA0.out.size))
    have HNE:Hid (b0≠b1):=hid (by have h9:=H0.out.lt;rw [hb1] at h9;omega)
    have H0:=hid (H0.out.fr (Fr.of_below (F:=fun _=>False) hb) (fun e=>e))
    clear hb hz hb1
    refine bk hK (HS.out _ HYA1.out) fun hHeld=>?_
    clear hK K
    refine wpAnyH_ready (rs:=[9]) (by kernel_rfl) (by simp) ?_
    refine rdc (fun K hK=>?_) ?_
    .go_simp
     refine (HC.out _ HYA1.out).mono ?_
     rintro e wc ⟨v5,sv,rfl,hr,hs,hb⟩
     have HYC:Hid (Below w1.heap.size w1 wc):=hid (HYA1.out.trans (hb.mono HYA1.out.size))
     have HCA:Hid (Cal (XUp X w w1) ub1.heap.size wc.heap.size B (agaS c L' a.now a.num a.r).L v5 (agaS c L' a.now a.num a.r).sub sv wc):=hid (Cal.of hr hs (HZ1.out.below HYA1.out).hBW hb)
     have HLO:Hid (w1.heap.size<=ub1.heap.size/\ub1.heap.size<=wc.heap.size):=hid ⟨HYA1.out.size,hb.size⟩
     have HHI:Hid (wc.heap.size<=wc.heap.size):=hid (Nat.le_refl _)
     have HO5:Hid (v5.oneCell'=true):=hid hr.one
     have HO0:Hid (b0<ub1.heap.size\/wc.heap.size<=b0):=hid (.inl H0.out.lt)
     have H0:=hid (H0.out.fr (Fr.of_below (F:=fun _=>False) hb) (fun e=>e))
     have HO1:Hid (b1<ub1.heap.size\/wc.heap.size<=b1):=hid (.inl H1.out.lt)
     have H1:=hid (H1.out.fr (Fr.of_below (F:=fun _=>False) hb) (fun e=>e))
     clear hr hb hs
     go_wp2_with fail
     refine bk hK (HS.out _ HYC.out) fun hHeld=>?_
     clear hK K
     refine tk 10 ?_
     refine tk 11 ?_
     refine tk 12 ?_
     refine tk 13 ?_
     refine rd1 16 fun K hK=>?_
     refine stg 71 (.tmp 14) (.tmp 89) (b0) (rtV c last' v5) (H0.out) (rtV_one HO5.out) ?_
     intro ua hkz hf
     have HF_ua:=hid hf
     have HK_ua:=hid hkz
     clear hf hkz
     have HYU:Hid (Below w1.heap.size w1 ua):=hid (HYC.out.trans (HF_ua.out.to_below HYC.out.size (fun k e=>by have:=HL0.out;omega)))
     have HCB:=hid (HCA.out.put HF_ua.out H0.out (by decide) (by decide) (by have:=HL0.out;have:=HZ1.out.tab.lt;intro e;have:=this _ e;omega) HO0.out (by have:=HL0.out;have:=HZ1.out.hBW;omega))
     have H1:=hid (H1.out.fr HF_ua.out (fun e=>HNE.out e.symm))
     refine bk hK (HS.out _ HYU.out) fun hHeld=>?_
     clear hK K
     refine rd1 17 fun K hK=>?_
     refine stg 39 (.tmp 15) (.tmp 90) (b1) (subA (agaS c L' a.now a.num a.r).sub sv) (H1.out) (subA_one HCA.out.s.ev.one HCA.out.s.d.one) ?_
     intro uv hkz hf
     have HF_uv:=hid hf
     have HK_uv:=hid hkz
     clear hf hkz
     have HYV:Hid (Below w1.heap.size w1 uv):=hid (HYU.out.trans (HF_uv.out.to_below HYU.out.size (fun k e=>by have:=HL1.out;omega)))
     have HCD:=hid (HCB.out.put HF_uv.out H1.out (by decide) (by decide) (by have:=HL1.out;have:=HZ1.out.tab.lt;intro e;have:=this _ e;omega) HO1.out (by have:=HL1.out;have:=HZ1.out.hBW;omega))
     refine bk hK (HS.out _ HYV.out) fun hHeld=>?_
     clear hK K
     refine tk 18 ?_
     refine dn9 (NoPanic.normal ?_)
     clear hHeld
     go_wp2_with fail
     go_meet
     exact ⟨b0,b1,v5,sv,rfl,rfl,rfl,HK_ua.out.fr HF_uv.out (fun e=>HNE.out e),HK_uv.out,HL0.out,HL1.out,HCD.out.r.mono (fun k hk q=>q.imp id (fun q=>⟨by have:=HLO.out;omega,hk⟩)),HCD.out.s,HYV.out⟩
    exact AllReadyH.nil
   exact AllReadyH.nil
  refine rdc (fun K hK=>?_) ?_
  .go_simp
   have hb:Below wd.heap.size wd (wd.alloc (.cells sub0 39)):=(Below.refl _ _).alloc (Nat.le_refl _) _
   have hz:Blk (wd.alloc (.cells sub0 39)) wd.heap.size 39 sub0:=sub_blk0 wd
   obtain ⟨ub1,hu⟩:∃ u,wd.alloc (.cells sub0 39)=u:=⟨_,rfl⟩
   rw [hu] at hb hz
   unfold sub0 at hu
   rw [hu]
   clear hu
   obtain ⟨b1,hb1⟩:∃ b,wd.heap.size=b:=⟨_,rfl⟩
   have HBB1:=hid hb1
   rw [hb1] at hz ⊢
   have H1:=hid hz
   have HL1:Hid (w1.heap.size<=b1):=hid (by rw [<-hb1];exact HW1.out.size)
   have HYA1:Hid (Below w1.heap.size w1 ub1):=hid (HW1.out.trans (hb.mono HW1.out.size))
   clear hb hz hb1
   refine bk hK (HS.out _ HYA1.out) fun hHeld=>?_
   clear hK K
   refine wpAnyH_ready (rs:=[9,14]) (by kernel_rfl) (by simp) ?_
   refine rdc (fun K hK=>?_) ?_
   .go_simp
    refine (HC.out _ HYA1.out).mono ?_
    rintro e wc ⟨v5,sv,rfl,hr,hs,hb⟩
    have HYC:Hid (Below w1.heap.size w1 wc):=hid (HYA1.out.trans (hb.mono HYA1.out.size))
    have HCA:Hid (Cal (XUp X w w1) ub1.heap.size wc.heap.size B (agaS c L' a.now a.num a.r).L v5 (agaS c L' a.now a.num a.r).sub sv wc):=hid (Cal.of hr hs (HZ1.out.below HYA1.out).hBW hb)
    have HLO:Hid (w1.heap.size<=ub1.heap.size/\ub1.heap.size<=wc.heap.size):=hid ⟨HYA1.out.size,hb.size⟩
    have HHI:Hid (wc.heap.size<=wc.heap.size):=hid (Nat.le_refl _)
    have HO5:Hid (v5.oneCell'=true):=hid hr.one
    have HO1:Hid (b1<ub1.heap.size\/wc.heap.size<=b1):=hid (.inl H1.out.lt)
    have H1:=hid (H1.out.fr (Fr.of_below (F:=fun _=>False) hb) (fun e=>e))
    clear hr hb hs
    go_wp2_with fail
    refine bk hK (HS.out _ HYC.out) fun hHeld=>?_
    clear hK K
    refine tk 10 ?_
    refine tk 11 ?_
    refine tk 12 ?_
    refine tk 13 ?_
    refine wpAnyH_ready (rs:=[14]) (by kernel_rfl) (by simp) ?_
    refine rdc (fun K hK=>?_) ?_
    .go_simp
     have hb:Below wc.heap.size wc (wc.alloc (.cells rt0 71)):=(Below.refl _ _).alloc (Nat.le_refl _) _
     have hz:Blk (wc.alloc (.cells rt0 71)) wc.heap.size 71 rt0:=rt_blk0 wc
     obtain ⟨ub0,hu⟩:∃ u,wc.alloc (.cells rt0 71)=u:=⟨_,rfl⟩
     rw [hu] at hb hz
     unfold rt0 at hu
     rw [hu]
     clear hu
     obtain ⟨b0,hb0⟩:∃ b,wc.heap.size=b:=⟨_,rfl⟩
     have HBB0:=hid hb0
     rw [hb0] at hz ⊢
     have H0:=hid hz
     have HL0:Hid (w1.heap.size<=b0):=hid (by rw [<-hb0];exact HYC.out.size)
     have HYA0:Hid (Below w1.heap.size w1 ub0):=hid (HYC.out.trans (hb.mono HYC.out.size))
     have HNE:Hid (b0≠b1):=hid (by have h9:=H1.out.lt;rw [hb0] at h9;omega)
     have H1:=hid (H1.out.fr (Fr.of_below (F:=fun _=>False) hb) (fun e=>e))
     have HO0:Hid (b0<ub1.heap.size\/wc.heap.size<=b0):=hid (.inr (by rw [<-hb0];exact HHI.out))
     have HHI:Hid (wc.heap.size<=ub0.heap.size):=hid (Nat.le_trans HHI.out hb.size)
     have HCA:=hid (HCA.out.below hb)
     clear hb hz hb0
     refine bk hK (HS.out _ HYA0.out) fun hHeld=>?_
     clear hK K
     refine rd1 16 fun K hK=>?_
     refine stg 71 (.tmp 14) (.tmp 89) (b0) (rtV c last' v5) (H0.out) (rtV_one HO5.out) ?_
     intro ua hkz hf
     have HF_ua:=hid hf
     have HK_ua:=hid hkz
     clear hf hkz
     have HYU:Hid (Below w1.heap.size w1 ua):=hid (HYA0.out.trans (HF_ua.out.to_below HYA0.out.size (fun k e=>by have:=HL0.out;omega)))
     have HCB:=hid (HCA.out.put HF_ua.out H0.out (by decide) (by decide) (by have:=HL0.out;have:=HZ1.out.tab.lt;intro e;have:=this _ e;omega) HO0.out (by have:=HL0.out;have:=HZ1.out.hBW;omega))
     have H1:=hid (H1.out.fr HF_ua.out (fun e=>HNE.out e.symm))
     refine bk hK (HS.out _ HYU.out) fun hHeld=>?_
     clear hK K
     refine rd1 17 fun K hK=>?_
     refine stg 39 (.tmp 15) (.tmp 90) (b1) (subA (agaS c L' a.now a.num a.r).sub sv) (H1.out) (subA_one HCA.out.s.ev.one HCA.out.s.d.one) ?_
     intro uv hkz hf
     have HF_uv:=hid hf
     have HK_uv:=hid hkz
     clear hf hkz
     have HYV:Hid (Below w1.heap.size w1 uv):=hid (HYU.out.trans (HF_uv.out.to_below HYU.out.size (fun k e=>by have:=HL1.out;omega)))
     have HCD:=hid (HCB.out.put HF_uv.out H1.out (by decide) (by decide) (by have:=HL1.out;have:=HZ1.out.tab.lt;intro e;have:=this _ e;omega) HO1.out (by have:=HL1.out;have:=HZ1.out.hBW;omega))
     refine bk hK (HS.out _ HYV.out) fun hHeld=>?_
     clear hK K
     refine tk 18 ?_
     refine dn9 (NoPanic.normal ?_)
     clear hHeld
     go_wp2_with fail
     go_meet
     exact ⟨b0,b1,v5,sv,rfl,rfl,rfl,HK_ua.out.fr HF_uv.out (fun e=>HNE.out e),HK_uv.out,HL0.out,HL1.out,HCD.out.r.mono (fun k hk q=>q.imp id (fun q=>⟨by have:=HLO.out;omega,hk⟩)),HCD.out.s,HYV.out⟩
    exact AllReadyH.nil
   refine rdc (fun K hK=>?_) ?_
   .go_simp
    have hb:Below ub1.heap.size ub1 (ub1.alloc (.cells rt0 71)):=(Below.refl _ _).alloc (Nat.le_refl _) _
    have hz:Blk (ub1.alloc (.cells rt0 71)) ub1.heap.size 71 rt0:=rt_blk0 ub1
    obtain ⟨ub0,hu⟩:∃ u,ub1.alloc (.cells rt0 71)=u:=⟨_,rfl⟩
    rw [hu] at hb hz
    unfold rt0 at hu
    rw [hu]
    clear hu
    obtain ⟨b0,hb0⟩:∃ b,ub1.heap.size=b:=⟨_,rfl⟩
    have HBB0:=hid hb0
    rw [hb0] at hz ⊢
    have H0:=hid hz
    have HL0:Hid (w1.heap.size<=b0):=hid (by rw [<-hb0];exact HYA1.out.size)
    have HYA0:Hid (Below w1.heap.size w1 ub0):=hid (HYA1.out.trans (hb.mono HYA1.out.size))
    have HNE:Hid (b0≠b1):=hid (by have h9:=H1.out.lt;rw [hb0] at h9;omega)
    have H1:=hid (H1.out.fr (Fr.of_below (F:=fun _=>False) hb) (fun e=>e))
    clear hb hz hb0
    refine bk hK (HS.out _ HYA0.out) fun hHeld=>?_
    clear hK K
    refine wpAnyH_ready (rs:=[9]) (by kernel_rfl) (by simp) ?_
    refine rdc (fun K hK=>?_) ?_
    .go_simp
     refine (HC.out _ HYA0.out).mono ?_
     rintro e wc ⟨v5,sv,rfl,hr,hs,hb⟩
     have HYC:Hid (Below w1.heap.size w1 wc):=hid (HYA0.out.trans (hb.mono HYA0.out.size))
     have HCA:Hid (Cal (XUp X w w1) ub0.heap.size wc.heap.size B (agaS c L' a.now a.num a.r).L v5 (agaS c L' a.now a.num a.r).sub sv wc):=hid (Cal.of hr hs (HZ1.out.below HYA0.out).hBW hb)
     have HLO:Hid (w1.heap.size<=ub0.heap.size/\ub0.heap.size<=wc.heap.size):=hid ⟨HYA0.out.size,hb.size⟩
     have HHI:Hid (wc.heap.size<=wc.heap.size):=hid (Nat.le_refl _)
     have HO5:Hid (v5.oneCell'=true):=hid hr.one
     have HO1:Hid (b1<ub0.heap.size\/wc.heap.size<=b1):=hid (.inl H1.out.lt)
     have H1:=hid (H1.out.fr (Fr.of_below (F:=fun _=>False) hb) (fun e=>e))
     have HO0:Hid (b0<ub0.heap.size\/wc.heap.size<=b0):=hid (.inl H0.out.lt)
     have H0:=hid (H0.out.fr (Fr.of_below (F:=fun _=>False) hb) (fun e=>e))
     clear hr hb hs
     go_wp2_with fail
     refine bk hK (HS.out _ HYC.out) fun hHeld=>?_
     clear hK K
     refine tk 10 ?_
     refine tk 11 ?_
     refine tk 12 ?_
     refine tk 13 ?_
     refine rd1 16 fun K hK=>?_
     refine stg 71 (.tmp 14) (.tmp 89) (b0) (rtV c last' v5) (H0.out) (rtV_one HO5.out) ?_
     intro ua hkz hf
     have HF_ua:=hid hf
     have HK_ua:=hid hkz
     clear hf hkz
     have HYU:Hid (Below w1.heap.size w1 ua):=hid (HYC.out.trans (HF_ua.out.to_below HYC.out.size (fun k e=>by have:=HL0.out;omega)))
     have HCB:=hid (HCA.out.put HF_ua.out H0.out (by decide) (by decide) (by have:=HL0.out;have:=HZ1.out.tab.lt;intro e;have:=this _ e;omega) HO0.out (by have:=HL0.out;have:=HZ1.out.hBW;omega))
     have H1:=hid (H1.out.fr HF_ua.out (fun e=>HNE.out e.symm))
     refine bk hK (HS.out _ HYU.out) fun hHeld=>?_
     clear hK K
     refine rd1 17 fun K hK=>?_
     refine stg 39 (.tmp 15) (.tmp 90) (b1) (subA (agaS c L' a.now a.num a.r).sub sv) (H1.out) (subA_one HCA.out.s.ev.one HCA.out.s.d.one) ?_
     intro uv hkz hf
     have HF_uv:=hid hf
     have HK_uv:=hid hkz
     clear hf hkz
     have HYV:Hid (Below w1.heap.size w1 uv):=hid (HYU.out.trans (HF_uv.out.to_below HYU.out.size (fun k e=>by have:=HL1.out;omega)))
     have HCD:=hid (HCB.out.put HF_uv.out H1.out (by decide) (by decide) (by have:=HL1.out;have:=HZ1.out.tab.lt;intro e;have:=this _ e;omega) HO1.out (by have:=HL1.out;have:=HZ1.out.hBW;omega))
     refine bk hK (HS.out _ HYV.out) fun hHeld=>?_
     clear hK K
     refine tk 18 ?_
     refine dn9 (NoPanic.normal ?_)
     clear hHeld
     go_wp2_with fail
     go_meet
     exact ⟨b0,b1,v5,sv,rfl,rfl,rfl,HK_ua.out.fr HF_uv.out (fun e=>HNE.out e),HK_uv.out,HL0.out,HL1.out,HCD.out.r.mono (fun k hk q=>q.imp id (fun q=>⟨by have:=HLO.out;omega,hk⟩)),HCD.out.s,HYV.out⟩
    exact AllReadyH.nil
   exact AllReadyH.nil
  exact AllReadyH.nil
 case rest =>
  obtain ⟨wx,rfl⟩:∃ wx,wx=wc:=⟨_,rfl⟩
  obtain ⟨b9,b10,v5,sv,rfl,rfl,rfl,h9,h10,l9,l10,hr,hs,hb⟩:=hcut
  have HO5:Hid (v5.oneCell'=true):=hid hr.one
  have HZ2:=hid ((HZ1.out.up hb).ref9 hr)
  have x9:XUp (XUp X w w1) w1 wx b9:=.inr ⟨l9,h9.lt⟩
  have X9:=hid x9
  have H9:=hid h9
  have X10:Hid (XUp (XUp X w w1) w1 wx b10):=hid (.inr ⟨l10,h10.lt⟩)
  have H10:=hid h10
  have HSW:=hid hs
  have hgb:w0.heap.size≠b9:=by have:=HZ1.out.t.lt;omega
  have HGB:=hid hgb
  have HG10:Hid (w0.heap.size≠b10):=hid (by have:=HZ1.out.t.lt;omega)
  clear HS HC h9 l9 hr hb x9 hgb h10 l10 hs
  generalize XUp (XUp X w w1) w1 wx=X2 at *
  have p1:wx.cell? ⟨w.heap.size,1,none⟩=some (.int .i64 a.now):=HZ2.out.act.cell 1
  have p2:wx.cell? ⟨w.heap.size,2,none⟩=some (.int .i64 a.num):=HZ2.out.act.cell 2
  have HREAL:Hid (Calls Tryz.prog 14 #[.pointer (some ⟨p,0,none⟩),.int .i64 a.now,.int .i64 a.num,.agg (reqA a.r q)] wx (SubX X2 p c last (agaS c L a.now a.num a.r) wx)):=hid (again_x HZ2.out.tab HZ2.out.hBW (HH.out.rq.below HZ2.out.bw) HH.out.rz)
  unfold SubX at HREAL
  have HCOND:Hid (last'=last->L'=L->agaS c L' a.now a.num a.r=agaS c L a.now a.num a.r):=hid (fun h1 h2=>by rw [h2])
  have HZA:Hid (SubZ (agaS c L' a.now a.num a.r).sub/\SubZ (agaS c L a.now a.num a.r).sub):=hid ⟨aga_sub_z HH.out.rz HH.out.zL,aga_sub_z HH.out.rz HZR.out⟩
  obtain ⟨R,hR⟩:∃ R,agaS c L' a.now a.num a.r=R:=⟨_,rfl⟩
  obtain ⟨S,hS⟩:∃ S,agaS c L a.now a.num a.r=S:=⟨_,rfl⟩
  rw [hR] at HCOND HZA HZ2 H10 HSW
  try rw [hR] at H9
  rw [hS] at HCOND HZA HREAL
  try rw [hR]
  have HR0:=hid hR
  have HRR:=hid hS
  clear hR hS
  go_upto_region 11 with (first|(refine wpl_load rfl 45 (.tmp 98) rfl w.heap.size 5 rfl HZ2.out.act (reqA a.r q).toList rfl _ Tryz.underlying45 rfl (by kernel_rfl) ?_)|(go_at_call 14;refine (HREAL.out).mono ?_;rintro e wy ⟨v7,rfl,hm,ht⟩;have HM7:=hid hm;have HTT:=hid ht;have HZ3:=hid (HZ2.out.real ht);clear hm ht)|(refine wpl_store rfl 39 (.tmp 17) (.tmp 101) rfl wy.heap.size 0 rfl (subA S.sub v7) rfl (sub_blk0 wy) (Nat.le_refl 34) (subA S.sub v7) rfl (by kernel_rfl) (subA_one HM7.out.ev.one ⟨HM7.out.lp.one,HM7.out.lh.one,HM7.out.la.one,HM7.out.rp.one,HM7.out.rh.one,HM7.out.ra.one,HM7.out.tp.one,HM7.out.th.one,by obtain ⟨_,_,e,_⟩:=HM7.out.ro;rw [e];rfl⟩) ?_;intro wz hkz hfz))
  have bz:Below wy.heap.size wy wz:=((Below.refl wy.heap.size wy).alloc (Nat.le_refl _) _).trans (hfz.to_below (by simp) (fun k e=>by omega))
  have fz:Fr (fun _=>False) wy wz:=Fr.of_below bz
  have HZ4:=hid (HZ3.out.below bz)
  have H9Z:=hid ((H9.out.out X9.out HTT.out.fr).fr fz (fun e=>e))
  have H10Z:=hid ((H10.out.out X10.out HTT.out.fr).fr fz (fun e=>e))
  have HSWZ:=hid ((HTT.out.subw HSW.out HZ2.out.x2b HZ2.out.hBW).below bz HZ3.out.hBW)
  have HM7Z:=hid (HM7.out.below bz)
  have HKZ:=hid hkz
  have hgy:w0.heap.size<wy.heap.size:=HZ3.out.t.lt
  have HGY:=hid hgy
  clear bz fz hkz hfz hgy p1 p2 HREAL
  have HSM:Hid (∀ W,Below wz.heap.size wz W->Calls Tryz.prog 16 #[.agg (subA R.sub sv),.agg (subA S.sub v7)] W (BlPost (sbsB R.sub S.sub) W)):=hid (fun W hW=>sbSameY ((HSWZ.out.below hW HZ4.out.hBW).y (HZ4.out.below hW).hBW) (HM7Z.out.below hW).y HZA.out.1 HZA.out.2)
  unfold BlPost at HSM
  have HS7:Hid (∀ W,Below wz.heap.size wz W->W.rangeAt b9 0 (rtV c last' v5).toList/\W.rangeAt b10 0 (subA R.sub sv).toList/\W.rangeAt wy.heap.size 0 (subA S.sub v7).toList):=hid (fun W hW=>by
   have f:Fr (fun _=>False) wz W:=Fr.of_below hW
   exact ⟨blk_range (off:=0) (H9Z.out.fr f (fun e=>e)) rfl,blk_range (off:=0) (H10Z.out.fr f (fun e=>e)) rfl,blk_range (off:=0) (HKZ.out.fr f (fun e=>e)) rfl⟩)
  have HWZ:Hid (Below wz.heap.size wz wz.drew):=hid (Below.refl _ _).drew
  cases hsb:sbsB R.sub S.sub with
  | true =>
    rw [hsb] at HSM
    have HSB:=hid hsb
    clear hsb
    refine wp_region_noPanic (rgn HS7.out HWZ.out fun hHeld=>?_)
    refine tkm 0 (rtV c last' v5) (b9) 0 (fun wq hSw=>hSw.1) Tryz.underlying71 ?_
    refine tkm 1 (subA R.sub sv) (b10) 0 (fun wq hSw=>hSw.2.1) Tryz.underlying39 ?_
    refine tkm 2 (subA S.sub v7) (wy.heap.size) 0 (fun wq hSw=>hSw.2.2) Tryz.underlying39 ?_
    refine rd1 3 fun K hK=>?_
    go_simp
    refine (HSM.out _ HWZ.out).mono ?_
    rintro e ws ⟨rfl,hbs⟩
    have HWS:Hid (Below wz.heap.size wz ws):=hid (HWZ.out.trans hbs)
    clear hbs
    go_wp2_with fail
    refine bk hK (HS7.out _ HWS.out) fun hHeld=>?_
    clear hK K
    refine tk 4 ?_
    refine tk 5 ?_
    refine tk 6 ?_
    refine tk 7 ?_
    refine tk 8 ?_
    refine rd1 9 fun K hK=>?_
    refine stg 71 (.tmp 7) (.tmp 103) (w0.heap.size) (rtV c last' v5) ((HZ4.out.below HWS.out).t) (rtV_one HO5.out) ?_
    intro ut hkz hf
    have HF_ut:=hid hf
    have HK_ut:=hid hkz
    clear hf hkz
    have HZ5:=hid ((HZ4.out.below HWS.out).putT HF_ut.out HK_ut.out)
    have HSU:Hid (ut.rangeAt b9 0 (rtV c last' v5).toList/\ut.rangeAt b10 0 (subA R.sub sv).toList/\ut.rangeAt wy.heap.size 0 (subA S.sub v7).toList):=hid (by
     have f:Fr (fun _=>False) wz ws:=Fr.of_below HWS.out
     have g1:=HGB.out
     have g2:=HGY.out
     exact ⟨blk_range (off:=0) ((H9Z.out.fr f (fun e=>e)).fr HF_ut.out (fun e=>g1 e.symm)) rfl,blk_range (off:=0) ((H10Z.out.fr f (fun e=>e)).fr HF_ut.out (by have:=HG10.out;omega)) rfl,blk_range (off:=0) ((HKZ.out.fr f (fun e=>e)).fr HF_ut.out (by omega)) rfl⟩)
    refine bk hK (HSU.out) fun hHeld=>?_
    clear hK K
    refine tk 10 ?_
    refine dn9 (NoPanic.normal ?_)
    clear hHeld
    go_wp2_with (first|(refine wpl_load rfl 71 (.tmp 7) rfl w0.heap.size 0 rfl HZ5.out.t (rtV c last' v5).toList rfl _ Tryz.underlying71 rfl (by kernel_rfl) ?_)|(refine wpl_store rfl 71 (.tmp 198) (.tmp 197) rfl g 0 rfl (rtV c last' v5) rfl HZ5.out.bg (Nat.le_refl 9) (rtV c last' v5) rfl (by kernel_rfl) (rtV_one HO5.out) ?_;intro we hke hfe))
    go_ret
    obtain ⟨z1,z2,z3,z4,z5⟩:=HZ5.out.fin hfe hke
    refine ⟨S.err == R.err,_,v5,rfl,(fun h1 h2=>by rw [HCOND.out h1 h2];simp),z1,?_,?_,?_,z5⟩
    .rw [HEK.out];rw [HRR.out];exact z2
    .rw [HEK.out];rw [HR0.out];exact z3
    .rw [HEK.out];rw [HR0.out];exact z4
  | false =>
    rw [hsb] at HSM
    have HSB:=hid hsb
    clear hsb
    refine wp_region_noPanic (rgn HS7.out HWZ.out fun hHeld=>?_)
    refine tkm 0 (rtV c last' v5) (b9) 0 (fun wq hSw=>hSw.1) Tryz.underlying71 ?_
    refine tkm 1 (subA R.sub sv) (b10) 0 (fun wq hSw=>hSw.2.1) Tryz.underlying39 ?_
    refine tkm 2 (subA S.sub v7) (wy.heap.size) 0 (fun wq hSw=>hSw.2.2) Tryz.underlying39 ?_
    refine rd1 3 fun K hK=>?_
    go_simp
    refine (HSM.out _ HWZ.out).mono ?_
    rintro e ws ⟨rfl,hbs⟩
    have HWS:Hid (Below wz.heap.size wz ws):=hid (HWZ.out.trans hbs)
    clear hbs
    go_wp2_with fail
    refine bk hK (HS7.out _ HWS.out) fun hHeld=>?_
    clear hK K
    refine tk 4 ?_
    refine tkv 5 undef (Or.inr ⟨?_,rfl⟩) ?_
    .rfl
    refine tkv 6 undef (Or.inr ⟨?_,rfl⟩) ?_
    .rfl
    refine tkv 7 undef (Or.inr ⟨?_,rfl⟩) ?_
    .rfl
    refine tk 8 ?_
    refine rd1 9 fun K hK=>?_
    refine stg 71 (.tmp 7) (.tmp 103) (w0.heap.size) (rtV c last' v5) ((HZ4.out.below HWS.out).t) (rtV_one HO5.out) ?_
    intro ut hkz hf
    have HF_ut:=hid hf
    have HK_ut:=hid hkz
    clear hf hkz
    have HZ5:=hid ((HZ4.out.below HWS.out).putT HF_ut.out HK_ut.out)
    have HSU:Hid (ut.rangeAt b9 0 (rtV c last' v5).toList/\ut.rangeAt b10 0 (subA R.sub sv).toList/\ut.rangeAt wy.heap.size 0 (subA S.sub v7).toList):=hid (by
     have f:Fr (fun _=>False) wz ws:=Fr.of_below HWS.out
     have g1:=HGB.out
     have g2:=HGY.out
     exact ⟨blk_range (off:=0) ((H9Z.out.fr f (fun e=>e)).fr HF_ut.out (fun e=>g1 e.symm)) rfl,blk_range (off:=0) ((H10Z.out.fr f (fun e=>e)).fr HF_ut.out (by have:=HG10.out;omega)) rfl,blk_range (off:=0) ((HKZ.out.fr f (fun e=>e)).fr HF_ut.out (by omega)) rfl⟩)
    refine bk hK (HSU.out) fun hHeld=>?_
    clear hK K
    refine tk 10 ?_
    refine dn9 (NoPanic.normal ?_)
    clear hHeld
    go_wp2_with (first|(refine wpl_load rfl 71 (.tmp 7) rfl w0.heap.size 0 rfl HZ5.out.t (rtV c last' v5).toList rfl _ Tryz.underlying71 rfl (by kernel_rfl) ?_)|(refine wpl_store rfl 71 (.tmp 198) (.tmp 197) rfl g 0 rfl (rtV c last' v5) rfl HZ5.out.bg (Nat.le_refl 9) (rtV c last' v5) rfl (by kernel_rfl) (rtV_one HO5.out) ?_;intro we hke hfe))
    go_ret
    obtain ⟨z1,z2,z3,z4,z5⟩:=HZ5.out.fin hfe hke
    refine ⟨false,_,v5,rfl,(fun h1 h2=>by have h9:=HSB.out;rw [HCOND.out h1 h2,sbs_self] at h9;cases h9),z1,?_,?_,?_,z5⟩
    .rw [HEK.out];rw [HRR.out];exact z2
    .rw [HEK.out];rw [HR0.out];exact z3
    .rw [HEK.out];rw [HR0.out];exact z4
end Go.Proofs.YthkadehlclcggaaGreatDoor
