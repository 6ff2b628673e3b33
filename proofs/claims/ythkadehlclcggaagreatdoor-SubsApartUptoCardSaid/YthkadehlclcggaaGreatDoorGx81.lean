/- Chapter 19: a call of both, kind 2. Chapter 19: a call of both, kind 3. Chapter 19: a call of both, kind 4. Chapter 19: a call of both, kind 5. Chapter 19: a call of both, kind 6. Chapter 19: a call of both. -/
import Derived.Test.YthkadehlclcggaaGreatDoorGx79
import Derived.Test.YthkadehlclcggaaGreatDoorGx80
namespace Go.Proofs.YthkadehlclcggaaGreatDoor
set_option linter.unusedSimpArgs false
set_option linter.unusedVariables false
open Go.RowKit
open Go.Lib (hid)
set_option maxRecDepth 100000 in
set_option maxHeartbeats 16000000 in
theorem does2_any {X:Nat->Prop} {w:World} {p g:Nat} {c:Conf} {last last':Int} {L L':List SubP} {B:Nat} {v:Value} {a:ActN} {q:RqV} (H:Do9H X w p g c last last' L L' B v a q) (hk:a.kind=2) :
 Calls Tryz.prog 23 #[.pointer (some ⟨p,0,none⟩),.pointer (some ⟨g,0,none⟩),.agg (actN a q)] w (Do9Post X w p g c last last' L L' B a):=by
 obtain ⟨w0,hw0⟩:∃ w0,w.alloc (.cells (actN a q) 67)=w0:=⟨_,rfl⟩
 have hb0:Below w.heap.size w w0:=hw0▸(Below.refl _ _).alloc (Nat.le_refl _) _
 obtain ⟨A,nv,cp,rfl⟩:∃ A nv cp,v=.slice A nv cp:=by
  obtain ⟨xs,A,cp,_,e,_⟩:=H.ref
  exact ⟨A,xs.length,cp,e⟩
 have HH:=hid H
 have HRC:Hid (rightB c=true):=hid (by obtain ⟨l,Q⟩:=H.tab.sbq;exact Q.right)
 have HZR:Hid (∀ s∈L,SubZ s):=hid (by obtain ⟨l,Q⟩:=H.tab.sbq;exact Q.z)
 have HK0:=hid (H.box.fr (Fr.of_below (F:=fun _=>False) hb0) (fun e=>e))
 have HST:=hid (fun w1 hb hk=>H.start (w1:=w1) hw0 hb hk)
 have HS0:Hid (w.heap.size<w0.heap.size):=hid (by rw [<-hw0];simp)
 clear hb0 H
 go_enter Tryz.func23,Tryz.ntmps23
 go_upto_region 1 with (fail)
 try rw [hw0]
 clear hw0
 generalize hq0:Value.agg (actN a q)=q0
 clear hq0
 go_upto_region 2 with (first|(refine wpl_load rfl 71 (.tmp 28) rfl g 0 rfl HK0.out (rtV c last' (.slice A nv cp)).toList rfl _ Tryz.underlying71 rfl (by kernel_rfl) ?_)|(refine wpl_store rfl 71 (.tmp 7) (.tmp 29) rfl w0.heap.size 0 rfl (rtV c last' (.slice A nv cp)) rfl (rt_blk0 w0) (Nat.le_refl 9) (rtV c last' (.slice A nv cp)) rfl (by kernel_rfl) (rtV_one rfl) ?_;intro w1 hk1 hf1))
 have b1:Below w0.heap.size w0 w1:=((Below.refl w0.heap.size w0).alloc (Nat.le_refl _) _).trans (hf1.to_below (by simp) (fun k e=>by omega))
 have HZ1:=hid (HST.out w1 b1 hk1)
 have c0:w1.cell? ⟨w.heap.size,0,none⟩=some (.int .i64 a.kind):=HZ1.out.act.cell 0
 clear b1 hk1 hf1 HK0 HST
 have HEK:Hid (∀ last L,doS c last L a=_):=hid (fun last L=>doS2 (c:=c) (last:=last) (L:=L) hk)
 rw [hk] at c0
 clear hk
 go_upto_region 13 with (fail)
 have HS:Hid (∀ W,Below w1.heap.size w1 W->W.rangeAt g 0 (rtV c last' (.slice A nv cp)).toList/\W.rangeAt w.heap.size 5 (reqA a.r q).toList/\W.cell? ⟨w.heap.size,2,none⟩=some (.int .i64 a.num)/\W.cell? ⟨w.heap.size,3,none⟩=some (.int .i64 a.state)/\W.cell? ⟨w.heap.size,4,none⟩=some (.string (str a.text))):=hid (fun W hW=>by have h9:=HZ1.out.below hW;exact ⟨blk_range (off:=0) h9.bg rfl,blk_range (off:=5) h9.act rfl,h9.act.cell 2,h9.act.cell 3,h9.act.cell 4⟩)
 have HC:Hid (∀ W,Below w1.heap.size w1 W->Calls Tryz.prog 53 #[.agg (rtV c last' (.slice A nv cp)),.int .i64 a.num,.int .i64 a.state,.string (str a.text)] W (RtuPost (XUp X w w1) B c last' (putS L' a.num a.state a.text).L (.int .i64 (putS L' a.num a.state a.text).err) W)):=hid (fun W hW=>by
  have h9:=HZ1.out.below hW
  exact rtset_any h9.ref h9.hBW (by have:=HH.out.ln;omega) HH.out.nd h9.tab.lt)
 unfold RtuPost at HC
 have HW1:Hid (Below w1.heap.size w1 w1.drew):=hid (Below.refl _ _).drew
 clear c0
 go_cut [19,20] (fun p19 p20 wx=>Mid2 (fun e _=>e=.int .i64 (putS L' a.num a.state a.text).err) (XUp X w w1) w1 B c last' (putS L' a.num a.state a.text).L p19 p20 wx)
 case first =>
  refine wp_region_noPanic (rgn HS.out HW1.out fun hHeld=>?_)
  refine tk 0 ?_
  refine tk 1 ?_
  refine tkm 2 (rtV c last' (.slice A nv cp)) (g) 0 (fun wq hSw=>hSw.1) Tryz.underlying71 ?_
  refine tk 3 ?_
  refine tk 4 ?_
  refine tk 5 ?_
  refine tk 6 ?_
  refine tk 7 ?_
  refine tk 8 ?_
  have HSZD:Hid (w1.heap.size<=w1.drew.heap.size):=hid (Nat.le_refl _)
  generalize w1.drew=wd at *
  refine wpAnyH_ready (rs:=[9,13]) (by kernel_rfl) (by simp) ?_
  refine rdc (fun K hK=>?_) ?_
  .go_simp
   refine (HC.out _ HW1.out).mono ?_
   rintro e wc ⟨v5,rfl,hr,hb⟩
   have HYC:Hid (Below w1.heap.size w1 wc):=hid (HW1.out.trans (hb.mono HW1.out.size))
   have HCA:Hid (Cal (XUp X w w1) wd.heap.size wc.heap.size B (putS L' a.num a.state a.text).L v5 noSub nilV wc):=hid (Cal.of hr (subw_none _ _) (HZ1.out.below HW1.out).hBW hb)
   have HLO:Hid (w1.heap.size<=wd.heap.size/\wd.heap.size<=wc.heap.size):=hid ⟨HW1.out.size,hb.size⟩
   have HHI:Hid (wc.heap.size<=wc.heap.size):=hid (Nat.le_refl _)
   have HO5:Hid (v5.oneCell'=true):=hid hr.one
   clear hr hb
   go_wp2_with fail
   refine bk hK (HS.out _ HYC.out) fun hHeld=>?_
   clear hK K
   refine tk 10 ?_
   refine tk 11 ?_
   refine tk 12 ?_
   refine wpAnyH_ready (rs:=[13]) (by kernel_rfl) (by simp) ?_
   refine rdc (fun K hK=>?_) ?_
   .go_simp
    have hb:Below wc.heap.size wc (wc.alloc (.cells rt0 71)):=(Below.refl _ _).alloc (Nat.le_refl _) _
    have hz:Blk (wc.alloc (.cells rt0 71)) wc.heap.size 71 rt0:=rt_blk0 wc
    obtain ⟨ub0,hu⟩:∃ u,wc.alloc (.cells rt0 71)=u:=⟨_,rfl⟩
    rw [hu] at hb hz
    unfold rt0 at hu
    rw [hu]
    clear hu
    obtain ⟨b0,hb0⟩:∃ b,wc.heap.size=b:=⟨_,rfl⟩
    have HBB0:=hid hb0
    rw [hb0] at hz ⊢
    have H0:=hid hz
    have HL0:Hid (w1.heap.size<=b0):=hid (by rw [<-hb0];exact HYC.out.size)
    have HYA0:Hid (Below w1.heap.size w1 ub0):=hid (HYC.out.trans (hb.mono HYC.out.size))
    have HO0:Hid (b0<wd.heap.size\/wc.heap.size<=b0):=hid (.inr (by rw [<-hb0];exact HHI.out))
    have HHI:Hid (wc.heap.size<=ub0.heap.size):=hid (Nat.le_trans HHI.out hb.size)
    have HCA:=hid (HCA.out.below hb)
    clear hb hz hb0
    refine bk hK (HS.out _ HYA0.out) fun hHeld=>?_
    clear hK K
    refine rd1 14 fun K hK=>?_
    refine stg 71 (.tmp 19) (.tmp 125) (b0) (rtV c last' v5) (H0.out) (rtV_one HO5.out) ?_
    intro ua hkz hf
    have HF_ua:=hid hf
    have HK_ua:=hid hkz
    clear hf hkz
    have HYU:Hid (Below w1.heap.size w1 ua):=hid (HYA0.out.trans (HF_ua.out.to_below HYA0.out.size (fun k e=>by have:=HL0.out;omega)))
    have HCB:=hid (HCA.out.put HF_ua.out H0.out (by decide) (by decide) (by have:=HL0.out;have:=HZ1.out.tab.lt;intro e;have:=this _ e;omega) HO0.out (by have:=HL0.out;have:=HZ1.out.hBW;omega))
    refine bk hK (HS.out _ HYU.out) fun hHeld=>?_
    clear hK K
    refine tk 15 ?_
    refine dn9 (NoPanic.normal ?_)
    clear hHeld
    go_wp2_with fail
    go_meet
    exact ⟨b0,v5,rfl,rfl,HK_ua.out,HL0.out,HCB.out.r.mono (fun k hk q=>q.imp id (fun q=>⟨by have:=HLO.out;omega,hk⟩)),HYU.out⟩
   exact AllReadyH.nil
  refine rdc (fun K hK=>?_) ?_
  .go_simp
   have hb:Below wd.heap.size wd (wd.alloc (.cells rt0 71)):=(Below.refl _ _).alloc (Nat.le_refl _) _
   have hz:Blk (wd.alloc (.cells rt0 71)) wd.heap.size 71 rt0:=rt_blk0 wd
   obtain ⟨ub0,hu⟩:∃ u,wd.alloc (.cells rt0 71)=u:=⟨_,rfl⟩
   rw [hu] at hb hz
   unfold rt0 at hu
   rw [hu]
   clear hu
   obtain ⟨b0,hb0⟩:∃ b,wd.heap.size=b:=⟨_,rfl⟩
   have HBB0:=hid hb0
   rw [hb0] at hz ⊢
   have H0:=hid hz
   have HL0:Hid (w1.heap.size<=b0):=hid (by rw [<-hb0];exact HW1.out.size)
   have HYA0:Hid (Below w1.heap.size w1 ub0):=hid (HW1.out.trans (hb.mono HW1.out.size))
   clear hb hz hb0
   refine bk hK (HS.out _ HYA0.out) fun hHeld=>?_
   clear hK K
   refine wpAnyH_ready (rs:=[9]) (by kernel_rfl) (by simp) ?_
   refine rdc (fun K hK=>?_) ?_
   .go_simp
    refine (HC.out _ HYA0.out).mono ?_
    rintro e wc ⟨v5,rfl,hr,hb⟩
    have HYC:Hid (Below w1.heap.size w1 wc):=hid (HYA0.out.trans (hb.mono HYA0.out.size))
    have HCA:Hid (Cal (XUp X w w1) ub0.heap.size wc.heap.size B (putS L' a.num a.state a.text).L v5 noSub nilV wc):=hid (Cal.of hr (subw_none _ _) (HZ1.out.below HYA0.out).hBW hb)
    have HLO:Hid (w1.heap.size<=ub0.heap.size/\ub0.heap.size<=wc.heap.size):=hid ⟨HYA0.out.size,hb.size⟩
    have HHI:Hid (wc.heap.size<=wc.heap.size):=hid (Nat.le_refl _)
    have HO5:Hid (v5.oneCell'=true):=hid hr.one
    have HO0:Hid (b0<ub0.heap.size\/wc.heap.size<=b0):=hid (.inl H0.out.lt)
    have H0:=hid (H0.out.fr (Fr.of_below (F:=fun _=>False) hb) (fun e=>e))
    clear hr hb
    go_wp2_with fail
    refine bk hK (HS.out _ HYC.out) fun hHeld=>?_
    clear hK K
    refine tk 10 ?_
    refine tk 11 ?_
    refine tk 12 ?_
    refine rd1 14 fun K hK=>?_
    refine stg 71 (.tmp 19) (.tmp 125) (b0) (rtV c last' v5) (H0.out) (rtV_one HO5.out) ?_
    intro ua hkz hf
    have HF_ua:=hid hf
    have HK_ua:=hid hkz
    clear hf hkz
    have HYU:Hid (Below w1.heap.size w1 ua):=hid (HYC.out.trans (HF_ua.out.to_below HYC.out.size (fun k e=>by have:=HL0.out;omega)))
    have HCB:=hid (HCA.out.put HF_ua.out H0.out (by decide) (by decide) (by have:=HL0.out;have:=HZ1.out.tab.lt;intro e;have:=this _ e;omega) HO0.out (by have:=HL0.out;have:=HZ1.out.hBW;omega))
    refine bk hK (HS.out _ HYU.out) fun hHeld=>?_
    clear hK K
    refine tk 15 ?_
    refine dn9 (NoPanic.normal ?_)
    clear hHeld
    go_wp2_with fail
    go_meet
    exact ⟨b0,v5,rfl,rfl,HK_ua.out,HL0.out,HCB.out.r.mono (fun k hk q=>q.imp id (fun q=>⟨by have:=HLO.out;omega,hk⟩)),HYU.out⟩
   exact AllReadyH.nil
  exact AllReadyH.nil
 case rest =>
  obtain ⟨wx,rfl⟩:∃ wx,wx=wc:=⟨_,rfl⟩
  obtain ⟨b9,v5,rfl,he,h9,l9,hr,hb⟩:=hcut
  subst he
  have HO5:Hid (v5.oneCell'=true):=hid hr.one
  have HZ2:=hid ((HZ1.out.up hb).ref9 hr)
  have x9:XUp (XUp X w w1) w1 wx b9:=.inr ⟨l9,h9.lt⟩
  have X9:=hid x9
  have H9:=hid h9
  have hgb:w0.heap.size≠b9:=by have:=HZ1.out.t.lt;omega
  have HGB:=hid hgb
  clear HS HC h9 l9 hr hb x9 hgb
  generalize XUp (XUp X w w1) w1 wx=X2 at *
  have HWX:Hid (Below wx.heap.size wx wx.drew):=hid (Below.refl _ _).drew
  have HREAL:=hid (id (set_x (HZ2.out.below HWX.out).tab (n:=a.num) (state:=a.state) (reason:=a.text)))
  have HS7:Hid ((wx.drew.rangeAt b9 0 (rtV c last' v5).toList/\wx.drew.cell? ⟨w.heap.size,2,none⟩=some (.int .i64 a.num)/\wx.drew.cell? ⟨w.heap.size,3,none⟩=some (.int .i64 a.state)/\wx.drew.cell? ⟨w.heap.size,4,none⟩=some (.string (str a.text)))):=hid ⟨blk_range (off:=0) (H9.out.fr (Fr.of_below (F:=fun _=>False) HWX.out) (fun e=>e)) rfl,(HZ2.out.below HWX.out).act.cell 2,(HZ2.out.below HWX.out).act.cell 3,(HZ2.out.below HWX.out).act.cell 4⟩
  go_upto_region 14 with (fail)
  refine wp_region_noPanic ?_
  refine wp_region_held_drew (S:=fun W=>W.rangeAt b9 0 (rtV c last' v5).toList/\W.cell? ⟨w.heap.size,2,none⟩=some (.int .i64 a.num)/\W.cell? ⟨w.heap.size,3,none⟩=some (.int .i64 a.state)/\W.cell? ⟨w.heap.size,4,none⟩=some (.string (str a.text))) (by kernel_rfl) (HS7.out) (fun hHeld=>?_)
  refine tkm 0 (rtV c last' v5) (b9) 0 (fun wq hSw=>hSw.1) Tryz.underlying71 ?_
  refine tk 1 ?_
  refine tk 2 ?_
  refine tk 3 ?_
  refine tk 4 ?_
  refine tk 5 ?_
  refine tk 6 ?_
  refine tk 7 ?_
  refine tk 9 ?_
  refine rd1 8 fun K hK=>?_
  go_simp
  refine (HREAL.out).mono ?_
  rintro e wy ⟨rfl,ht⟩
  have HZ3:=hid ((HZ2.out.below HWX.out).real ht)
  have H9Y:=hid ((H9.out.fr (Fr.of_below (F:=fun _=>False) HWX.out) (fun e=>e)).out X9.out ht.fr)
  have HS8:Hid ((wy.rangeAt b9 0 (rtV c last' v5).toList/\wy.cell? ⟨w.heap.size,2,none⟩=some (.int .i64 a.num)/\wy.cell? ⟨w.heap.size,3,none⟩=some (.int .i64 a.state)/\wy.cell? ⟨w.heap.size,4,none⟩=some (.string (str a.text)))):=hid ⟨blk_range (off:=0) (H9Y.out) rfl,(HZ3.out).act.cell 2,(HZ3.out).act.cell 3,(HZ3.out).act.cell 4⟩
  clear ht
  go_wp2_with fail
  refine bk hK (HS8.out) fun hHeld=>?_
  clear hK K
  refine tk 10 ?_
  refine rd1 11 fun K hK=>?_
  refine stg 71 (.tmp 7) (.tmp 127) (w0.heap.size) (rtV c last' v5) (HZ3.out.t) (rtV_one HO5.out) ?_
  intro ut hkz hf
  have HF_ut:=hid hf
  have HK_ut:=hid hkz
  clear hf hkz
  have HZ5:=hid (HZ3.out.putT HF_ut.out HK_ut.out)
  have HSU:Hid (ut.rangeAt b9 0 (rtV c last' v5).toList/\ut.cell? ⟨w.heap.size,2,none⟩=some (.int .i64 a.num)/\ut.cell? ⟨w.heap.size,3,none⟩=some (.int .i64 a.state)/\ut.cell? ⟨w.heap.size,4,none⟩=some (.string (str a.text))):=hid (by
   have g1:=HGB.out
   exact ⟨blk_range (off:=0) (H9Y.out.fr HF_ut.out (fun e=>g1 e.symm)) rfl,(HZ5.out).act.cell 2,(HZ5.out).act.cell 3,(HZ5.out).act.cell 4⟩)
  refine bk hK (HSU.out) fun hHeld=>?_
  clear hK K
  refine tk 12 ?_
  refine dn9 (NoPanic.normal ?_)
  clear hHeld
  go_wp2_with (first|(refine wpl_load rfl 71 (.tmp 7) rfl w0.heap.size 0 rfl HZ5.out.t (rtV c last' v5).toList rfl _ Tryz.underlying71 rfl (by kernel_rfl) ?_)|(refine wpl_store rfl 71 (.tmp 198) (.tmp 197) rfl g 0 rfl (rtV c last' v5) rfl HZ5.out.bg (Nat.le_refl 9) (rtV c last' v5) rfl (by kernel_rfl) (rtV_one HO5.out) ?_;intro we hke hfe))
  go_ret
  obtain ⟨z1,z2,z3,z4,z5⟩:=HZ5.out.fin hfe hke
  refine ⟨(putS L a.num a.state a.text).err == (putS L' a.num a.state a.text).err,_,v5,rfl,(fun h1 h2=>by rw [h2];simp),z1,?_,?_,?_,z5⟩
  .rw [HEK.out];exact z2
  .rw [HEK.out];exact z3
  .rw [HEK.out];exact z4
set_option maxRecDepth 100000 in
set_option maxHeartbeats 16000000 in
theorem does3_any {X:Nat->Prop} {w:World} {p g:Nat} {c:Conf} {last last':Int} {L L':List SubP} {B:Nat} {v:Value} {a:ActN} {q:RqV} (H:Do9H X w p g c last last' L L' B v a q) (hk:a.kind=3) :
 Calls Tryz.prog 23 #[.pointer (some ⟨p,0,none⟩),.pointer (some ⟨g,0,none⟩),.agg (actN a q)] w (Do9Post X w p g c last last' L L' B a):=by
 obtain ⟨w0,hw0⟩:∃ w0,w.alloc (.cells (actN a q) 67)=w0:=⟨_,rfl⟩
 have hb0:Below w.heap.size w w0:=hw0▸(Below.refl _ _).alloc (Nat.le_refl _) _
 obtain ⟨A,nv,cp,rfl⟩:∃ A nv cp,v=.slice A nv cp:=by
  obtain ⟨xs,A,cp,_,e,_⟩:=H.ref
  exact ⟨A,xs.length,cp,e⟩
 have HH:=hid H
 have HRC:Hid (rightB c=true):=hid (by obtain ⟨l,Q⟩:=H.tab.sbq;exact Q.right)
 have HZR:Hid (∀ s∈L,SubZ s):=hid (by obtain ⟨l,Q⟩:=H.tab.sbq;exact Q.z)
 have HK0:=hid (H.box.fr (Fr.of_below (F:=fun _=>False) hb0) (fun e=>e))
 have HST:=hid (fun w1 hb hk=>H.start (w1:=w1) hw0 hb hk)
 have HS0:Hid (w.heap.size<w0.heap.size):=hid (by rw [<-hw0];simp)
 clear hb0 H
 go_enter Tryz.func23,Tryz.ntmps23
 go_upto_region 1 with (fail)
 try rw [hw0]
 clear hw0
 generalize hq0:Value.agg (actN a q)=q0
 clear hq0
 go_upto_region 2 with (first|(refine wpl_load rfl 71 (.tmp 28) rfl g 0 rfl HK0.out (rtV c last' (.slice A nv cp)).toList rfl _ Tryz.underlying71 rfl (by kernel_rfl) ?_)|(refine wpl_store rfl 71 (.tmp 7) (.tmp 29) rfl w0.heap.size 0 rfl (rtV c last' (.slice A nv cp)) rfl (rt_blk0 w0) (Nat.le_refl 9) (rtV c last' (.slice A nv cp)) rfl (by kernel_rfl) (rtV_one rfl) ?_;intro w1 hk1 hf1))
 have b1:Below w0.heap.size w0 w1:=((Below.refl w0.heap.size w0).alloc (Nat.le_refl _) _).trans (hf1.to_below (by simp) (fun k e=>by omega))
 have HZ1:=hid (HST.out w1 b1 hk1)
 have c0:w1.cell? ⟨w.heap.size,0,none⟩=some (.int .i64 a.kind):=HZ1.out.act.cell 0
 clear b1 hk1 hf1 HK0 HST
 have HEK:Hid (∀ last L,doS c last L a=_):=hid (fun last L=>doS3 (c:=c) (last:=last) (L:=L) hk)
 rw [hk] at c0
 clear hk
 go_upto_region 16 with (fail)
 have HS:Hid (∀ W,Below w1.heap.size w1 W->W.rangeAt g 0 (rtV c last' (.slice A nv cp)).toList/\W.rangeAt w.heap.size 5 (reqA a.r q).toList/\W.cell? ⟨w.heap.size,2,none⟩=some (.int .i64 a.num)/\W.cell? ⟨w.heap.size,3,none⟩=some (.int .i64 a.state)):=hid (fun W hW=>by have h9:=HZ1.out.below hW;exact ⟨blk_range (off:=0) h9.bg rfl,blk_range (off:=5) h9.act rfl,h9.act.cell 2,h9.act.cell 3⟩)
 have HC:Hid (∀ W,Below w1.heap.size w1 W->Calls Tryz.prog 54 #[.agg (rtV c last' (.slice A nv cp)),.int .i64 a.num,.int .i64 a.state] W (RtuPost (XUp X w w1) B c last' (sentS L' a.num a.state).L (.int .i64 (sentS L' a.num a.state).err) W)):=hid (fun W hW=>by
  have h9:=HZ1.out.below hW
  exact rtsent_any h9.ref h9.hBW (by have:=HH.out.ln;omega) HH.out.nd h9.tab.lt)
 unfold RtuPost at HC
 have HW1:Hid (Below w1.heap.size w1 w1.drew):=hid (Below.refl _ _).drew
 clear c0
 go_cut [21,22] (fun p21 p22 wx=>Mid2 (fun e _=>e=.int .i64 (sentS L' a.num a.state).err) (XUp X w w1) w1 B c last' (sentS L' a.num a.state).L p21 p22 wx)
 case first =>
  refine wp_region_noPanic (rgn HS.out HW1.out fun hHeld=>?_)
  refine tk 0 ?_
  refine tk 1 ?_
  refine tkm 2 (rtV c last' (.slice A nv cp)) (g) 0 (fun wq hSw=>hSw.1) Tryz.underlying71 ?_
  refine tk 3 ?_
  refine tk 4 ?_
  refine tk 5 ?_
  refine tk 6 ?_
  have HSZD:Hid (w1.heap.size<=w1.drew.heap.size):=hid (Nat.le_refl _)
  generalize w1.drew=wd at *
  refine wpAnyH_ready (rs:=[7,11]) (by kernel_rfl) (by simp) ?_
  refine rdc (fun K hK=>?_) ?_
  .go_simp
   refine (HC.out _ HW1.out).mono ?_
   rintro e wc ⟨v5,rfl,hr,hb⟩
   have HYC:Hid (Below w1.heap.size w1 wc):=hid (HW1.out.trans (hb.mono HW1.out.size))
   have HCA:Hid (Cal (XUp X w w1) wd.heap.size wc.heap.size B (sentS L' a.num a.state).L v5 noSub nilV wc):=hid (Cal.of hr (subw_none _ _) (HZ1.out.below HW1.out).hBW hb)
   have HLO:Hid (w1.heap.size<=wd.heap.size/\wd.heap.size<=wc.heap.size):=hid ⟨HW1.out.size,hb.size⟩
   have HHI:Hid (wc.heap.size<=wc.heap.size):=hid (Nat.le_refl _)
   have HO5:Hid (v5.oneCell'=true):=hid hr.one
   clear hr hb
   go_wp2_with fail
   refine bk hK (HS.out _ HYC.out) fun hHeld=>?_
   clear hK K
   refine tk 8 ?_
   refine tk 9 ?_
   refine tk 10 ?_
   refine wpAnyH_ready (rs:=[11]) (by kernel_rfl) (by simp) ?_
   refine rdc (fun K hK=>?_) ?_
   .go_simp
    have hb:Below wc.heap.size wc (wc.alloc (.cells rt0 71)):=(Below.refl _ _).alloc (Nat.le_refl _) _
    have hz:Blk (wc.alloc (.cells rt0 71)) wc.heap.size 71 rt0:=rt_blk0 wc
    obtain ⟨ub0,hu⟩:∃ u,wc.alloc (.cells rt0 71)=u:=⟨_,rfl⟩
    rw [hu] at hb hz
    unfold rt0 at hu
    rw [hu]
    clear hu
    obtain ⟨b0,hb0⟩:∃ b,wc.heap.size=b:=⟨_,rfl⟩
    have HBB0:=hid hb0
    rw [hb0] at hz ⊢
    have H0:=hid hz
    have HL0:Hid (w1.heap.size<=b0):=hid (by rw [<-hb0];exact HYC.out.size)
    have HYA0:Hid (Below w1.heap.size w1 ub0):=hid (HYC.out.trans (hb.mono HYC.out.size))
    have HO0:Hid (b0<wd.heap.size\/wc.heap.size<=b0):=hid (.inr (by rw [<-hb0];exact HHI.out))
    have HHI:Hid (wc.heap.size<=ub0.heap.size):=hid (Nat.le_trans HHI.out hb.size)
    have HCA:=hid (HCA.out.below hb)
    clear hb hz hb0
    refine bk hK (HS.out _ HYA0.out) fun hHeld=>?_
    clear hK K
    refine rd1 12 fun K hK=>?_
    refine stg 71 (.tmp 21) (.tmp 149) (b0) (rtV c last' v5) (H0.out) (rtV_one HO5.out) ?_
    intro ua hkz hf
    have HF_ua:=hid hf
    have HK_ua:=hid hkz
    clear hf hkz
    have HYU:Hid (Below w1.heap.size w1 ua):=hid (HYA0.out.trans (HF_ua.out.to_below HYA0.out.size (fun k e=>by have:=HL0.out;omega)))
    have HCB:=hid (HCA.out.put HF_ua.out H0.out (by decide) (by decide) (by have:=HL0.out;have:=HZ1.out.tab.lt;intro e;have:=this _ e;omega) HO0.out (by have:=HL0.out;have:=HZ1.out.hBW;omega))
    refine bk hK (HS.out _ HYU.out) fun hHeld=>?_
    clear hK K
    refine tk 13 ?_
    refine dn9 (NoPanic.normal ?_)
    clear hHeld
    go_wp2_with fail
    go_meet
    exact ⟨b0,v5,rfl,rfl,HK_ua.out,HL0.out,HCB.out.r.mono (fun k hk q=>q.imp id (fun q=>⟨by have:=HLO.out;omega,hk⟩)),HYU.out⟩
   exact AllReadyH.nil
  refine rdc (fun K hK=>?_) ?_
  .go_simp
   have hb:Below wd.heap.size wd (wd.alloc (.cells rt0 71)):=(Below.refl _ _).alloc (Nat.le_refl _) _
   have hz:Blk (wd.alloc (.cells rt0 71)) wd.heap.size 71 rt0:=rt_blk0 wd
   obtain ⟨ub0,hu⟩:∃ u,wd.alloc (.cells rt0 71)=u:=⟨_,rfl⟩
   rw [hu] at hb hz
   unfold rt0 at hu
   rw [hu]
   clear hu
   obtain ⟨b0,hb0⟩:∃ b,wd.heap.size=b:=⟨_,rfl⟩
   have HBB0:=hid hb0
   rw [hb0] at hz ⊢
   have H0:=hid hz
   have HL0:Hid (w1.heap.size<=b0):=hid (by rw [<-hb0];exact HW1.out.size)
   have HYA0:Hid (Below w1.heap.size w1 ub0):=hid (HW1.out.trans (hb.mono HW1.out.size))
   clear hb hz hb0
   refine bk hK (HS.out _ HYA0.out) fun hHeld=>?_
   clear hK K
   refine wpAnyH_ready (rs:=[7]) (by kernel_rfl) (by simp) ?_
   refine rdc (fun K hK=>?_) ?_
   .go_simp
    refine (HC.out _ HYA0.out).mono ?_
    rintro e wc ⟨v5,rfl,hr,hb⟩
    have HYC:Hid (Below w1.heap.size w1 wc):=hid (HYA0.out.trans (hb.mono HYA0.out.size))
    have HCA:Hid (Cal (XUp X w w1) ub0.heap.size wc.heap.size B (sentS L' a.num a.state).L v5 noSub nilV wc):=hid (Cal.of hr (subw_none _ _) (HZ1.out.below HYA0.out).hBW hb)
    have HLO:Hid (w1.heap.size<=ub0.heap.size/\ub0.heap.size<=wc.heap.size):=hid ⟨HYA0.out.size,hb.size⟩
    have HHI:Hid (wc.heap.size<=wc.heap.size):=hid (Nat.le_refl _)
    have HO5:Hid (v5.oneCell'=true):=hid hr.one
    have HO0:Hid (b0<ub0.heap.size\/wc.heap.size<=b0):=hid (.inl H0.out.lt)
    have H0:=hid (H0.out.fr (Fr.of_below (F:=fun _=>False) hb) (fun e=>e))
    clear hr hb
    go_wp2_with fail
    refine bk hK (HS.out _ HYC.out) fun hHeld=>?_
    clear hK K
    refine tk 8 ?_
    refine tk 9 ?_
    refine tk 10 ?_
    refine rd1 12 fun K hK=>?_
    refine stg 71 (.tmp 21) (.tmp 149) (b0) (rtV c last' v5) (H0.out) (rtV_one HO5.out) ?_
    intro ua hkz hf
    have HF_ua:=hid hf
    have HK_ua:=hid hkz
    clear hf hkz
    have HYU:Hid (Below w1.heap.size w1 ua):=hid (HYC.out.trans (HF_ua.out.to_below HYC.out.size (fun k e=>by have:=HL0.out;omega)))
    have HCB:=hid (HCA.out.put HF_ua.out H0.out (by decide) (by decide) (by have:=HL0.out;have:=HZ1.out.tab.lt;intro e;have:=this _ e;omega) HO0.out (by have:=HL0.out;have:=HZ1.out.hBW;omega))
    refine bk hK (HS.out _ HYU.out) fun hHeld=>?_
    clear hK K
    refine tk 13 ?_
    refine dn9 (NoPanic.normal ?_)
    clear hHeld
    go_wp2_with fail
    go_meet
    exact ⟨b0,v5,rfl,rfl,HK_ua.out,HL0.out,HCB.out.r.mono (fun k hk q=>q.imp id (fun q=>⟨by have:=HLO.out;omega,hk⟩)),HYU.out⟩
   exact AllReadyH.nil
  exact AllReadyH.nil
 case rest =>
  obtain ⟨wx,rfl⟩:∃ wx,wx=wc:=⟨_,rfl⟩
  obtain ⟨b9,v5,rfl,he,h9,l9,hr,hb⟩:=hcut
  subst he
  have HO5:Hid (v5.oneCell'=true):=hid hr.one
  have HZ2:=hid ((HZ1.out.up hb).ref9 hr)
  have x9:XUp (XUp X w w1) w1 wx b9:=.inr ⟨l9,h9.lt⟩
  have X9:=hid x9
  have H9:=hid h9
  have hgb:w0.heap.size≠b9:=by have:=HZ1.out.t.lt;omega
  have HGB:=hid hgb
  clear HS HC h9 l9 hr hb x9 hgb
  generalize XUp (XUp X w w1) w1 wx=X2 at *
  have HWX:Hid (Below wx.heap.size wx wx.drew):=hid (Below.refl _ _).drew
  have HREAL:=hid (id (sent_x (HZ2.out.below HWX.out).tab (n:=a.num) (out:=a.state)))
  have HS7:Hid ((wx.drew.rangeAt b9 0 (rtV c last' v5).toList/\wx.drew.cell? ⟨w.heap.size,2,none⟩=some (.int .i64 a.num)/\wx.drew.cell? ⟨w.heap.size,3,none⟩=some (.int .i64 a.state))):=hid ⟨blk_range (off:=0) (H9.out.fr (Fr.of_below (F:=fun _=>False) HWX.out) (fun e=>e)) rfl,(HZ2.out.below HWX.out).act.cell 2,(HZ2.out.below HWX.out).act.cell 3⟩
  go_upto_region 17 with (fail)
  refine wp_region_noPanic ?_
  refine wp_region_held_drew (S:=fun W=>W.rangeAt b9 0 (rtV c last' v5).toList/\W.cell? ⟨w.heap.size,2,none⟩=some (.int .i64 a.num)/\W.cell? ⟨w.heap.size,3,none⟩=some (.int .i64 a.state)) (by kernel_rfl) (HS7.out) (fun hHeld=>?_)
  refine tkm 0 (rtV c last' v5) (b9) 0 (fun wq hSw=>hSw.1) Tryz.underlying71 ?_
  refine tk 1 ?_
  refine tk 2 ?_
  refine tk 3 ?_
  refine tk 4 ?_
  refine tk 5 ?_
  refine tk 7 ?_
  refine rd1 6 fun K hK=>?_
  go_simp
  refine (HREAL.out).mono ?_
  rintro e wy ⟨rfl,ht⟩
  have HZ3:=hid ((HZ2.out.below HWX.out).real ht)
  have H9Y:=hid ((H9.out.fr (Fr.of_below (F:=fun _=>False) HWX.out) (fun e=>e)).out X9.out ht.fr)
  have HS8:Hid ((wy.rangeAt b9 0 (rtV c last' v5).toList/\wy.cell? ⟨w.heap.size,2,none⟩=some (.int .i64 a.num)/\wy.cell? ⟨w.heap.size,3,none⟩=some (.int .i64 a.state))):=hid ⟨blk_range (off:=0) (H9Y.out) rfl,(HZ3.out).act.cell 2,(HZ3.out).act.cell 3⟩
  clear ht
  go_wp2_with fail
  refine bk hK (HS8.out) fun hHeld=>?_
  clear hK K
  refine tk 8 ?_
  refine rd1 9 fun K hK=>?_
  refine stg 71 (.tmp 7) (.tmp 151) (w0.heap.size) (rtV c last' v5) (HZ3.out.t) (rtV_one HO5.out) ?_
  intro ut hkz hf
  have HF_ut:=hid hf
  have HK_ut:=hid hkz
  clear hf hkz
  have HZ5:=hid (HZ3.out.putT HF_ut.out HK_ut.out)
  have HSU:Hid (ut.rangeAt b9 0 (rtV c last' v5).toList/\ut.cell? ⟨w.heap.size,2,none⟩=some (.int .i64 a.num)/\ut.cell? ⟨w.heap.size,3,none⟩=some (.int .i64 a.state)):=hid (by
   have g1:=HGB.out
   exact ⟨blk_range (off:=0) (H9Y.out.fr HF_ut.out (fun e=>g1 e.symm)) rfl,(HZ5.out).act.cell 2,(HZ5.out).act.cell 3⟩)
  refine bk hK (HSU.out) fun hHeld=>?_
  clear hK K
  refine tk 10 ?_
  refine dn9 (NoPanic.normal ?_)
  clear hHeld
  go_wp2_with (first|(refine wpl_load rfl 71 (.tmp 7) rfl w0.heap.size 0 rfl HZ5.out.t (rtV c last' v5).toList rfl _ Tryz.underlying71 rfl (by kernel_rfl) ?_)|(refine wpl_store rfl 71 (.tmp 198) (.tmp 197) rfl g 0 rfl (rtV c last' v5) rfl HZ5.out.bg (Nat.le_refl 9) (rtV c last' v5) rfl (by kernel_rfl) (rtV_one HO5.out) ?_;intro we hke hfe))
  go_ret
  obtain ⟨z1,z2,z3,z4,z5⟩:=HZ5.out.fin hfe hke
  refine ⟨(sentS L a.num a.state).err == (sentS L' a.num a.state).err,_,v5,rfl,(fun h1 h2=>by rw [h2];simp),z1,?_,?_,?_,z5⟩
  .rw [HEK.out];exact z2
  .rw [HEK.out];exact z3
  .rw [HEK.out];exact z4
set_option maxRecDepth 100000 in
set_option maxHeartbeats 16000000 in
theorem does4_any {X:Nat->Prop} {w:World} {p g:Nat} {c:Conf} {last last':Int} {L L':List SubP} {B:Nat} {v:Value} {a:ActN} {q:RqV} (H:Do9H X w p g c last last' L L' B v a q) (hk:a.kind=4) :
 Calls Tryz.prog 23 #[.pointer (some ⟨p,0,none⟩),.pointer (some ⟨g,0,none⟩),.agg (actN a q)] w (Do9Post X w p g c last last' L L' B a):=by
 obtain ⟨w0,hw0⟩:∃ w0,w.alloc (.cells (actN a q) 67)=w0:=⟨_,rfl⟩
 have hb0:Below w.heap.size w w0:=hw0▸(Below.refl _ _).alloc (Nat.le_refl _) _
 obtain ⟨A,nv,cp,rfl⟩:∃ A nv cp,v=.slice A nv cp:=by
  obtain ⟨xs,A,cp,_,e,_⟩:=H.ref
  exact ⟨A,xs.length,cp,e⟩
 have HH:=hid H
 have HRC:Hid (rightB c=true):=hid (by obtain ⟨l,Q⟩:=H.tab.sbq;exact Q.right)
 have HZR:Hid (∀ s∈L,SubZ s):=hid (by obtain ⟨l,Q⟩:=H.tab.sbq;exact Q.z)
 have HK0:=hid (H.box.fr (Fr.of_below (F:=fun _=>False) hb0) (fun e=>e))
 have HST:=hid (fun w1 hb hk=>H.start (w1:=w1) hw0 hb hk)
 have HS0:Hid (w.heap.size<w0.heap.size):=hid (by rw [<-hw0];simp)
 clear hb0 H
 go_enter Tryz.func23,Tryz.ntmps23
 go_upto_region 1 with (fail)
 try rw [hw0]
 clear hw0
 generalize hq0:Value.agg (actN a q)=q0
 clear hq0
 go_upto_region 2 with (first|(refine wpl_load rfl 71 (.tmp 28) rfl g 0 rfl HK0.out (rtV c last' (.slice A nv cp)).toList rfl _ Tryz.underlying71 rfl (by kernel_rfl) ?_)|(refine wpl_store rfl 71 (.tmp 7) (.tmp 29) rfl w0.heap.size 0 rfl (rtV c last' (.slice A nv cp)) rfl (rt_blk0 w0) (Nat.le_refl 9) (rtV c last' (.slice A nv cp)) rfl (by kernel_rfl) (rtV_one rfl) ?_;intro w1 hk1 hf1))
 have b1:Below w0.heap.size w0 w1:=((Below.refl w0.heap.size w0).alloc (Nat.le_refl _) _).trans (hf1.to_below (by simp) (fun k e=>by omega))
 have HZ1:=hid (HST.out w1 b1 hk1)
 have c0:w1.cell? ⟨w.heap.size,0,none⟩=some (.int .i64 a.kind):=HZ1.out.act.cell 0
 clear b1 hk1 hf1 HK0 HST
 have HEK:Hid (∀ last L,doS c last L a=_):=hid (fun last L=>doS4 (c:=c) (last:=last) (L:=L) hk)
 rw [hk] at c0
 clear hk
 go_upto_region 19 with (fail)
 have HS:Hid (∀ W,Below w1.heap.size w1 W->W.rangeAt g 0 (rtV c last' (.slice A nv cp)).toList/\W.rangeAt w.heap.size 5 (reqA a.r q).toList/\W.cell? ⟨w.heap.size,2,none⟩=some (.int .i64 a.num)):=hid (fun W hW=>by have h9:=HZ1.out.below hW;exact ⟨blk_range (off:=0) h9.bg rfl,blk_range (off:=5) h9.act rfl,h9.act.cell 2⟩)
 have HC:Hid (∀ W,Below w1.heap.size w1 W->Calls Tryz.prog 55 #[.agg (rtV c last' (.slice A nv cp)),.int .i64 a.num] W (RtuPost (XUp X w w1) B c last' (dropS L' a.num) (.bool (hasS L' a.num)) W)):=hid (fun W hW=>by
  have h9:=HZ1.out.below hW
  exact rtdrop_any h9.ref h9.hBW (by have:=HH.out.ln;omega))
 unfold RtuPost at HC
 have HW1:Hid (Below w1.heap.size w1 w1.drew):=hid (Below.refl _ _).drew
 clear c0
 go_cut [23,24] (fun p23 p24 wx=>Mid2 (fun e _=>e=.bool (hasS L' a.num)) (XUp X w w1) w1 B c last' (dropS L' a.num) p23 p24 wx)
 case first =>
  refine wp_region_noPanic (rgn HS.out HW1.out fun hHeld=>?_)
  refine tk 0 ?_
  refine tk 1 ?_
  refine tkm 2 (rtV c last' (.slice A nv cp)) (g) 0 (fun wq hSw=>hSw.1) Tryz.underlying71 ?_
  refine tk 3 ?_
  refine tk 4 ?_
  have HSZD:Hid (w1.heap.size<=w1.drew.heap.size):=hid (Nat.le_refl _)
  generalize w1.drew=wd at *
  refine wpAnyH_ready (rs:=[5,9]) (by kernel_rfl) (by simp) ?_
  refine rdc (fun K hK=>?_) ?_
  .go_simp
   refine (HC.out _ HW1.out).mono ?_
   rintro e wc ⟨v5,rfl,hr,hb⟩
   have HYC:Hid (Below w1.heap.size w1 wc):=hid (HW1.out.trans (hb.mono HW1.out.size))
   have HCA:Hid (Cal (XUp X w w1) wd.heap.size wc.heap.size B (dropS L' a.num) v5 noSub nilV wc):=hid (Cal.of hr (subw_none _ _) (HZ1.out.below HW1.out).hBW hb)
   have HLO:Hid (w1.heap.size<=wd.heap.size/\wd.heap.size<=wc.heap.size):=hid ⟨HW1.out.size,hb.size⟩
   have HHI:Hid (wc.heap.size<=wc.heap.size):=hid (Nat.le_refl _)
   have HO5:Hid (v5.oneCell'=true):=hid hr.one
   clear hr hb
   go_wp2_with fail
   refine bk hK (HS.out _ HYC.out) fun hHeld=>?_
   clear hK K
   refine tk 6 ?_
   refine tk 7 ?_
   refine tk 8 ?_
   refine wpAnyH_ready (rs:=[9]) (by kernel_rfl) (by simp) ?_
   refine rdc (fun K hK=>?_) ?_
   .go_simp
    have hb:Below wc.heap.size wc (wc.alloc (.cells rt0 71)):=(Below.refl _ _).alloc (Nat.le_refl _) _
    have hz:Blk (wc.alloc (.cells rt0 71)) wc.heap.size 71 rt0:=rt_blk0 wc
    obtain ⟨ub0,hu⟩:∃ u,wc.alloc (.cells rt0 71)=u:=⟨_,rfl⟩
    rw [hu] at hb hz
    unfold rt0 at hu
    rw [hu]
    clear hu
    obtain ⟨b0,hb0⟩:∃ b,wc.heap.size=b:=⟨_,rfl⟩
    have HBB0:=hid hb0
    rw [hb0] at hz ⊢
    have H0:=hid hz
    have HL0:Hid (w1.heap.size<=b0):=hid (by rw [<-hb0];exact HYC.out.size)
    have HYA0:Hid (Below w1.heap.size w1 ub0):=hid (HYC.out.trans (hb.mono HYC.out.size))
    have HO0:Hid (b0<wd.heap.size\/wc.heap.size<=b0):=hid (.inr (by rw [<-hb0];exact HHI.out))
    have HHI:Hid (wc.heap.size<=ub0.heap.size):=hid (Nat.le_trans HHI.out hb.size)
    have HCA:=hid (HCA.out.below hb)
    clear hb hz hb0
    refine bk hK (HS.out _ HYA0.out) fun hHeld=>?_
    clear hK K
    refine rd1 10 fun K hK=>?_
    refine stg 71 (.tmp 23) (.tmp 169) (b0) (rtV c last' v5) (H0.out) (rtV_one HO5.out) ?_
    intro ua hkz hf
    have HF_ua:=hid hf
    have HK_ua:=hid hkz
    clear hf hkz
    have HYU:Hid (Below w1.heap.size w1 ua):=hid (HYA0.out.trans (HF_ua.out.to_below HYA0.out.size (fun k e=>by have:=HL0.out;omega)))
    have HCB:=hid (HCA.out.put HF_ua.out H0.out (by decide) (by decide) (by have:=HL0.out;have:=HZ1.out.tab.lt;intro e;have:=this _ e;omega) HO0.out (by have:=HL0.out;have:=HZ1.out.hBW;omega))
    refine bk hK (HS.out _ HYU.out) fun hHeld=>?_
    clear hK K
    refine tk 11 ?_
    refine dn9 (NoPanic.normal ?_)
    clear hHeld
    go_wp2_with fail
    go_meet
    exact ⟨b0,v5,rfl,rfl,HK_ua.out,HL0.out,HCB.out.r.mono (fun k hk q=>q.imp id (fun q=>⟨by have:=HLO.out;omega,hk⟩)),HYU.out⟩
   exact AllReadyH.nil
  refine rdc (fun K hK=>?_) ?_
  .go_simp
   have hb:Below wd.heap.size wd (wd.alloc (.cells rt0 71)):=(Below.refl _ _).alloc (Nat.le_refl _) _
   have hz:Blk (wd.alloc (.cells rt0 71)) wd.heap.size 71 rt0:=rt_blk0 wd
   obtain ⟨ub0,hu⟩:∃ u,wd.alloc (.cells rt0 71)=u:=⟨_,rfl⟩
   rw [hu] at hb hz
   unfold rt0 at hu
   rw [hu]
   clear hu
   obtain ⟨b0,hb0⟩:∃ b,wd.heap.size=b:=⟨_,rfl⟩
   have HBB0:=hid hb0
   rw [hb0] at hz ⊢
   have H0:=hid hz
   have HL0:Hid (w1.heap.size<=b0):=hid (by rw [<-hb0];exact HW1.out.size)
   have HYA0:Hid (Below w1.heap.size w1 ub0):=hid (HW1.out.trans (hb.mono HW1.out.size))
   clear hb hz hb0
   refine bk hK (HS.out _ HYA0.out) fun hHeld=>?_
   clear hK K
   refine wpAnyH_ready (rs:=[5]) (by kernel_rfl) (by simp) ?_
   refine rdc (fun K hK=>?_) ?_
   .go_simp
    refine (HC.out _ HYA0.out).mono ?_
    rintro e wc ⟨v5,rfl,hr,hb⟩
    have HYC:Hid (Below w1.heap.size w1 wc):=hid (HYA0.out.trans (hb.mono HYA0.out.size))
    have HCA:Hid (Cal (XUp X w w1) ub0.heap.size wc.heap.size B (dropS L' a.num) v5 noSub nilV wc):=hid (Cal.of hr (subw_none _ _) (HZ1.out.below HYA0.out).hBW hb)
    have HLO:Hid (w1.heap.size<=ub0.heap.size/\ub0.heap.size<=wc.heap.size):=hid ⟨HYA0.out.size,hb.size⟩
    have HHI:Hid (wc.heap.size<=wc.heap.size):=hid (Nat.le_refl _)
    have HO5:Hid (v5.oneCell'=true):=hid hr.one
    have HO0:Hid (b0<ub0.heap.size\/wc.heap.size<=b0):=hid (.inl H0.out.lt)
    have H0:=hid (H0.out.fr (Fr.of_below (F:=fun _=>False) hb) (fun e=>e))
    clear hr hb
    go_wp2_with fail
    refine bk hK (HS.out _ HYC.out) fun hHeld=>?_
    clear hK K
    refine tk 6 ?_
    refine tk 7 ?_
    refine tk 8 ?_
    refine rd1 10 fun K hK=>?_
    refine stg 71 (.tmp 23) (.tmp 169) (b0) (rtV c last' v5) (H0.out) (rtV_one HO5.out) ?_
    intro ua hkz hf
    have HF_ua:=hid hf
    have HK_ua:=hid hkz
    clear hf hkz
    have HYU:Hid (Below w1.heap.size w1 ua):=hid (HYC.out.trans (HF_ua.out.to_below HYC.out.size (fun k e=>by have:=HL0.out;omega)))
    have HCB:=hid (HCA.out.put HF_ua.out H0.out (by decide) (by decide) (by have:=HL0.out;have:=HZ1.out.tab.lt;intro e;have:=this _ e;omega) HO0.out (by have:=HL0.out;have:=HZ1.out.hBW;omega))
    refine bk hK (HS.out _ HYU.out) fun hHeld=>?_
    clear hK K
    refine tk 11 ?_
    refine dn9 (NoPanic.normal ?_)
    clear hHeld
    go_wp2_with fail
    go_meet
    exact ⟨b0,v5,rfl,rfl,HK_ua.out,HL0.out,HCB.out.r.mono (fun k hk q=>q.imp id (fun q=>⟨by have:=HLO.out;omega,hk⟩)),HYU.out⟩
   exact AllReadyH.nil
  exact AllReadyH.nil
 case rest =>
  obtain ⟨wx,rfl⟩:∃ wx,wx=wc:=⟨_,rfl⟩
  obtain ⟨b9,v5,rfl,he,h9,l9,hr,hb⟩:=hcut
  subst he
  have HO5:Hid (v5.oneCell'=true):=hid hr.one
  have HZ2:=hid ((HZ1.out.up hb).ref9 hr)
  have x9:XUp (XUp X w w1) w1 wx b9:=.inr ⟨l9,h9.lt⟩
  have X9:=hid x9
  have H9:=hid h9
  have hgb:w0.heap.size≠b9:=by have:=HZ1.out.t.lt;omega
  have HGB:=hid hgb
  clear HS HC h9 l9 hr hb x9 hgb
  generalize XUp (XUp X w w1) w1 wx=X2 at *
  have HWX:Hid (Below wx.heap.size wx wx.drew):=hid (Below.refl _ _).drew
  have HREAL:=hid (id (drop_x (HZ2.out.below HWX.out).tab (n:=a.num)))
  have HS7:Hid ((wx.drew.rangeAt b9 0 (rtV c last' v5).toList/\wx.drew.cell? ⟨w.heap.size,2,none⟩=some (.int .i64 a.num))):=hid ⟨blk_range (off:=0) (H9.out.fr (Fr.of_below (F:=fun _=>False) HWX.out) (fun e=>e)) rfl,(HZ2.out.below HWX.out).act.cell 2⟩
  go_upto_region 20 with (fail)
  refine wp_region_noPanic ?_
  refine wp_region_held_drew (S:=fun W=>W.rangeAt b9 0 (rtV c last' v5).toList/\W.cell? ⟨w.heap.size,2,none⟩=some (.int .i64 a.num)) (by kernel_rfl) (HS7.out) (fun hHeld=>?_)
  refine tkm 0 (rtV c last' v5) (b9) 0 (fun wq hSw=>hSw.1) Tryz.underlying71 ?_
  refine tk 1 ?_
  refine tk 2 ?_
  refine tk 3 ?_
  refine tk 5 ?_
  refine rd1 4 fun K hK=>?_
  go_simp
  refine (HREAL.out).mono ?_
  rintro e wy ⟨rfl,ht⟩
  have HZ3:=hid ((HZ2.out.below HWX.out).real ht)
  have H9Y:=hid ((H9.out.fr (Fr.of_below (F:=fun _=>False) HWX.out) (fun e=>e)).out X9.out ht.fr)
  have HS8:Hid ((wy.rangeAt b9 0 (rtV c last' v5).toList/\wy.cell? ⟨w.heap.size,2,none⟩=some (.int .i64 a.num))):=hid ⟨blk_range (off:=0) (H9Y.out) rfl,(HZ3.out).act.cell 2⟩
  clear ht
  go_wp2_with fail
  refine bk hK (HS8.out) fun hHeld=>?_
  clear hK K
  refine tk 6 ?_
  refine rd1 7 fun K hK=>?_
  refine stg 71 (.tmp 7) (.tmp 171) (w0.heap.size) (rtV c last' v5) (HZ3.out.t) (rtV_one HO5.out) ?_
  intro ut hkz hf
  have HF_ut:=hid hf
  have HK_ut:=hid hkz
  clear hf hkz
  have HZ5:=hid (HZ3.out.putT HF_ut.out HK_ut.out)
  have HSU:Hid (ut.rangeAt b9 0 (rtV c last' v5).toList/\ut.cell? ⟨w.heap.size,2,none⟩=some (.int .i64 a.num)):=hid (by
   have g1:=HGB.out
   exact ⟨blk_range (off:=0) (H9Y.out.fr HF_ut.out (fun e=>g1 e.symm)) rfl,(HZ5.out).act.cell 2⟩)
  refine bk hK (HSU.out) fun hHeld=>?_
  clear hK K
  refine tk 8 ?_
  refine dn9 (NoPanic.normal ?_)
  clear hHeld
  go_wp2_with (first|(refine wpl_load rfl 71 (.tmp 7) rfl w0.heap.size 0 rfl HZ5.out.t (rtV c last' v5).toList rfl _ Tryz.underlying71 rfl (by kernel_rfl) ?_)|(refine wpl_store rfl 71 (.tmp 198) (.tmp 197) rfl g 0 rfl (rtV c last' v5) rfl HZ5.out.bg (Nat.le_refl 9) (rtV c last' v5) rfl (by kernel_rfl) (rtV_one HO5.out) ?_;intro we hke hfe))
  go_ret
  obtain ⟨z1,z2,z3,z4,z5⟩:=HZ5.out.fin hfe hke
  refine ⟨hasS L a.num == hasS L' a.num,_,v5,rfl,(fun h1 h2=>by rw [h2];simp),z1,?_,?_,?_,z5⟩
  .rw [HEK.out];exact z2
  .rw [HEK.out];exact z3
  .rw [HEK.out];exact z4
set_option maxRecDepth 100000 in
set_option maxHeartbeats 16000000 in
theorem does5_any {X:Nat->Prop} {w:World} {p g:Nat} {c:Conf} {last last':Int} {L L':List SubP} {B:Nat} {v:Value} {a:ActN} {q:RqV} (H:Do9H X w p g c last last' L L' B v a q) (hk:a.kind=5) :
 Calls Tryz.prog 23 #[.pointer (some ⟨p,0,none⟩),.pointer (some ⟨g,0,none⟩),.agg (actN a q)] w (Do9Post X w p g c last last' L L' B a):=by
 obtain ⟨w0,hw0⟩:∃ w0,w.alloc (.cells (actN a q) 67)=w0:=⟨_,rfl⟩
 have hb0:Below w.heap.size w w0:=hw0▸(Below.refl _ _).alloc (Nat.le_refl _) _
 obtain ⟨A,nv,cp,rfl⟩:∃ A nv cp,v=.slice A nv cp:=by
  obtain ⟨xs,A,cp,_,e,_⟩:=H.ref
  exact ⟨A,xs.length,cp,e⟩
 have HH:=hid H
 have HRC:Hid (rightB c=true):=hid (by obtain ⟨l,Q⟩:=H.tab.sbq;exact Q.right)
 have HZR:Hid (∀ s∈L,SubZ s):=hid (by obtain ⟨l,Q⟩:=H.tab.sbq;exact Q.z)
 have HK0:=hid (H.box.fr (Fr.of_below (F:=fun _=>False) hb0) (fun e=>e))
 have HST:=hid (fun w1 hb hk=>H.start (w1:=w1) hw0 hb hk)
 have HS0:Hid (w.heap.size<w0.heap.size):=hid (by rw [<-hw0];simp)
 clear hb0 H
 go_enter Tryz.func23,Tryz.ntmps23
 go_upto_region 1 with (fail)
 try rw [hw0]
 clear hw0
 generalize hq0:Value.agg (actN a q)=q0
 clear hq0
 go_upto_region 2 with (first|(refine wpl_load rfl 71 (.tmp 28) rfl g 0 rfl HK0.out (rtV c last' (.slice A nv cp)).toList rfl _ Tryz.underlying71 rfl (by kernel_rfl) ?_)|(refine wpl_store rfl 71 (.tmp 7) (.tmp 29) rfl w0.heap.size 0 rfl (rtV c last' (.slice A nv cp)) rfl (rt_blk0 w0) (Nat.le_refl 9) (rtV c last' (.slice A nv cp)) rfl (by kernel_rfl) (rtV_one rfl) ?_;intro w1 hk1 hf1))
 have b1:Below w0.heap.size w0 w1:=((Below.refl w0.heap.size w0).alloc (Nat.le_refl _) _).trans (hf1.to_below (by simp) (fun k e=>by omega))
 have HZ1:=hid (HST.out w1 b1 hk1)
 have c0:w1.cell? ⟨w.heap.size,0,none⟩=some (.int .i64 a.kind):=HZ1.out.act.cell 0
 clear b1 hk1 hf1 HK0 HST
 have HEK:Hid (∀ last L,doS c last L a=_):=hid (fun last L=>doS5 (c:=c) (last:=last) (L:=L) hk)
 rw [hk] at c0
 clear hk
 go_upto_region 22 with (fail)
 have HS:Hid (∀ W,Below w1.heap.size w1 W->W.rangeAt g 0 (rtV c last' (.slice A nv cp)).toList/\W.rangeAt w.heap.size 5 (reqA a.r q).toList/\W.cell? ⟨w.heap.size,1,none⟩=some (.int .i64 a.now)):=hid (fun W hW=>by have h9:=HZ1.out.below hW;exact ⟨blk_range (off:=0) h9.bg rfl,blk_range (off:=5) h9.act rfl,h9.act.cell 1⟩)
 have HC:Hid (∀ W,Below w1.heap.size w1 W->Calls Tryz.prog 56 #[.agg (rtV c last' (.slice A nv cp)),.int .i64 a.now] W (RtePost (XUp X w w1) B c last' (expS L' a.now) (goneS L' a.now) W)):=hid (fun W hW=>by
  have h9:=HZ1.out.below hW
  exact rtexpire_any h9.ref h9.hBW (by have:=HH.out.ln;omega))
 unfold RtePost at HC
 have HW1:Hid (Below w1.heap.size w1 w1.drew):=hid (Below.refl _ _).drew
 clear c0
 go_cut [25,26] (fun p25 p26 wx=>Mid2 (fun e W=>RdV W 3 1 (goneS L' a.now).length e ((goneS L' a.now).map (Value.int .i64))) (XUp X w w1) w1 B c last' (expS L' a.now) p25 p26 wx)
 case first =>
  refine wp_region_noPanic (rgn HS.out HW1.out fun hHeld=>?_)
  refine tk 0 ?_
  refine tk 1 ?_
  refine tkm 2 (rtV c last' (.slice A nv cp)) (g) 0 (fun wq hSw=>hSw.1) Tryz.underlying71 ?_
  refine tk 3 ?_
  refine tk 4 ?_
  have HSZD:Hid (w1.heap.size<=w1.drew.heap.size):=hid (Nat.le_refl _)
  generalize w1.drew=wd at *
  refine wpAnyH_ready (rs:=[5,9]) (by kernel_rfl) (by simp) ?_
  refine rdc (fun K hK=>?_) ?_
  .go_simp
   refine (HC.out _ HW1.out).mono ?_
   rintro e wc ⟨v5,u5,rfl,hrd,hr,hb⟩
   have HYC:Hid (Below w1.heap.size w1 wc):=hid (HW1.out.trans (hb.mono HW1.out.size))
   have HCA:Hid (Cal (XUp X w w1) wd.heap.size wc.heap.size B (expS L' a.now) v5 noSub nilV wc):=hid (Cal.of hr (subw_none _ _) (HZ1.out.below HW1.out).hBW hb)
   have HLO:Hid (w1.heap.size<=wd.heap.size/\wd.heap.size<=wc.heap.size):=hid ⟨HW1.out.size,hb.size⟩
   have HHI:Hid (wc.heap.size<=wc.heap.size):=hid (Nat.le_refl _)
   have HO5:Hid (v5.oneCell'=true):=hid hr.one
   have HRD:=hid hrd
   clear hr hb hrd
   go_wp2_with fail
   refine bk hK (HS.out _ HYC.out) fun hHeld=>?_
   clear hK K
   refine tk 6 ?_
   refine tk 7 ?_
   refine tk 8 ?_
   refine wpAnyH_ready (rs:=[9]) (by kernel_rfl) (by simp) ?_
   refine rdc (fun K hK=>?_) ?_
   .go_simp
    have hb:Below wc.heap.size wc (wc.alloc (.cells rt0 71)):=(Below.refl _ _).alloc (Nat.le_refl _) _
    have hz:Blk (wc.alloc (.cells rt0 71)) wc.heap.size 71 rt0:=rt_blk0 wc
    obtain ⟨ub0,hu⟩:∃ u,wc.alloc (.cells rt0 71)=u:=⟨_,rfl⟩
    rw [hu] at hb hz
    unfold rt0 at hu
    rw [hu]
    clear hu
    obtain ⟨b0,hb0⟩:∃ b,wc.heap.size=b:=⟨_,rfl⟩
    have HBB0:=hid hb0
    rw [hb0] at hz ⊢
    have H0:=hid hz
    have HL0:Hid (w1.heap.size<=b0):=hid (by rw [<-hb0];exact HYC.out.size)
    have HYA0:Hid (Below w1.heap.size w1 ub0):=hid (HYC.out.trans (hb.mono HYC.out.size))
    have HO0:Hid (b0<wd.heap.size\/wc.heap.size<=b0):=hid (.inr (by rw [<-hb0];exact HHI.out))
    have HHI:Hid (wc.heap.size<=ub0.heap.size):=hid (Nat.le_trans HHI.out hb.size)
    have HCA:=hid (HCA.out.below hb)
    have HRD:=hid (HRD.out.below hb)
    clear hb hz hb0
    refine bk hK (HS.out _ HYA0.out) fun hHeld=>?_
    clear hK K
    refine rd1 10 fun K hK=>?_
    refine stg 71 (.tmp 25) (.tmp 187) (b0) (rtV c last' v5) (H0.out) (rtV_one HO5.out) ?_
    intro ua hkz hf
    have HF_ua:=hid hf
    have HK_ua:=hid hkz
    clear hf hkz
    have HYU:Hid (Below w1.heap.size w1 ua):=hid (HYA0.out.trans (HF_ua.out.to_below HYA0.out.size (fun k e=>by have:=HL0.out;omega)))
    have HCB:=hid (HCA.out.put HF_ua.out H0.out (by decide) (by decide) (by have:=HL0.out;have:=HZ1.out.tab.lt;intro e;have:=this _ e;omega) HO0.out (by have:=HL0.out;have:=HZ1.out.hBW;omega))
    have HRD:=hid (HRD.out.fr HF_ua.out (fun gb cs fr h9 e9=>by
     subst e9
     have h8:_=_:=H0.out
     rw [h9] at h8
     injection h8 with h8
     injection h8 with _ h8 _
     exact absurd h8 (by decide)))
    refine bk hK (HS.out _ HYU.out) fun hHeld=>?_
    clear hK K
    refine tk 11 ?_
    refine dn9 (NoPanic.normal ?_)
    clear hHeld
    go_wp2_with fail
    go_meet
    exact ⟨b0,v5,rfl,HRD.out,HK_ua.out,HL0.out,HCB.out.r.mono (fun k hk q=>q.imp id (fun q=>⟨by have:=HLO.out;omega,hk⟩)),HYU.out⟩
   exact AllReadyH.nil
  refine rdc (fun K hK=>?_) ?_
  .go_simp
   have hb:Below wd.heap.size wd (wd.alloc (.cells rt0 71)):=(Below.refl _ _).alloc (Nat.le_refl _) _
   have hz:Blk (wd.alloc (.cells rt0 71)) wd.heap.size 71 rt0:=rt_blk0 wd
   obtain ⟨ub0,hu⟩:∃ u,wd.alloc (.cells rt0 71)=u:=⟨_,rfl⟩
   rw [hu] at hb hz
   unfold rt0 at hu
   rw [hu]
   clear hu
   obtain ⟨b0,hb0⟩:∃ b,wd.heap.size=b:=⟨_,rfl⟩
   have HBB0:=hid hb0
   rw [hb0] at hz ⊢
   have H0:=hid hz
   have HL0:Hid (w1.heap.size<=b0):=hid (by rw [<-hb0];exact HW1.out.size)
   have HYA0:Hid (Below w1.heap.size w1 ub0):=hid (HW1.out.trans (hb.mono HW1.out.size))
   clear hb hz hb0
   refine bk hK (HS.out _ HYA0.out) fun hHeld=>?_
   clear hK K
   refine wpAnyH_ready (rs:=[5]) (by kernel_rfl) (by simp) ?_
   refine rdc (fun K hK=>?_) ?_
   .go_simp
    refine (HC.out _ HYA0.out).mono ?_
    rintro e wc ⟨v5,u5,rfl,hrd,hr,hb⟩
    have HYC:Hid (Below w1.heap.size w1 wc):=hid (HYA0.out.trans (hb.mono HYA0.out.size))
    have HCA:Hid (Cal (XUp X w w1) ub0.heap.size wc.heap.size B (expS L' a.now) v5 noSub nilV wc):=hid (Cal.of hr (subw_none _ _) (HZ1.out.below HYA0.out).hBW hb)
    have HLO:Hid (w1.heap.size<=ub0.heap.size/\ub0.heap.size<=wc.heap.size):=hid ⟨HYA0.out.size,hb.size⟩
    have HHI:Hid (wc.heap.size<=wc.heap.size):=hid (Nat.le_refl _)
    have HO5:Hid (v5.oneCell'=true):=hid hr.one
    have HRD:=hid hrd
    have HO0:Hid (b0<ub0.heap.size\/wc.heap.size<=b0):=hid (.inl H0.out.lt)
    have H0:=hid (H0.out.fr (Fr.of_below (F:=fun _=>False) hb) (fun e=>e))
    clear hr hb hrd
    go_wp2_with fail
    refine bk hK (HS.out _ HYC.out) fun hHeld=>?_
    clear hK K
    refine tk 6 ?_
    refine tk 7 ?_
    refine tk 8 ?_
    refine rd1 10 fun K hK=>?_
    refine stg 71 (.tmp 25) (.tmp 187) (b0) (rtV c last' v5) (H0.out) (rtV_one HO5.out) ?_
    intro ua hkz hf
    have HF_ua:=hid hf
    have HK_ua:=hid hkz
    clear hf hkz
    have HYU:Hid (Below w1.heap.size w1 ua):=hid (HYC.out.trans (HF_ua.out.to_below HYC.out.size (fun k e=>by have:=HL0.out;omega)))
    have HCB:=hid (HCA.out.put HF_ua.out H0.out (by decide) (by decide) (by have:=HL0.out;have:=HZ1.out.tab.lt;intro e;have:=this _ e;omega) HO0.out (by have:=HL0.out;have:=HZ1.out.hBW;omega))
    have HRD:=hid (HRD.out.fr HF_ua.out (fun gb cs fr h9 e9=>by
     subst e9
     have h8:_=_:=H0.out
     rw [h9] at h8
     injection h8 with h8
     injection h8 with _ h8 _
     exact absurd h8 (by decide)))
    refine bk hK (HS.out _ HYU.out) fun hHeld=>?_
    clear hK K
    refine tk 11 ?_
    refine dn9 (NoPanic.normal ?_)
    clear hHeld
    go_wp2_with fail
    go_meet
    exact ⟨b0,v5,rfl,HRD.out,HK_ua.out,HL0.out,HCB.out.r.mono (fun k hk q=>q.imp id (fun q=>⟨by have:=HLO.out;omega,hk⟩)),HYU.out⟩
   exact AllReadyH.nil
  exact AllReadyH.nil
 case rest =>
  obtain ⟨wx,rfl⟩:∃ wx,wx=wc:=⟨_,rfl⟩
  obtain ⟨b9,v5,rfl,he,h9,l9,hr,hb⟩:=hcut
  have HRD:=hid he
  obtain ⟨A6,c6,rfl,_⟩:=id he
  clear he
  have HO5:Hid (v5.oneCell'=true):=hid hr.one
  have HZ2:=hid ((HZ1.out.up hb).ref9 hr)
  have x9:XUp (XUp X w w1) w1 wx b9:=.inr ⟨l9,h9.lt⟩
  have X9:=hid x9
  have H9:=hid h9
  have hgb:w0.heap.size≠b9:=by have:=HZ1.out.t.lt;omega
  have HGB:=hid hgb
  clear HS HC h9 l9 hr hb x9 hgb
  generalize XUp (XUp X w w1) w1 wx=X2 at *
  have HWX:Hid (Below wx.heap.size wx wx.drew):=hid (Below.refl _ _).drew
  have HREAL:=hid (id (expire_xi (HZ2.out.below HWX.out).tab (now:=a.now)))
  have HS7:Hid ((wx.drew.rangeAt b9 0 (rtV c last' v5).toList/\wx.drew.cell? ⟨w.heap.size,1,none⟩=some (.int .i64 a.now))):=hid ⟨blk_range (off:=0) (H9.out.fr (Fr.of_below (F:=fun _=>False) HWX.out) (fun e=>e)) rfl,(HZ2.out.below HWX.out).act.cell 1⟩
  go_upto_region 23 with (fail)
  refine wp_region_noPanic ?_
  refine wp_region_held_drew (S:=fun W=>W.rangeAt b9 0 (rtV c last' v5).toList/\W.cell? ⟨w.heap.size,1,none⟩=some (.int .i64 a.now)) (by kernel_rfl) (HS7.out) (fun hHeld=>?_)
  refine tkm 0 (rtV c last' v5) (b9) 0 (fun wq hSw=>hSw.1) Tryz.underlying71 ?_
  refine tk 1 ?_
  refine tk 2 ?_
  refine tk 3 ?_
  refine tk 5 ?_
  refine rd1 4 fun K hK=>?_
  go_simp
  refine (HREAL.out).mono ?_
  rintro e wy ⟨⟨A7,c7,rfl,hrd7⟩,ht,hint⟩
  have HZ3:=hid ((HZ2.out.below HWX.out).real ht)
  have H9Y:=hid ((H9.out.fr (Fr.of_below (F:=fun _=>False) HWX.out) (fun e=>e)).out X9.out ht.fr)
  have HRDY:Hid (Rd wy 3 1 (goneS L' a.now).length A6 ((goneS L' a.now).map (Value.int .i64))):=hid (by
   obtain ⟨_,_,e9,_,_,h9⟩:=hint _ _ _ (HRD.out.below HWX.out)
   injection e9 with e9 _ _
   rw [e9]
   exact h9)
  have HRD7:Hid (Rd wy 3 1 (goneS L a.now).length A7 ((goneS L a.now).map (Value.int .i64))):=hid (by
   obtain ⟨_,_,e9,_,_,h9⟩:=hrd7
   injection e9 with e9 _ _
   rw [e9]
   exact h9)
  have HLS:Hid ((goneS L a.now).length<=maxLen/\(goneS L' a.now).length<=maxLen):=hid (by
   obtain ⟨l,Q⟩:=HH.out.tab.sbq
   have h1:=gone_len L a.now
   have h2:=gone_len L' a.now
   have h3:=HH.out.ln
   have h4:=Q.len
   have h5:=Q.subs
   unfold maxLen
   omega)
  have HS8:Hid ((wy.rangeAt b9 0 (rtV c last' v5).toList/\wy.cell? ⟨w.heap.size,1,none⟩=some (.int .i64 a.now))):=hid ⟨blk_range (off:=0) (H9Y.out) rfl,(HZ3.out).act.cell 1⟩
  clear ht hrd7 hint
  go_wp2_with fail
  refine bk hK (HS8.out) fun hHeld=>?_
  clear hK K
  refine rd1 6 fun K hK=>?_
  go_simp
  refine (rtints_any (a:=goneS L a.now) (b:=goneS L' a.now) HRD7.out HRDY.out HLS.out.1 HLS.out.2).mono ?_
  rintro e ws ⟨rfl,nd,hnd⟩
  have hbs:Below wy.heap.size wy ws:=by rw [hnd];exact below_drewN (Below.refl _ _) _
  clear hnd
  have HZ4:=hid (HZ3.out.below hbs)
  have H9W:=hid (H9Y.out.fr (Fr.of_below (F:=fun _=>False) hbs) (fun e=>e))
  have HS9:Hid ((ws.rangeAt b9 0 (rtV c last' v5).toList/\ws.cell? ⟨w.heap.size,1,none⟩=some (.int .i64 a.now))):=hid ⟨blk_range (off:=0) (H9W.out) rfl,(HZ4.out).act.cell 1⟩
  clear hbs
  go_wp2_with fail
  refine bk hK (HS9.out) fun hHeld=>?_
  clear hK K
  refine rd1 7 fun K hK=>?_
  refine stg 71 (.tmp 7) (.tmp 189) (w0.heap.size) (rtV c last' v5) (HZ4.out.t) (rtV_one HO5.out) ?_
  intro ut hkz hf
  have HF_ut:=hid hf
  have HK_ut:=hid hkz
  clear hf hkz
  have HZ5:=hid (HZ4.out.putT HF_ut.out HK_ut.out)
  have HSU:Hid (ut.rangeAt b9 0 (rtV c last' v5).toList/\ut.cell? ⟨w.heap.size,1,none⟩=some (.int .i64 a.now)):=hid (by
   have g1:=HGB.out
   exact ⟨blk_range (off:=0) (H9W.out.fr HF_ut.out (fun e=>g1 e.symm)) rfl,(HZ5.out).act.cell 1⟩)
  refine bk hK (HSU.out) fun hHeld=>?_
  clear hK K
  refine tk 8 ?_
  refine dn9 (NoPanic.normal ?_)
  clear hHeld
  go_wp2_with (first|(refine wpl_load rfl 71 (.tmp 7) rfl w0.heap.size 0 rfl HZ5.out.t (rtV c last' v5).toList rfl _ Tryz.underlying71 rfl (by kernel_rfl) ?_)|(refine wpl_store rfl 71 (.tmp 198) (.tmp 197) rfl g 0 rfl (rtV c last' v5) rfl HZ5.out.bg (Nat.le_refl 9) (rtV c last' v5) rfl (by kernel_rfl) (rtV_one HO5.out) ?_;intro we hke hfe))
  go_ret
  obtain ⟨z1,z2,z3,z4,z5⟩:=HZ5.out.fin hfe hke
  refine ⟨decide (goneS L a.now=goneS L' a.now),_,v5,rfl,(fun h1 h2=>by rw [h2];simp),z1,?_,?_,?_,z5⟩
  .rw [HEK.out];exact z2
  .rw [HEK.out];exact z3
  .rw [HEK.out];exact z4
set_option maxRecDepth 100000 in
set_option maxHeartbeats 16000000 in
theorem does6_any {X:Nat->Prop} {w:World} {p g:Nat} {c:Conf} {last last':Int} {L L':List SubP} {B:Nat} {v:Value} {a:ActN} {q:RqV} (H:Do9H X w p g c last last' L L' B v a q) (h0:a.kind≠0) (h1:a.kind≠1) (h2:a.kind≠2) (h3:a.kind≠3) (h4:a.kind≠4) (h5:a.kind≠5) :
 Calls Tryz.prog 23 #[.pointer (some ⟨p,0,none⟩),.pointer (some ⟨g,0,none⟩),.agg (actN a q)] w (Do9Post X w p g c last last' L L' B a):=by
 obtain ⟨w0,hw0⟩:∃ w0,w.alloc (.cells (actN a q) 67)=w0:=⟨_,rfl⟩
 have hb0:Below w.heap.size w w0:=hw0▸(Below.refl _ _).alloc (Nat.le_refl _) _
 obtain ⟨A,nv,cp,rfl⟩:∃ A nv cp,v=.slice A nv cp:=by
  obtain ⟨xs,A,cp,_,e,_⟩:=H.ref
  exact ⟨A,xs.length,cp,e⟩
 have HH:=hid H
 have HRC:Hid (rightB c=true):=hid (by obtain ⟨l,Q⟩:=H.tab.sbq;exact Q.right)
 have HZR:Hid (∀ s∈L,SubZ s):=hid (by obtain ⟨l,Q⟩:=H.tab.sbq;exact Q.z)
 have HK0:=hid (H.box.fr (Fr.of_below (F:=fun _=>False) hb0) (fun e=>e))
 have HST:=hid (fun w1 hb hk=>H.start (w1:=w1) hw0 hb hk)
 have HS0:Hid (w.heap.size<w0.heap.size):=hid (by rw [<-hw0];simp)
 clear hb0 H
 go_enter Tryz.func23,Tryz.ntmps23
 go_upto_region 1 with (fail)
 try rw [hw0]
 clear hw0
 generalize hq0:Value.agg (actN a q)=q0
 clear hq0
 go_upto_region 2 with (first|(refine wpl_load rfl 71 (.tmp 28) rfl g 0 rfl HK0.out (rtV c last' (.slice A nv cp)).toList rfl _ Tryz.underlying71 rfl (by kernel_rfl) ?_)|(refine wpl_store rfl 71 (.tmp 7) (.tmp 29) rfl w0.heap.size 0 rfl (rtV c last' (.slice A nv cp)) rfl (rt_blk0 w0) (Nat.le_refl 9) (rtV c last' (.slice A nv cp)) rfl (by kernel_rfl) (rtV_one rfl) ?_;intro w1 hk1 hf1))
 have b1:Below w0.heap.size w0 w1:=((Below.refl w0.heap.size w0).alloc (Nat.le_refl _) _).trans (hf1.to_below (by simp) (fun k e=>by omega))
 have HZ1:=hid (HST.out w1 b1 hk1)
 have c0:w1.cell? ⟨w.heap.size,0,none⟩=some (.int .i64 a.kind):=HZ1.out.act.cell 0
 clear b1 hk1 hf1 HK0 HST
 have y0:(a.kind == 0)=false:=by simpa using h0
 have y1:(a.kind == 1)=false:=by simpa using h1
 have y2:(a.kind == 2)=false:=by simpa using h2
 have y3:(a.kind == 3)=false:=by simpa using h3
 have y4:(a.kind == 4)=false:=by simpa using h4
 have y5:(a.kind == 5)=false:=by simpa using h5
 have HE6:Hid (∀ last L,doS c last L a=⟨last,L⟩):=hid (fun last L=>doS6 h0 h1 h2 h3 h4 h5)
 clear h0 h1 h2 h3 h4 h5
 go_wp2_with (first|(refine wpl_load rfl 71 (.tmp 7) rfl w0.heap.size 0 rfl HZ1.out.t (rtV c last' (.slice A nv cp)).toList rfl _ Tryz.underlying71 rfl (by kernel_rfl) ?_)|(refine wpl_store rfl 71 (.tmp 198) (.tmp 197) rfl g 0 rfl (rtV c last' (.slice A nv cp)) rfl HZ1.out.bg (Nat.le_refl 9) (rtV c last' (.slice A nv cp)) rfl (by kernel_rfl) (rtV_one rfl) ?_;intro we hke hfe))
 go_ret
 obtain ⟨z1,z2,z3,z4,z5⟩:=HZ1.out.fin hfe hke
 refine ⟨true,_,.slice A nv cp,rfl,fun _ _=>rfl,z1,?_,?_,?_,z5⟩
 .rw [HE6.out];exact z2
 .rw [HE6.out];exact z3
 .rw [HE6.out];exact z4
theorem does9_any {X:Nat->Prop} {w:World} {p g:Nat} {c:Conf} {last last':Int} {L L':List SubP} {B:Nat} {v:Value} {a:ActN} {q:RqV} (H:Do9H X w p g c last last' L L' B v a q) :
 Calls Tryz.prog 23 #[.pointer (some ⟨p,0,none⟩),.pointer (some ⟨g,0,none⟩),.agg (actN a q)] w (Do9Post X w p g c last last' L L' B a):=by
 by_cases h0:a.kind=0
 .exact does0_any H h0
 by_cases h1:a.kind=1
 .exact does1_any H h1
 by_cases h2:a.kind=2
 .exact does2_any H h2
 by_cases h3:a.kind=3
 .exact does3_any H h3
 by_cases h4:a.kind=4
 .exact does4_any H h4
 by_cases h5:a.kind=5
 .exact does5_any H h5
 exact does6_any H h0 h1 h2 h3 h4 h5
end Go.Proofs.YthkadehlclcggaaGreatDoor
