/- Chapter 19, the document's answer: Again. -/
import Derived.Test.YthkadehlclcggaaGreatDoorGx77
import Derived.Test.YthkadehlclcggaaGreatDoorGx74
import Derived.Test.YthkadehlclcggaaGreatDoorGx59
namespace Go.Proofs.YthkadehlclcggaaGreatDoor
set_option linter.unusedSimpArgs false
set_option linter.unusedVariables false
open Go.RowKit
open Go.Lib (hid)
set_option maxRecDepth 100000 in
set_option maxHeartbeats 16000000 in
theorem rtagain_any {w:World} {N:Nat->Prop} {B:Nat} {L:List SubP} {v:Value} {c:Conf} {last now n:Int} {r:ReqP} {q:RqV} (H:RfL w N B L v) (hB:B<=w.heap.size) (hl:L.length<=1000) (hnd:(L.map (·.number)).Nodup) (hlt:∀ k,N k->k<w.heap.size) (hzL:∀ s∈L,SubZ s) (hrc:rightB c=true) (h:ReqB w B r q) (hz:ReqZ r) :
 Calls Tryz.prog 52 #[.agg (rtV c last v),.int .i64 now,.int .i64 n,.agg (reqA r q)] w (RbgPost N B c last (agaS c L now n r) w):=by
 obtain ⟨w0,hw0⟩:∃ w0,(((w.alloc (.cells (rtV c last v) 71)).alloc (.cells (reqA r q) 45)).alloc (.cells rt0 71)).alloc (.cells sub0 39)=w0:=⟨_,rfl⟩
 obtain ⟨hs0,hbx⟩:=rb_box hw0
 have HS0:=hid hs0
 have HBX:=hid hbx
 have HR:=hid H
 have HBZ:=hid hB
 have HL:=hid hl
 have HZ:=hid hz
 have HRQ:Hid (∀ W,Below w.heap.size w W->ReqB W B r q/\B<=W.heap.size):=hid (fun W hW=>⟨h.below (hW.mono hB),Nat.le_trans hB hW.size⟩)
 have HSL:=hid (sec_lo hrc r.exp)
 have HND:=hid hnd
 have HN:=hid hlt
 have HZL:=hid hzL
 have HSEC:Hid (∀ W,Calls Tryz.prog 18 #[.agg #[.string (str c.host),.int .i64 c.calls,.int .i64 c.pubs,.int .i64 c.subs,.int .i64 c.least,.int .i64 c.most,.int .i64 c.usual],.int .i64 r.exp] W fun e w'=>e=.returned (.tuple #[.int .i64 (secN c r.exp),.bool (secK c r.exp)])/\Below W.heap.size W w'):=hid (fun W=>rseconds_any c r.exp W)
 have HPL:Hid (∀ W,Below w.heap.size w W->Calls Tryz.prog 31 #[.agg (rtV c last v),.int .i64 n] W (PlsPost L n W)):=hid (fun W hW=>rplace_any (H.below hW hB) (by omega))
 unfold PlsPost at HPL
 have HW:=hid (plcS_ways L n)
 obtain ⟨xs,A,cp,hxs,rfl,hcp,hmx,hrd,hN,hsw⟩:=H
 have HXS:=hid hxs
 have HRD:Hid (∀ W,Below w0.heap.size w0 W->Rd W 39 34 xs.length A (rows subC xs)):=hid (fun W hW=>hrd.below (hbx W hW).be)
 have HSW:Hid (∀ W,Below w.heap.size w W->∀ x∈xs,SubW W B x.s x.v):=hid (fun W hW x hx=>(hsw x hx).below hW hB)
 have HERR:Hid (∀ W wz e,Below w0.heap.size w0 W->Fr (fun k=>k=w.heap.size+1+1\/k=w.heap.size+1+1+1) W wz->agaS c L now n r=⟨0,L,noSub,e⟩->RbgPost N B c last (agaS c L now n r) w (.returned (.tuple #[.agg (rtV c last (.slice A xs.length cp)),.agg sub0,.int .i64 e])) wz):=hid (fun W wz e hW hf hR=>(HBX.out W hW).err HR.out HBZ.out hf hR)
 have HT0:Hid (tickB now=false->agaS c L now n r=⟨0,L,noSub,1⟩):=hid (fun h=>by unfold agaS;rw [if_pos h])
 have HT1:Hid (tickB now=true->L.find? (fun s=>decide (s.number=n))=none->agaS c L now n r=⟨0,L,noSub,6⟩):=hid (fun h h2=>by unfold agaS;rw [if_neg (by rw [h];decide),h2])
 have HT2:Hid (∀ j,∀ hj:j<L.length,L[j].number=n->_):=hid (fun j hj hjn=>by
  have h9:=aga_ways (c:=c) (now:=now) (r:=r) hnd (List.getElem_mem hj)
  rw [hjn] at h9
  exact h9)
 generalize hR:agaS c L now n r=R at *
 clear hrc hbx hs0 hB hl hz h hxs hcp hmx hrd hN hsw hR hnd hlt hzL
 unfold rt0 sub0 at hw0
 go_enter Tryz.func52,Tryz.ntmps52
 go_upto_region 1 with (fail)
 try rw [hw0]
 clear hw0
 go_upto_region 2 with (refine wpl_store rfl 39 (.tmp 11) (.tmp 18) rfl w0.heap.size 0 rfl sub0 rfl (sub_blk0 w0) (Nat.le_refl 34) sub0 rfl (by kernel_rfl) sub0_one ?_;intro w1 hk6 hf6)
 have b1:Below w0.heap.size w0 w1:=((Below.refl w0.heap.size w0).alloc (Nat.le_refl _) _).trans (hf6.to_below (by simp) (fun k e=>by omega))
 have HB1:=hid b1
 have HK6:Hid (∀ W,Below w1.heap.size w1 W->Blk W w0.heap.size 39 sub0):=hid (fun W hW=>hk6.fr (Fr.of_below (F:=fun _=>False) hW) (fun h=>h))
 have HB0:Hid (∀ W,Below w1.heap.size w1 W->Below w0.heap.size w0 W):=hid (fun W hW=>b1.trans (hW.mono b1.size))
 have HSE:Hid (∀ W W',Below w1.heap.size w1 W->Fr (fun k=>k=w.heap.size+1+1\/k=w.heap.size+1+1+1) W W'->W'.rangeAt w.heap.size 0 (rtV c last (.slice A xs.length cp)).toList/\W'.rangeAt w0.heap.size 0 sub0.toList):=hid (fun W W' hW hf=>⟨blk_range (off:=0) ((HBX.out _ (HB0.out _ hW)).t.fr hf (by omega)) rfl,blk_range (off:=0) ((HK6.out _ hW).fr hf (by have:=HS0.out;omega)) rfl⟩)
 have HRB:=hid (HBX.out _ HB1.out)
 clear b1 hk6 hf6
 go_upto_region 3 with (first|(refine wpl_load rfl 71 (.tmp 4) rfl w.heap.size 0 rfl HRB.out.t (rtV c last (.slice A xs.length cp)).toList rfl _ Tryz.underlying71 rfl (by kernel_rfl) ?_)|(go_at_call 31;refine (HPL.out _ HRB.out.be).mono ?_;rintro e w2 ⟨rfl,hb2⟩;have HX2:=hid hb2;clear hb2))
 clear HPL
 go_cut [27] (fun v wx=>v=.bool (!tickB now)/\w2=wx)
 case first =>
  by_cases n0:now<0
  .have HBT:Hid ((!tickB now)=true):=hid (by unfold tickB;simp;omega)
   go_wp2_with fail
   go_meet
   exact ⟨by rw [HBT.out],rfl⟩
  .by_cases n1:now<=549755813888
   .have z2:decide (now > 549755813888)=false:=decide_eq_false (by omega)
    have HBT:Hid ((!tickB now)=false):=hid (by unfold tickB;simp;omega)
    clear n1
    go_wp2_with fail
    go_meet
    exact ⟨by rw [HBT.out],rfl⟩
   .have z2:decide (now > 549755813888)=true:=decide_eq_true (by omega)
    have HBT:Hid ((!tickB now)=true):=hid (by unfold tickB;simp;omega)
    clear n1
    go_wp2_with fail
    go_meet
    exact ⟨by rw [HBT.out],rfl⟩
 case rest =>
  obtain ⟨rfl,rfl⟩:=hcut
  cases htk:tickB now with
  | false =>
    have HE:=hid (HT0.out htk)
    clear htk
    have qt:(!false)=true:=rfl
    go_upto_region 4 with (fail)
    have HXD:Hid (Below w1.heap.size w1 (w2).drew):=hid (HX2.out.trans (Below.refl w1.heap.size w2).drew)
    refine wp_region_noPanic ?_
    refine wp_region_held_drew (S:=fun W=>W.rangeAt w.heap.size 0 (rtV c last (.slice A xs.length cp)).toList/\W.rangeAt w0.heap.size 0 sub0.toList) (by kernel_rfl) (HSE.out _ _ HXD.out (Fr.refl _ _)) (fun hHeld=>?_)
    refine tkm 0 (rtV c last (.slice A xs.length cp)) (w.heap.size) 0 (fun wq hSw=>hSw.1) Tryz.underlying71 ?_
    refine tkm 1 sub0 (w0.heap.size) 0 (fun wq hSw=>hSw.2) Tryz.underlying39 ?_
    refine rd1 2 fun K hK=>?_
    refine stg 71 (.tmp 8) (.tmp 28) (w.heap.size+1+1) (rtV c last (.slice A xs.length cp)) ((HBX.out _ (HB1.out.trans (HXD.out.mono HB1.out.size))).z) (rtV_one rfl) ?_
    intro ua hkz hf
    have HF_ua:=hid hf
    have HK_ua:=hid hkz
    clear hf hkz
    refine bk hK (HSE.out _ _ HXD.out (HF_ua.out.mono (fun k _ e=>.inl e))) fun hHeld=>?_
    clear hK K
    refine rd1 3 fun K hK=>?_
    refine stg 39 (.tmp 9) (.tmp 29) (w.heap.size+1+1+1) sub0 ((HBX.out _ (HB1.out.trans (HXD.out.mono HB1.out.size))).s.fr HF_ua.out (by omega)) sub0_one ?_
    intro ub hkz hf
    have HF_ub:=hid hf
    have HK_ub:=hid hkz
    clear hf hkz
    refine bk hK (HSE.out _ _ HXD.out ((HF_ua.out.mono (fun k _ e=>.inl e)).trans (G:=fun k=>k=w.heap.size+1+1+1) HF_ub.out (fun k _ e=>.inr e))) fun hHeld=>?_
    clear hK K
    refine tk 4 ?_
    refine dn9 (NoPanic.normal ?_)
    clear hHeld
    go_wp2_with fail
    refine ret_cell3 rfl rfl rfl rfl rfl (HK_ua.out.fr HF_ub.out (by omega)) HK_ub.out _ _ Tryz.underlying71 Tryz.underlying39 rfl rfl (by kernel_rfl) (by kernel_rfl) ?_
    exact HERR.out _ _ _ (HB0.out _ HXD.out) ((HF_ua.out.mono (fun k _ e=>.inl e)).trans (G:=fun k=>k=w.heap.size+1+1+1) HF_ub.out (fun k _ e=>.inr e)) HE.out
  | true =>
    have HTK:=hid htk
    clear htk
    rcases HW.out with ⟨hp,hfd⟩|⟨j,hj,hp,hfd,hjn⟩
    .have HE:=hid (HT1.out HTK.out hfd)
     rw [hp]
     clear hp hfd
     go_upto_region 6 with (fail)
     have HXD:Hid (Below w1.heap.size w1 (w2).drew):=hid (HX2.out.trans (Below.refl w1.heap.size w2).drew)
     refine wp_region_noPanic ?_
     refine wp_region_held_drew (S:=fun W=>W.rangeAt w.heap.size 0 (rtV c last (.slice A xs.length cp)).toList/\W.rangeAt w0.heap.size 0 sub0.toList) (by kernel_rfl) (HSE.out _ _ HXD.out (Fr.refl _ _)) (fun hHeld=>?_)
     refine tkm 0 (rtV c last (.slice A xs.length cp)) (w.heap.size) 0 (fun wq hSw=>hSw.1) Tryz.underlying71 ?_
     refine tkm 1 sub0 (w0.heap.size) 0 (fun wq hSw=>hSw.2) Tryz.underlying39 ?_
     refine rd1 2 fun K hK=>?_
     refine stg 71 (.tmp 8) (.tmp 41) (w.heap.size+1+1) (rtV c last (.slice A xs.length cp)) ((HBX.out _ (HB1.out.trans (HXD.out.mono HB1.out.size))).z) (rtV_one rfl) ?_
     intro ua hkz hf
     have HF_ua:=hid hf
     have HK_ua:=hid hkz
     clear hf hkz
     refine bk hK (HSE.out _ _ HXD.out (HF_ua.out.mono (fun k _ e=>.inl e))) fun hHeld=>?_
     clear hK K
     refine rd1 3 fun K hK=>?_
     refine stg 39 (.tmp 9) (.tmp 42) (w.heap.size+1+1+1) sub0 ((HBX.out _ (HB1.out.trans (HXD.out.mono HB1.out.size))).s.fr HF_ua.out (by omega)) sub0_one ?_
     intro ub hkz hf
     have HF_ub:=hid hf
     have HK_ub:=hid hkz
     clear hf hkz
     refine bk hK (HSE.out _ _ HXD.out ((HF_ua.out.mono (fun k _ e=>.inl e)).trans (G:=fun k=>k=w.heap.size+1+1+1) HF_ub.out (fun k _ e=>.inr e))) fun hHeld=>?_
     clear hK K
     refine tk 4 ?_
     refine dn9 (NoPanic.normal ?_)
     clear hHeld
     go_wp2_with fail
     refine ret_cell3 rfl rfl rfl rfl rfl (HK_ua.out.fr HF_ub.out (by omega)) HK_ub.out _ _ Tryz.underlying71 Tryz.underlying39 rfl rfl (by kernel_rfl) (by kernel_rfl) ?_
     exact HERR.out _ _ _ (HB0.out _ HXD.out) ((HF_ua.out.mono (fun k _ e=>.inl e)).trans (G:=fun k=>k=w.heap.size+1+1+1) HF_ub.out (fun k _ e=>.inr e)) HE.out
    .have hjx:j<xs.length:=by have h9:=congrArg List.length HXS.out;rw [List.length_map] at h9;omega
     have HXJ:Hid (xs[j].s=L[j]):=hid (by
      have h9:(xs.map (·.s))[j]'(by simpa using hjx)=L[j]:=by simp only [HXS.out]
      simpa using h9)
     have x0:(0:Int)<=j:=by omega
     have x1:(j:Int)<xs.length:=by omega
     have x2:decide ((j:Int)<0)=false:=decide_eq_false (by omega)
     have x3:¬(j:Int)<0:=by omega
     obtain ⟨gb,off,rfl,_,hc⟩:=sb_row (HRD.out _ (HB0.out _ HX2.out)) hjx
     have HRG:=hid (sb_range hc)
     have c8:w2.cell? ⟨w.heap.size,8,none⟩=some (.slice (some ⟨gb,off,none⟩) xs.length cp):=(HBX.out _ (HB0.out _ HX2.out)).t.cell 8
     have HWY:=hid (HT2.out j hj hjn)
     have HJN:=hid hjn
     have HJ:=hid hj
     rw [hp]
     clear hp hfd hc hjn
     have HX1:Hid (∀ W,Below w.heap.size w W->SubW W B L[j] xs[j].v):=hid (fun W hW=>by
      have h8:=HSW.out W hW _ (List.getElem_mem hjx)
      rw [HXJ.out] at h8
      exact h8)
     have HRX:Hid (w2.rangeAt gb (off+j*34) (subA L[j] xs[j].v).toList):=hid (by
      have h9:w2.rangeAt gb (off+j*34) (subA xs[j].s xs[j].v).toList:=HRG.out
      rw [HXJ.out] at h9
      exact h9)
     have HZS:=hid (HZL.out _ (List.getElem_mem hj))
     have HWT:Hid (∀ s9 sv9 W,L[j].number=s9.number->Below w.heap.size w W->SubW W B s9 sv9->Calls Tryz.prog 98 #[.agg (rtV c last (.slice (some ⟨gb,off,none⟩) xs.length cp)),.int .i64 j,.agg (subA s9 sv9)] W (RtPost N B c last (setS L s9) W)):=hid (fun s9 sv9 W hn9 hW hs9=>by
      rw [setS_set HND.out hj hn9]
      exact rwith_any (HR.out.below hW HBZ.out) (Nat.le_trans HBZ.out hW.size) HL.out hj hs9)
     clear HT0 HT1 HT2 HXJ HRG HSW
     generalize hq:L[j]=s at *
     generalize xs[j].v=sv at *
     have HOX:=hid (subA_one (s:=s) (HX1.out _ (Below.refl _ _)).ev.one (HX1.out _ (Below.refl _ _)).d.one)
     have p5:w2.cell? ⟨gb,off+j*34+5,none⟩=some (.int .i64 s.state):=HRX.out 5 _ rfl
     clear hq
     by_cases hst:s.state=2
     .have HE:Hid (R=⟨0,L,noSub,6⟩):=hid (by
       rcases HWY.out with ⟨a,_⟩|⟨_,_,a⟩|⟨_,a,_⟩|⟨_,a,_⟩|⟨_,a,_⟩|⟨_,a,_⟩
       .rw [HTK.out] at a;cases a
       .exact a
       all_goals exact absurd hst a)
      have y5:(s.state == 2)=true:=by simpa using hst
      clear hst
      go_upto_region 6 with (fail)
      clear p5 c8 y5
      have HXD:Hid (Below w1.heap.size w1 (w2).drew):=hid (HX2.out.trans (Below.refl w1.heap.size w2).drew)
      refine wp_region_noPanic ?_
      refine wp_region_held_drew (S:=fun W=>W.rangeAt w.heap.size 0 (rtV c last (.slice (some ⟨gb,off,none⟩) xs.length cp)).toList/\W.rangeAt w0.heap.size 0 sub0.toList) (by kernel_rfl) (HSE.out _ _ HXD.out (Fr.refl _ _)) (fun hHeld=>?_)
      refine tkm 0 (rtV c last (.slice (some ⟨gb,off,none⟩) xs.length cp)) (w.heap.size) 0 (fun wq hSw=>hSw.1) Tryz.underlying71 ?_
      refine tkm 1 sub0 (w0.heap.size) 0 (fun wq hSw=>hSw.2) Tryz.underlying39 ?_
      refine rd1 2 fun K hK=>?_
      refine stg 71 (.tmp 8) (.tmp 41) (w.heap.size+1+1) (rtV c last (.slice (some ⟨gb,off,none⟩) xs.length cp)) ((HBX.out _ (HB1.out.trans (HXD.out.mono HB1.out.size))).z) (rtV_one rfl) ?_
      intro ua hkz hf
      have HF_ua:=hid hf
      have HK_ua:=hid hkz
      clear hf hkz
      refine bk hK (HSE.out _ _ HXD.out (HF_ua.out.mono (fun k _ e=>.inl e))) fun hHeld=>?_
      clear hK K
      refine rd1 3 fun K hK=>?_
      refine stg 39 (.tmp 9) (.tmp 42) (w.heap.size+1+1+1) sub0 ((HBX.out _ (HB1.out.trans (HXD.out.mono HB1.out.size))).s.fr HF_ua.out (by omega)) sub0_one ?_
      intro ub hkz hf
      have HF_ub:=hid hf
      have HK_ub:=hid hkz
      clear hf hkz
      refine bk hK (HSE.out _ _ HXD.out ((HF_ua.out.mono (fun k _ e=>.inl e)).trans (G:=fun k=>k=w.heap.size+1+1+1) HF_ub.out (fun k _ e=>.inr e))) fun hHeld=>?_
      clear hK K
      refine tk 4 ?_
      refine dn9 (NoPanic.normal ?_)
      clear hHeld
      go_wp2_with fail
      refine ret_cell3 rfl rfl rfl rfl rfl (HK_ua.out.fr HF_ub.out (by omega)) HK_ub.out _ _ Tryz.underlying71 Tryz.underlying39 rfl rfl (by kernel_rfl) (by kernel_rfl) ?_
      exact HERR.out _ _ _ (HB0.out _ HXD.out) ((HF_ua.out.mono (fun k _ e=>.inl e)).trans (G:=fun k=>k=w.heap.size+1+1+1) HF_ub.out (fun k _ e=>.inr e)) HE.out
     .have y5:(s.state == 2)=false:=by simpa using hst
      have HWZ:Hid (((takR s.dlg r).err≠0/\R=⟨0,L,noSub,(takR s.dlg r).err⟩)\/((takR s.dlg r).err=0/\evIs s.ev r.ev=false/\R=⟨0,L,noSub,81⟩)\/((takR s.dlg r).err=0/\evIs s.ev r.ev=true/\secK c r.exp=false/\R=⟨0,L,noSub,161⟩)\/((takR s.dlg r).err=0/\evIs s.ev r.ev=true/\secK c r.exp=true/\R=⟨0,setS L (lastsS (agaN s r) now (secN c r.exp)),lastsS (agaN s r) now (secN c r.exp),0⟩)):=hid (by
       rcases HWY.out with ⟨a,_⟩|⟨_,a,_⟩|⟨_,_,a⟩|⟨_,_,a⟩|⟨_,_,a⟩|⟨_,_,a⟩
       .rw [HTK.out] at a;cases a
       .exact absurd a hst
       .exact .inl a
       .exact .inr (.inl a)
       .exact .inr (.inr (.inl a))
       .exact .inr (.inr (.inr a)))
      clear hst HWY
      go_upto_region 8 with (first|(refine wpList_load_mid rfl 39 (.tmp 46) rfl gb (off+j*34) rfl (subA s sv).toList _ HRX.out Tryz.underlying39 rfl (by kernel_rfl) ?_)|(refine wpl_store rfl 39 (.tmp 13) (.tmp 47) rfl w2.heap.size 0 rfl (subA s sv) rfl (sub_blk0 w2) (Nat.le_refl 34) (subA s sv) rfl (by kernel_rfl) HOX.out ?_;intro w3 hk3 hf3))
      have b3:Below w2.heap.size w2 w3:=((Below.refl w2.heap.size w2).alloc (Nat.le_refl _) _).trans (hf3.to_below (by simp) (fun k e=>by omega))
      have HX3:Hid (Below w1.heap.size w1 w3):=hid (HX2.out.trans (b3.mono HX2.out.size))
      have HK3:=hid hk3
      have HTAK:Hid (∀ W,Below w1.heap.size w1 W->Calls Tryz.prog 96 #[.agg (dlgA s.dlg sv),.agg (reqA r q)] W (RTkPost B s.dlg r W)):=hid (fun W hW=>by
       have hbw:=(HBX.out _ (HB0.out _ hW)).be
       exact rTake_any (HRQ.out _ hbw).2 (HX1.out _ hbw).d (HRQ.out _ hbw).1 HZS.out.pl HZS.out.pr)
      unfold RTkPost at HTAK
      clear b3 hk3 hf3 p5 c8 y5 x0 x1 x2 x3
      go_upto_region 9 with (first|(refine wpl_load rfl 37 (.tmp 49) rfl w2.heap.size 8 rfl HK3.out (dlgA s.dlg sv).toList rfl _ Tryz.underlying37 rfl (by kernel_rfl) ?_)|(refine wpl_load rfl 45 (.tmp 7) rfl (w.heap.size+1) 0 rfl (HBX.out _ (HB0.out _ HX3.out)).q (reqA r q).toList rfl _ Tryz.underlying45 rfl (by kernel_rfl) ?_)|(go_at_call 96;refine (HTAK.out _ HX3.out).mono ?_;rintro e w4 ⟨dv,rfl,hdw,hb4⟩;have HDW:=hid hdw;have HB4:=hid hb4;clear hdw hb4)|(refine wpl_store rfl 37 (.tmp 14) (.tmp 53) rfl w4.heap.size 0 rfl (dlgA (takR s.dlg r).dlg dv) rfl (dlg_blk0 w4) (Nat.le_refl 26) (dlgA (takR s.dlg r).dlg dv) rfl (by kernel_rfl) (dlgA_one HDW.out.one) ?_;intro w5 hk5 hf5))
      have b5:Below w4.heap.size w4 w5:=((Below.refl w4.heap.size w4).alloc (Nat.le_refl _) _).trans (hf5.to_below (by simp) (fun k e=>by omega))
      have HX4:Hid (Below w1.heap.size w1 w4):=hid (HX3.out.trans (HB4.out.mono HX3.out.size))
      have HX5:Hid (Below w1.heap.size w1 w5):=hid (HX4.out.trans (b5.mono HX4.out.size))
      have HB35:Hid (Below w3.heap.size w3 w5):=hid (HB4.out.trans (b5.mono HB4.out.size))
      have HK5:=hid hk5
      have HBW1:Hid (B<=w1.heap.size):=hid (Nat.le_trans HBZ.out HRB.out.be.size)
      have HDW5:=hid (HDW.out.below b5 (Nat.le_trans HBW1.out HX4.out.size))
      have HK35:=hid (HK3.out.fr (Fr.of_below (F:=fun _=>False) HB35.out) (fun h=>h))
      clear b5 hk5 hf5 HTAK
      rcases HWZ.out with ⟨h3,hE⟩|⟨h3,h4,hE⟩|⟨h3,h4,h5,hE⟩|⟨h3,h4,h5,hE⟩
      .have HE:=hid hE
       clear hE
       generalize (takR s.dlg r).err=E at *
       have q1:(E != 0)=true:=by simpa using h3
       clear h3
       go_upto_region 10 with (fail)
       have HXD:Hid (Below w1.heap.size w1 (w5).drew):=hid (HX5.out.trans (Below.refl w1.heap.size w5).drew)
       refine wp_region_noPanic ?_
       refine wp_region_held_drew (S:=fun W=>W.rangeAt w.heap.size 0 (rtV c last (.slice (some ⟨gb,off,none⟩) xs.length cp)).toList/\W.rangeAt w0.heap.size 0 sub0.toList) (by kernel_rfl) (HSE.out _ _ HXD.out (Fr.refl _ _)) (fun hHeld=>?_)
       refine tkm 0 (rtV c last (.slice (some ⟨gb,off,none⟩) xs.length cp)) (w.heap.size) 0 (fun wq hSw=>hSw.1) Tryz.underlying71 ?_
       refine tkm 1 sub0 (w0.heap.size) 0 (fun wq hSw=>hSw.2) Tryz.underlying39 ?_
       refine tk 2 ?_
       refine rd1 3 fun K hK=>?_
       refine stg 71 (.tmp 8) (.tmp 57) (w.heap.size+1+1) (rtV c last (.slice (some ⟨gb,off,none⟩) xs.length cp)) ((HBX.out _ (HB1.out.trans (HXD.out.mono HB1.out.size))).z) (rtV_one rfl) ?_
       intro ua hkz hf
       have HF_ua:=hid hf
       have HK_ua:=hid hkz
       clear hf hkz
       refine bk hK (HSE.out _ _ HXD.out (HF_ua.out.mono (fun k _ e=>.inl e))) fun hHeld=>?_
       clear hK K
       refine rd1 4 fun K hK=>?_
       refine stg 39 (.tmp 9) (.tmp 58) (w.heap.size+1+1+1) sub0 ((HBX.out _ (HB1.out.trans (HXD.out.mono HB1.out.size))).s.fr HF_ua.out (by omega)) sub0_one ?_
       intro ub hkz hf
       have HF_ub:=hid hf
       have HK_ub:=hid hkz
       clear hf hkz
       refine bk hK (HSE.out _ _ HXD.out ((HF_ua.out.mono (fun k _ e=>.inl e)).trans (G:=fun k=>k=w.heap.size+1+1+1) HF_ub.out (fun k _ e=>.inr e))) fun hHeld=>?_
       clear hK K
       refine tk 5 ?_
       refine dn9 (NoPanic.normal ?_)
       clear hHeld
       go_wp2_with fail
       refine ret_cell3 rfl rfl rfl rfl rfl (HK_ua.out.fr HF_ub.out (by omega)) HK_ub.out _ _ Tryz.underlying71 Tryz.underlying39 rfl rfl (by kernel_rfl) (by kernel_rfl) ?_
       exact HERR.out _ _ _ (HB0.out _ HXD.out) ((HF_ua.out.mono (fun k _ e=>.inl e)).trans (G:=fun k=>k=w.heap.size+1+1+1) HF_ub.out (fun k _ e=>.inr e)) HE.out
      .have HE:=hid hE
       rw [h3]
       have p3:w5.cell? ⟨w2.heap.size,3,none⟩=some (.string (str s.ev.name)):=HK35.out.cell 3
       have p4:w5.cell? ⟨w2.heap.size,4,none⟩=some sv.ev:=HK35.out.cell 4
       have p30:w5.cell? ⟨w.heap.size+1,30,none⟩=some (.string (str r.ev.name)):=(HBX.out _ (HB0.out _ HX5.out)).q.cell 30
       have p31:w5.cell? ⟨w.heap.size+1,31,none⟩=some q.ev:=(HBX.out _ (HB0.out _ HX5.out)).q.cell 31
       have HIS:Hid (∀ W,Below w1.heap.size w1 W->Calls Tryz.prog 97 #[.agg #[.string (str s.ev.name),sv.ev],.agg #[.string (str r.ev.name),q.ev]] W (IsPost s.ev r.ev W)):=hid (fun W hW=>by
        have hbw:=(HBX.out _ (HB0.out _ hW)).be
        exact rIs_any (Nat.le_refl _) ((HX1.out _ hbw).ev.prB (HRQ.out _ hbw).2) (PrB.up (HRQ.out _ hbw).1.ev (HRQ.out _ hbw).2) HZS.out.pe HZ.out.evP)
       unfold IsPost at HIS
       rw [h4] at HIS
       clear h3 h4 hE
       go_upto_region 12 with ((go_at_call 97;refine (HIS.out _ HX5.out).mono ?_;rintro e w6 ⟨rfl,hb6⟩;have HB6:=hid hb6;clear hb6))
       have HX6:Hid (Below w1.heap.size w1 w6):=hid (HX5.out.trans (HB6.out.mono HX5.out.size))
       clear p3 p4 p30 p31 HIS
       have HXD:Hid (Below w1.heap.size w1 (w6).drew):=hid (HX6.out.trans (Below.refl w1.heap.size w6).drew)
       refine wp_region_noPanic ?_
       refine wp_region_held_drew (S:=fun W=>W.rangeAt w.heap.size 0 (rtV c last (.slice (some ⟨gb,off,none⟩) xs.length cp)).toList/\W.rangeAt w0.heap.size 0 sub0.toList) (by kernel_rfl) (HSE.out _ _ HXD.out (Fr.refl _ _)) (fun hHeld=>?_)
       refine tkm 0 (rtV c last (.slice (some ⟨gb,off,none⟩) xs.length cp)) (w.heap.size) 0 (fun wq hSw=>hSw.1) Tryz.underlying71 ?_
       refine tkm 1 sub0 (w0.heap.size) 0 (fun wq hSw=>hSw.2) Tryz.underlying39 ?_
       refine rd1 2 fun K hK=>?_
       refine stg 71 (.tmp 8) (.tmp 66) (w.heap.size+1+1) (rtV c last (.slice (some ⟨gb,off,none⟩) xs.length cp)) ((HBX.out _ (HB1.out.trans (HXD.out.mono HB1.out.size))).z) (rtV_one rfl) ?_
       intro ua hkz hf
       have HF_ua:=hid hf
       have HK_ua:=hid hkz
       clear hf hkz
       refine bk hK (HSE.out _ _ HXD.out (HF_ua.out.mono (fun k _ e=>.inl e))) fun hHeld=>?_
       clear hK K
       refine rd1 3 fun K hK=>?_
       refine stg 39 (.tmp 9) (.tmp 67) (w.heap.size+1+1+1) sub0 ((HBX.out _ (HB1.out.trans (HXD.out.mono HB1.out.size))).s.fr HF_ua.out (by omega)) sub0_one ?_
       intro ub hkz hf
       have HF_ub:=hid hf
       have HK_ub:=hid hkz
       clear hf hkz
       refine bk hK (HSE.out _ _ HXD.out ((HF_ua.out.mono (fun k _ e=>.inl e)).trans (G:=fun k=>k=w.heap.size+1+1+1) HF_ub.out (fun k _ e=>.inr e))) fun hHeld=>?_
       clear hK K
       refine tk 4 ?_
       refine dn9 (NoPanic.normal ?_)
       clear hHeld
       go_wp2_with fail
       refine ret_cell3 rfl rfl rfl rfl rfl (HK_ua.out.fr HF_ub.out (by omega)) HK_ub.out _ _ Tryz.underlying71 Tryz.underlying39 rfl rfl (by kernel_rfl) (by kernel_rfl) ?_
       exact HERR.out _ _ _ (HB0.out _ HXD.out) ((HF_ua.out.mono (fun k _ e=>.inl e)).trans (G:=fun k=>k=w.heap.size+1+1+1) HF_ub.out (fun k _ e=>.inr e)) HE.out
      .have HE:=hid hE
       rw [h3]
       have p3:w5.cell? ⟨w2.heap.size,3,none⟩=some (.string (str s.ev.name)):=HK35.out.cell 3
       have p4:w5.cell? ⟨w2.heap.size,4,none⟩=some sv.ev:=HK35.out.cell 4
       have p30:w5.cell? ⟨w.heap.size+1,30,none⟩=some (.string (str r.ev.name)):=(HBX.out _ (HB0.out _ HX5.out)).q.cell 30
       have p31:w5.cell? ⟨w.heap.size+1,31,none⟩=some q.ev:=(HBX.out _ (HB0.out _ HX5.out)).q.cell 31
       have HIS:Hid (∀ W,Below w1.heap.size w1 W->Calls Tryz.prog 97 #[.agg #[.string (str s.ev.name),sv.ev],.agg #[.string (str r.ev.name),q.ev]] W (IsPost s.ev r.ev W)):=hid (fun W hW=>by
        have hbw:=(HBX.out _ (HB0.out _ hW)).be
        exact rIs_any (Nat.le_refl _) ((HX1.out _ hbw).ev.prB (HRQ.out _ hbw).2) (PrB.up (HRQ.out _ hbw).1.ev (HRQ.out _ hbw).2) HZS.out.pe HZ.out.evP)
       unfold IsPost at HIS
       rw [h4] at HIS
       rw [h5] at HSEC
       clear h3 h4 h5 hE
       go_upto_region 13 with ((go_at_call 97;refine (HIS.out _ HX5.out).mono ?_;rintro e w6 ⟨rfl,hb6⟩;have HB6:=hid hb6;clear hb6))
       have HX6:Hid (Below w1.heap.size w1 w6):=hid (HX5.out.trans (HB6.out.mono HX5.out.size))
       clear p3 p4 p30 p31 HIS
       have p29:w6.cell? ⟨w.heap.size+1,29,none⟩=some (.int .i64 r.exp):=(HBX.out _ (HB0.out _ HX6.out)).q.cell 29
       go_upto_region 15 with (first|(refine wpl_load rfl 26 (.tmp 69) rfl w.heap.size 0 rfl (HBX.out _ (HB0.out _ HX6.out)).t [.string (str c.host),.int .i64 c.calls,.int .i64 c.pubs,.int .i64 c.subs,.int .i64 c.least,.int .i64 c.most,.int .i64 c.usual] rfl _ Tryz.underlying26 rfl (by kernel_rfl) ?_)|(go_at_call 18;refine (HSEC.out _).mono ?_;rintro e w7 ⟨rfl,hb7⟩;have HB7:=hid hb7;clear hb7))
       have HX7:Hid (Below w1.heap.size w1 w7):=hid (HX6.out.trans (HB7.out.mono HX6.out.size))
       clear p29
       have HXD:Hid (Below w1.heap.size w1 (w7).drew):=hid (HX7.out.trans (Below.refl w1.heap.size w7).drew)
       refine wp_region_noPanic ?_
       refine wp_region_held_drew (S:=fun W=>W.rangeAt w.heap.size 0 (rtV c last (.slice (some ⟨gb,off,none⟩) xs.length cp)).toList/\W.rangeAt w0.heap.size 0 sub0.toList) (by kernel_rfl) (HSE.out _ _ HXD.out (Fr.refl _ _)) (fun hHeld=>?_)
       refine tkm 0 (rtV c last (.slice (some ⟨gb,off,none⟩) xs.length cp)) (w.heap.size) 0 (fun wq hSw=>hSw.1) Tryz.underlying71 ?_
       refine tkm 1 sub0 (w0.heap.size) 0 (fun wq hSw=>hSw.2) Tryz.underlying39 ?_
       refine rd1 2 fun K hK=>?_
       refine stg 71 (.tmp 8) (.tmp 78) (w.heap.size+1+1) (rtV c last (.slice (some ⟨gb,off,none⟩) xs.length cp)) ((HBX.out _ (HB1.out.trans (HXD.out.mono HB1.out.size))).z) (rtV_one rfl) ?_
       intro ua hkz hf
       have HF_ua:=hid hf
       have HK_ua:=hid hkz
       clear hf hkz
       refine bk hK (HSE.out _ _ HXD.out (HF_ua.out.mono (fun k _ e=>.inl e))) fun hHeld=>?_
       clear hK K
       refine rd1 3 fun K hK=>?_
       refine stg 39 (.tmp 9) (.tmp 79) (w.heap.size+1+1+1) sub0 ((HBX.out _ (HB1.out.trans (HXD.out.mono HB1.out.size))).s.fr HF_ua.out (by omega)) sub0_one ?_
       intro ub hkz hf
       have HF_ub:=hid hf
       have HK_ub:=hid hkz
       clear hf hkz
       refine bk hK (HSE.out _ _ HXD.out ((HF_ua.out.mono (fun k _ e=>.inl e)).trans (G:=fun k=>k=w.heap.size+1+1+1) HF_ub.out (fun k _ e=>.inr e))) fun hHeld=>?_
       clear hK K
       refine tk 4 ?_
       refine dn9 (NoPanic.normal ?_)
       clear hHeld
       go_wp2_with fail
       refine ret_cell3 rfl rfl rfl rfl rfl (HK_ua.out.fr HF_ub.out (by omega)) HK_ub.out _ _ Tryz.underlying71 Tryz.underlying39 rfl rfl (by kernel_rfl) (by kernel_rfl) ?_
       exact HERR.out _ _ _ (HB0.out _ HXD.out) ((HF_ua.out.mono (fun k _ e=>.inl e)).trans (G:=fun k=>k=w.heap.size+1+1+1) HF_ub.out (fun k _ e=>.inr e)) HE.out
      .have HE:=hid hE
       rw [h3]
       have p3:w5.cell? ⟨w2.heap.size,3,none⟩=some (.string (str s.ev.name)):=HK35.out.cell 3
       have p4:w5.cell? ⟨w2.heap.size,4,none⟩=some sv.ev:=HK35.out.cell 4
       have p30:w5.cell? ⟨w.heap.size+1,30,none⟩=some (.string (str r.ev.name)):=(HBX.out _ (HB0.out _ HX5.out)).q.cell 30
       have p31:w5.cell? ⟨w.heap.size+1,31,none⟩=some q.ev:=(HBX.out _ (HB0.out _ HX5.out)).q.cell 31
       have HIS:Hid (∀ W,Below w1.heap.size w1 W->Calls Tryz.prog 97 #[.agg #[.string (str s.ev.name),sv.ev],.agg #[.string (str r.ev.name),q.ev]] W (IsPost s.ev r.ev W)):=hid (fun W hW=>by
        have hbw:=(HBX.out _ (HB0.out _ hW)).be
        exact rIs_any (Nat.le_refl _) ((HX1.out _ hbw).ev.prB (HRQ.out _ hbw).2) (PrB.up (HRQ.out _ hbw).1.ev (HRQ.out _ hbw).2) HZS.out.pe HZ.out.evP)
       unfold IsPost at HIS
       rw [h4] at HIS
       rw [h5] at HSEC
       clear h3 h4 h5 hE
       go_upto_region 13 with ((go_at_call 97;refine (HIS.out _ HX5.out).mono ?_;rintro e w6 ⟨rfl,hb6⟩;have HB6:=hid hb6;clear hb6))
       have HX6:Hid (Below w1.heap.size w1 w6):=hid (HX5.out.trans (HB6.out.mono HX5.out.size))
       clear p3 p4 p30 p31 HIS
       have p29:w6.cell? ⟨w.heap.size+1,29,none⟩=some (.int .i64 r.exp):=(HBX.out _ (HB0.out _ HX6.out)).q.cell 29
       go_upto_region 16 with (first|(refine wpl_load rfl 26 (.tmp 69) rfl w.heap.size 0 rfl (HBX.out _ (HB0.out _ HX6.out)).t [.string (str c.host),.int .i64 c.calls,.int .i64 c.pubs,.int .i64 c.subs,.int .i64 c.least,.int .i64 c.most,.int .i64 c.usual] rfl _ Tryz.underlying26 rfl (by kernel_rfl) ?_)|(go_at_call 18;refine (HSEC.out _).mono ?_;rintro e w7 ⟨rfl,hb7⟩;have HB7:=hid hb7;clear hb7))
       have HX7:Hid (Below w1.heap.size w1 w7):=hid (HX6.out.trans (HB7.out.mono HX6.out.size))
       clear p29
       have HB57:Hid (Below w5.heap.size w5 w7):=hid (HB6.out.trans (HB7.out.mono HB6.out.size))
       have HK57:=hid (HK5.out.fr (Fr.of_below (F:=fun _=>False) HB57.out) (fun h=>h))
       have HK37:=hid (HK35.out.fr (Fr.of_below (F:=fun _=>False) HB57.out) (fun h=>h))
       have HDW7:=hid (HDW5.out.below HB57.out (Nat.le_trans HBW1.out HX5.out.size))
       go_upto_region 17 with (first|(refine wpl_load rfl 37 (.tmp 14) rfl w4.heap.size 0 rfl HK57.out (dlgA (takR s.dlg r).dlg dv).toList rfl _ Tryz.underlying37 rfl (by kernel_rfl) ?_)|(refine wpl_store rfl 37 (.tmp 81) (.tmp 80) rfl w2.heap.size 8 rfl (dlgA (takR s.dlg r).dlg dv) rfl HK37.out (show 34<=34 by omega) (subA (agaN s r) (agaV sv dv)) rfl (by kernel_rfl) (dlgA_one HDW7.out.one) ?_;intro w8 hk8 hf8))
       have HK8:=hid hk8
       have hsz:w1.heap.size<=w2.heap.size:=HX2.out.size
       have HX8:Hid (Below w1.heap.size w1 w8):=hid (HX7.out.trans (hf8.to_below HX7.out.size (fun k e=>by omega)))
       have HSV8:Hid (SubW w8 B (agaN s r) (agaV sv dv)):=hid (by
        have hd8:=HDW7.out.fr hf8 (keepP_blk HK37.out (by decide) (by decide)) (hf8.to_below (Nat.le_trans HBW1.out HX7.out.size) (fun k e=>by have:=HBW1.out;omega))
        have he8:=(HX1.out _ (HBX.out _ (HB0.out _ HX8.out)).be).ev
        exact ⟨he8,⟨hd8.lp,hd8.lh,hd8.la,hd8.rp,hd8.rh,hd8.ra,hd8.tp,hd8.th,hd8.ro⟩⟩)
       have HLS:Hid (∀ W,Calls Tryz.prog 95 #[.agg (subA (agaN s r) (agaV sv dv)),.int .i64 now,.int .i64 (secN c r.exp)] W (LtnPost (agaN s r) (agaV sv dv) now (secN c r.exp) W)):=hid (fun W=>by
        have h9:=HTK.out
        unfold tickB at h9
        simp only [Bool.and_eq_true,decide_eq_true_eq] at h9
        exact rlasting_any W HSV8.out.ev.one HSV8.out.d.one h9.1 h9.2 HSL.out.1 HSL.out.2)
       unfold LtnPost at HLS
       have HNM:Hid (s.number=(lastsS (agaN s r) now (secN c r.exp)).number):=hid ((lasts_num (agaN s r) now (secN c r.exp)).symm)
       have HO9:=hid (subA_one (s:=lastsS (agaN s r) now (secN c r.exp)) HSV8.out.ev.one HSV8.out.d.one)
       obtain ⟨sn,hsn⟩:∃ sn,lastsS (agaN s r) now (secN c r.exp)=sn:=⟨_,rfl⟩
       have HSV8':Hid (SubW w8 B sn (agaV sv dv)):=hid (by rw [<-hsn];exact HSV8.out.lasts now (secN c r.exp))
       rw [hsn] at HE HLS HNM HO9
       obtain ⟨V9,hV9⟩:∃ V9,(agaV sv dv)=V9:=⟨_,rfl⟩
       rw [hV9] at HLS HO9 HSV8' HK8
       clear hsn hk8 hf8 HSV8 hV9
       go_upto_region 18 with (first|(refine wpl_load rfl 39 (.tmp 13) rfl w2.heap.size 0 rfl HK8.out (subA (agaN s r) V9).toList rfl _ Tryz.underlying39 rfl (by kernel_rfl) ?_)|(go_at_call 95;refine (HLS.out _).mono ?_;rintro e w9 ⟨rfl,hb9⟩;have HB9:=hid hb9;have HK9:=hid (HK8.out.fr (Fr.of_below (F:=fun _=>False) hb9) (fun h=>h));clear hb9)|(refine wpl_store rfl 39 (.tmp 13) (.tmp 85) rfl w2.heap.size 0 rfl (subA sn V9) rfl HK9.out (Nat.le_refl 34) (subA sn V9) rfl (by kernel_rfl) HO9.out ?_;intro w10 hk10 hf10))
       have HX9:Hid (Below w1.heap.size w1 w9):=hid (HX8.out.trans (HB9.out.mono HX8.out.size))
       have HX10:Hid (Below w1.heap.size w1 w10):=hid (HX9.out.trans (hf10.to_below HX9.out.size (fun k e=>by omega)))
       have HK10:Hid (∀ W,Below w10.heap.size w10 W->Blk W w2.heap.size 39 (subA sn V9)):=hid (fun W hW=>hk10.fr (Fr.of_below (F:=fun _=>False) hW) (fun h=>h))
       have HSV10:Hid (∀ W,Below w10.heap.size w10 W->SubW W B sn V9):=hid (fun W hW=>by
        have h9:=HSV8'.out.below HB9.out (Nat.le_trans HBW1.out HX8.out.size)
        exact (h9.fr hf10 (keepP_blk HK9.out (by decide) (by decide)) (hf10.to_below (Nat.le_trans HBW1.out HX9.out.size) (fun k e=>by have:=HBW1.out;omega))).below hW (Nat.le_trans HBW1.out HX10.out.size))
       have HBW:Hid (∀ W,Below w10.heap.size w10 W->Below w0.heap.size w0 W):=hid (fun W hW=>HB0.out _ (HX10.out.trans (hW.mono HX10.out.size)))
       have HG:Hid (w0.heap.size<=w2.heap.size/\w0.heap.size<=w10.heap.size):=hid ⟨(HB0.out _ HX2.out).size,(HB0.out _ HX10.out).size⟩
       have HS:Hid (∀ W W',Below w10.heap.size w10 W->Fr (fun k=>k=w.heap.size+1+1\/k=w.heap.size+1+1+1) W W'->W'.rangeAt w.heap.size 0 (rtV c last (.slice (some ⟨gb,off,none⟩) xs.length cp)).toList/\W'.rangeAt w2.heap.size 0 (subA sn V9).toList):=hid (fun W W' hW hf=>by
        have hx:=HBX.out _ (HBW.out _ hW)
        have hs0:=HS0.out
        have hg:=HG.out
        exact ⟨blk_range (off:=0) (hx.t.fr hf (by omega)) rfl,blk_range (off:=0) ((HK10.out W hW).fr hf (by omega)) rfl⟩)
       have HW10:Hid (Below w10.heap.size w10 w10.drew):=hid (Below.refl _ _).drew
       have HCW:Hid (Calls Tryz.prog 98 #[.agg (rtV c last (.slice (some ⟨gb,off,none⟩) xs.length cp)),.int .i64 j,.agg (subA sn V9)] w10.drew (RtPost N B c last (setS L sn) w10.drew)):=hid (HWT.out sn V9 w10.drew HNM.out (HBX.out _ (HBW.out _ HW10.out)).be (HSV10.out _ HW10.out))
       unfold RtPost at HCW
       clear hk10 hf10 hsz
       refine wp_region_noPanic ?_
       refine wp_region_held_drew (S:=fun W=>W.rangeAt w.heap.size 0 (rtV c last (.slice (some ⟨gb,off,none⟩) xs.length cp)).toList/\W.rangeAt w2.heap.size 0 (subA sn V9).toList) (by kernel_rfl) (HS.out _ _ HW10.out (Fr.refl _ _)) (fun hHeld=>?_)
       refine tkm 0 (rtV c last (.slice (some ⟨gb,off,none⟩) xs.length cp)) (w.heap.size) 0 (fun wq hSw=>hSw.1) Tryz.underlying71 ?_
       refine tk 1 ?_
       refine tkm 2 (subA sn V9) (w2.heap.size) 0 (fun wq hSw=>hSw.2) Tryz.underlying39 ?_
       refine tkm 4 (subA sn V9) (w2.heap.size) 0 (fun wq hSw=>hSw.2) Tryz.underlying39 ?_
       refine rd1 3 fun K hK=>?_
       go_simp
       refine (HCW.out).mono ?_
       rintro e w11 ⟨v9,rfl,hr9,hb11⟩
       have HR9:=hid hr9
       have HB11:Hid (Below w10.heap.size w10 w11):=hid (HW10.out.trans hb11)
       have HO11:Hid (v9.oneCell'=true):=hid (by obtain ⟨_,_,_,_,rfl,_⟩:=hr9;rfl)
       clear hr9 hb11
       go_wp2_with fail
       refine bk hK (HS.out _ _ HB11.out (Fr.refl _ _)) fun hHeld=>?_
       clear hK K
       refine rd1 5 fun K hK=>?_
       refine stg 71 (.tmp 8) (.tmp 89) (w.heap.size+1+1) (rtV c last v9) ((HBX.out _ (HBW.out _ HB11.out)).z) (rtV_one HO11.out) ?_
       intro ua hkz hf
       have HF_ua:=hid hf
       have HK_ua:=hid hkz
       clear hf hkz
       refine bk hK (HS.out _ _ HB11.out (HF_ua.out.mono (fun k _ e=>.inl e))) fun hHeld=>?_
       clear hK K
       refine rd1 6 fun K hK=>?_
       refine stg 39 (.tmp 9) (.tmp 90) (w.heap.size+1+1+1) (subA sn V9) ((HBX.out _ (HBW.out _ HB11.out)).s.fr HF_ua.out (by omega)) HO9.out ?_
       intro ub hkz hf
       have HF_ub:=hid hf
       have HK_ub:=hid hkz
       clear hf hkz
       refine bk hK (HS.out _ _ HB11.out ((HF_ua.out.mono (fun k _ e=>.inl e)).trans (G:=fun k=>k=w.heap.size+1+1+1) HF_ub.out (fun k _ e=>.inr e))) fun hHeld=>?_
       clear hK K
       refine tk 7 ?_
       refine dn9 (NoPanic.normal ?_)
       clear hHeld
       have HFIN:Hid (RbgPost N B c last R w (.returned (.tuple #[.agg (rtV c last v9),.agg (subA sn V9),.int .i64 0])) ub):=hid (by
        have hx:=HBX.out _ (HBW.out _ HB11.out)
        have hs0:=HS0.out
        have hg:=HG.out
        have hd0:w10.drew.heap.size=w10.heap.size:=rfl
        obtain ⟨a,b,e⟩:=hx.ok (N:=N) HR9.out (fun k hk=>by
         rcases hk with hk|hk
         .have:=HN.out k hk
          exact ⟨.inl hk,by omega,by omega⟩
         .exact ⟨.inr (by omega),by omega,by omega⟩) (HSV10.out _ HB11.out) HBZ.out ((HF_ua.out.mono (fun k _ e=>.inl e)).trans (G:=fun k=>k=w.heap.size+1+1+1) HF_ub.out (fun k _ e=>.inr e))
        rw [HE.out]
        exact ⟨_,_,rfl,a,b,e⟩)
       go_wp2_with fail
       refine ret_cell3 rfl rfl rfl rfl rfl (HK_ua.out.fr HF_ub.out (by omega)) HK_ub.out _ _ Tryz.underlying71 Tryz.underlying39 rfl rfl (by kernel_rfl) (by kernel_rfl) ?_
       exact HFIN.out
end Go.Proofs.YthkadehlclcggaaGreatDoor
