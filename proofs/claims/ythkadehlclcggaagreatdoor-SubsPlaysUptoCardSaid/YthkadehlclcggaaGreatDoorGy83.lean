/- Chapter 19: SubsPlays. -/
import Derived.Test.YthkadehlclcggaaGreatDoorGy82
namespace Go.Proofs.YthkadehlclcggaaGreatDoor
set_option linter.unusedSimpArgs false
set_option linter.unusedVariables false
open Go.RowKit
open Go.Lib (hid)
theorem begun19_no {c:Conf} (h:rightB c=false) (w:World):Calls Tryz.prog 10 #[.agg #[.string (str c.host),.int .i64 c.calls,.int .i64 c.pubs,.int .i64 c.subs,.int .i64 c.least,.int .i64 c.most,.int .i64 c.usual]] w fun e w'=>e=.returned (.pointer none)/\Below w.heap.size w w':=by
 obtain ⟨w0,hw0⟩:∃ w0,w.alloc (.cells #[.string (str c.host),.int .i64 c.calls,.int .i64 c.pubs,.int .i64 c.subs,.int .i64 c.least,.int .i64 c.most,.int .i64 c.usual] 26)=w0:=⟨_,rfl⟩
 obtain ⟨hb0,hk⟩:=conf_box hw0
 have HB0:=hid hb0
 have c0:=hk.cell 0
 have c1:=hk.cell 1
 have c2:=hk.cell 2
 have c3:=hk.cell 3
 have c4:=hk.cell 4
 have c5:=hk.cell 5
 have c6:=hk.cell 6
 have HN:=hid (sbnew_no h w0)
 clear hb0 hk h
 go_enter Tryz.func10,Tryz.ntmps10
 go_upto_region 1 with (fail)
 try rw [hw0]
 clear hw0
 go_wp2_with fail
 refine (HN.out).mono ?_
 rintro e w1 ⟨rfl,hb1⟩
 have HP:=hid (thenB_ HB0.out hb1)
 clear hb1
 go_wp2
 go_ret
 exact ⟨rfl,HP.out⟩
theorem findSV_is (L:List SubP) (r:ReqP):∃ n b,findSV L r=.tuple #[.int .i64 n,.bool b]:=by
 unfold findSV
 split
 .exact ⟨_,_,rfl⟩
 .exact ⟨_,_,rfl⟩
theorem doS_last (c:Conf) (last:Int) (L:List SubP) (a:ActN):(doS c last L a).last<=last+1:=by
 unfold doS
 split
 .rcases begS_ways c last L a.now a.r abT a.text a.state a.text with ⟨_,e⟩|⟨_,_,_,e⟩|⟨_,_,_,e⟩|⟨_,_,_,_,e⟩|⟨_,_,_,_,_,e⟩|⟨_,_,_,_,_,d,_,e⟩
  all_goals (rw [e];dsimp only;omega)
 all_goals (repeat' split) <;> (show last<=last+1;omega)
theorem plc_has (L:List SubP) (n:Int):(n∉L.map (·.number)/\plcS L n=-1)\/∃ j,∃ h:j<L.length,plcS L n=j/\L[j].number=n:=by
 rcases plcS_ways L n with ⟨h1,h2⟩|⟨j,h,h1,_,h2⟩
 .refine .inl ⟨fun hm=>?_,h1⟩
  obtain ⟨s,hs,e⟩:=List.mem_map.1 hm
  rw [List.find?_eq_none] at h2
  exact h2 s hs (by simpa using e)
 .exact .inr ⟨j,h,h1,h2⟩
set_option maxRecDepth 100000 in
set_option maxHeartbeats 16000000 in
theorem subsPlays_any {c:Conf} {l:List ActY} {A:Option Addr} {cA:Nat} (w:World) (hr:RdB w w.heap.size 43 l.length A (rows actC19 l)) (hx:∀ x∈l,ActR19 w w.heap.size BigN x) (hl:l.length<=BigN) :
 Calls Tryz.prog 8 #[.agg #[.string (str c.host),.int .i64 c.calls,.int .i64 c.pubs,.int .i64 c.subs,.int .i64 c.least,.int .i64 c.most,.int .i64 c.usual],.slice A l.length cA] w (Awk19 w):=by
 have HAW:=hid awake19_any
 unfold Awk19 at HAW
 obtain ⟨w0,hw0⟩:∃ w0,w.alloc (.cells #[.string (str c.host),.int .i64 c.calls,.int .i64 c.pubs,.int .i64 c.subs,.int .i64 c.least,.int .i64 c.most,.int .i64 c.usual] 26)=w0:=⟨_,rfl⟩
 obtain ⟨hb0,hk⟩:=conf_box hw0
 have HB0:=hid hb0
 have HK0:Hid (∀ W,Below w0.heap.size w0 W->Blk W w.heap.size 26 #[.string (str c.host),.int .i64 c.calls,.int .i64 c.pubs,.int .i64 c.subs,.int .i64 c.least,.int .i64 c.most,.int .i64 c.usual]):=hid (fun W hW=>hk.fr (Fr.of_below (F:=fun _=>False) hW) (fun h=>h))
 have HRI:=hid (fun W=>rright_any c W)
 have HRD:=hid hr
 have HXA:=hid hx
 have HLN:Hid (l.length<=1048576):=hid hl
 clear hr hx hl hb0 hk
 go_enter Tryz.func8,Tryz.ntmps8
 go_upto_region 1 with (fail)
 try rw [hw0]
 clear hw0
 generalize hq0:Value.agg #[.string (str c.host),.int .i64 c.calls,.int .i64 c.pubs,.int .i64 c.subs,.int .i64 c.least,.int .i64 c.most,.int .i64 c.usual]=q0
 clear hq0
 cases hrb:rightB c with
 | false =>
   have HBG:=hid (begun19_no hrb w0)
   rw [hrb] at HRI
   clear hrb
   go_wp2_with (refine wpl_load rfl 26 (.tmp 2) rfl w.heap.size 0 rfl (HK0.out _ (Below.refl _ _)) [.string (str c.host),.int .i64 c.calls,.int .i64 c.pubs,.int .i64 c.subs,.int .i64 c.least,.int .i64 c.most,.int .i64 c.usual] rfl _ Tryz.underlying26 rfl (by kernel_rfl) ?_)
   refine (HBG.out).mono ?_
   rintro e w1 ⟨rfl,hb1⟩
   have HB1:=hid hb1
   clear hb1
   go_wp2_with (refine wpl_load rfl 26 (.tmp 2) rfl w.heap.size 0 rfl (HK0.out _ HB1.out) [.string (str c.host),.int .i64 c.calls,.int .i64 c.pubs,.int .i64 c.subs,.int .i64 c.least,.int .i64 c.most,.int .i64 c.usual] rfl _ Tryz.underlying26 rfl (by kernel_rfl) ?_)
   refine (HRI.out _).mono ?_
   rintro e w2 ⟨rfl,hb2⟩
   have HB2:=hid (thenB_ (thenB_ HB0.out HB1.out) hb2)
   clear hb2
   go_wp2_with fail
   refine (HAW.out _).mono ?_
   rintro e wz ⟨rfl,bz⟩
   have HBz:=hid (thenB_ HB2.out bz)
   clear bz
   go_wp2
   go_ret
   exact ⟨rfl,HBz.out⟩
 | true =>
   have HBG:=hid (begun19_any hrb w0)
   unfold Bgn19 at HBG
   rw [hrb] at HRI
   clear hrb
   go_wp2_with (refine wpl_load rfl 26 (.tmp 2) rfl w.heap.size 0 rfl (HK0.out _ (Below.refl _ _)) [.string (str c.host),.int .i64 c.calls,.int .i64 c.pubs,.int .i64 c.subs,.int .i64 c.least,.int .i64 c.most,.int .i64 c.usual] rfl _ Tryz.underlying26 rfl (by kernel_rfl) ?_)
   refine (HBG.out).mono ?_
   rintro e w1 ⟨p,F,rfl,hst,hb1,hF⟩
   have HB1:=hid hb1
   have HT1:Hid (TbX (fun k=>k<w.heap.size) w1 p c 0 []):=hid (TbX.start hst (fun k hk=>Nat.le_trans HB0.out.size (hF k hk)) (Nat.le_trans HB0.out.size hb1.size))
   clear hst hb1 hF
   go_wp2_with (refine wpl_load rfl 26 (.tmp 2) rfl w.heap.size 0 rfl (HK0.out _ HB1.out) [.string (str c.host),.int .i64 c.calls,.int .i64 c.pubs,.int .i64 c.subs,.int .i64 c.least,.int .i64 c.most,.int .i64 c.usual] rfl _ Tryz.underlying26 rfl (by kernel_rfl) ?_)
   refine (HRI.out _).mono ?_
   rintro e w2 ⟨rfl,hb2⟩
   have HB2:=hid (thenB_ HB1.out hb2)
   have HT2:=hid (HT1.out.below hb2)
   clear hb2
   go_upto_region 7 with (refine wpl_load rfl 26 (.tmp 2) rfl w.heap.size 0 rfl (HK0.out _ HB2.out) [.string (str c.host),.int .i64 c.calls,.int .i64 c.pubs,.int .i64 c.subs,.int .i64 c.least,.int .i64 c.most,.int .i64 c.usual] rfl _ Tryz.underlying26 rfl (by kernel_rfl) ?_)
   have hb3:Below w2.heap.size w2 (w2.alloc (.cells #[.string (str c.host),.int .i64 c.calls,.int .i64 c.pubs,.int .i64 c.subs,.int .i64 c.least,.int .i64 c.most,.int .i64 c.usual,.int .i64 0,.slice none 0 0] 71)):=(Below.refl _ _).alloc (Nat.le_refl _) _
   have hk3:Blk (w2.alloc (.cells #[.string (str c.host),.int .i64 c.calls,.int .i64 c.pubs,.int .i64 c.subs,.int .i64 c.least,.int .i64 c.most,.int .i64 c.usual,.int .i64 0,.slice none 0 0] 71)) w2.heap.size 71 (rtV c 0 (.slice none 0 0)):=Blk.new _ _ _
   obtain ⟨w3,hu⟩:∃ u,w2.alloc (.cells #[.string (str c.host),.int .i64 c.calls,.int .i64 c.pubs,.int .i64 c.subs,.int .i64 c.least,.int .i64 c.most,.int .i64 c.usual,.int .i64 0,.slice none 0 0] 71)=u:=⟨_,rfl⟩
   rw [hu] at hb3 hk3 ⊢
   clear hu
   obtain ⟨g,hg⟩:∃ g,w2.heap.size=g:=⟨_,rfl⟩
   have hwg:w.heap.size<=g:=by rw [<-hg];exact Nat.le_trans HB0.out.size HB2.out.size
   have HT3:Hid (TbX (fun k=>k<w.heap.size\/k=g) w3 p c 0 []):=hid (HT2.out.own hb3 (by omega) (by rw [<-hg];exact hk3.lt))
   have HB3:Hid (Below w.heap.size w w3):=hid (thenB_ (thenB_ HB0.out HB2.out) hb3)
   rw [hg] at hk3
   have HK3:=hid hk3
   have HWG:=hid hwg
   simp only [hg]
   clear hb3 hk3 hg hwg HT2 HT1 HBG HRI
   go_wp2_with fail
   go_loopw [7] (fun i wr=>∃ k:Nat,k<=l.length/\i=.int .i64 k/\∃ (X:Nat->Prop) (last:Int) (L:List SubP) (v:Value),(∀ k,k<w.heap.size->X k)/\X g/\last<=k/\TbX X wr p c last L/\Blk wr g 71 (rtV c last v)/\RfL wr X w.heap.size L v/\Below w.heap.size w wr) (fun i _=>l.length-(intOf i).toNat)
   case atStart=>exact ⟨0,by omega,rfl,_,0,[],_,fun k hk=>.inl hk,.inr rfl,Int.le_refl _,HT3.out,HK3.out,RfL.nil _ _ _,HB3.out⟩
   case round =>
    obtain ⟨k,hk,rfl,X,last,L,v,hX,hXg,hla,hT,hKg,hRf,hB⟩:=hrel
    have HXX:Hid ((∀ k,k<w.heap.size->X k)/\X g):=hid ⟨hX,hXg⟩
    have HLA:=hid hla
    have HT:=hid hT
    have HKG:=hid hKg
    have HRF:=hid hRf
    have HB:=hid hB
    clear hX hXg hla hT hKg hRf hB
    by_cases hgo:k<l.length/\k<40
    .obtain ⟨hlt,h40⟩:=hgo
     obtain ⟨gb,off,rfl,hgb,hrg⟩:=act_range (HRD.out.below HB.out) hlt
     have HX:=hid (HXA.out _ (List.getElem_mem hlt))
     have HRG:=hid hrg
     have x0:(0:Int)<=k:=by omega
     have x1:(k:Int)<l.length:=by omega
     have x2:(k:Int)<40:=by omega
     have HK40:=hid h40
     clear hrg
     generalize l[k]=x at *
     go_upto_region 11 with (first|(refine wpList_load_mid rfl 67 (.tmp 41) rfl gb (off+k*43) rfl (actN x.a x.v).toList _ HRG.out Tryz.underlying67 rfl (by kernel_rfl) ?_)|(refine wpl_store rfl 67 (.tmp 8) (.tmp 42) rfl wr.heap.size 0 rfl (actN x.a x.v) rfl (act_blk0 wr) (Nat.le_refl 43) (actN x.a x.v) rfl (by kernel_rfl) HX.out.one ?_;intro wa hka hfa))
     have ba:Below wr.heap.size wr wa:=((Below.refl wr.heap.size wr).alloc (Nat.le_refl _) _).trans (hfa.to_below (by simp) (fun k e=>by omega))
     have HBA:=hid ba
     have HFW:Hid (Calls Tryz.prog 22 #[.agg (reqA x.a.r x.v)] wa fun e w'=>e=.returned (.bool (fewB x.a.r))/\Below wa.heap.size wa w'):=hid (few_n (Nat.le_trans HB.out.size ba.size) (HX.out.r.below (HB.out.trans (ba.mono HB.out.size))) HX.out.n)
     obtain ⟨ga,hga⟩:∃ g,wr.heap.size=g:=⟨_,rfl⟩
     have HGA:=hid hga
     rw [hga] at hka
     simp only [hga]
     have HKA:=hid hka
     clear ba hka hfa hga
     generalize hfb:fewB x.a.r=fb at *
     clear hfb
     cases fb with
     | false =>
       go_upto_region 9 with (first|(refine wpl_load rfl 45 (.tmp 43) rfl ga 5 rfl HKA.out (reqA x.a.r x.v).toList rfl _ Tryz.underlying45 rfl (by kernel_rfl) ?_)|(go_at_call 22;refine (HFW.out).mono ?_;rintro e wf ⟨rfl,hbf⟩;have HBF:=hid hbf;clear hbf))
       have HBRF:Hid (Below wr.heap.size wr wf):=hid (HBA.out.trans (HBF.out.mono HBA.out.size))
       go_wp2_with fail
       go_roundw
       case rel=>exact ⟨k+1,by omega,by go_num,X,last,L,v,HXX.out.1,HXX.out.2,by have:=HLA.out;omega,HT.out.below HBRF.out,HKG.out.fr (Fr.of_below (F:=fun _=>False) HBRF.out) (fun e=>e),HRF.out.below HBRF.out HB.out.size,thenB_ HB.out HBRF.out⟩
       case measure=>simp [intOf] <;> omega
     | true =>
       go_upto_region 12 with (first|(refine wpl_load rfl 45 (.tmp 43) rfl ga 5 rfl HKA.out (reqA x.a.r x.v).toList rfl _ Tryz.underlying45 rfl (by kernel_rfl) ?_)|(go_at_call 22;refine (HFW.out).mono ?_;rintro e wf ⟨rfl,hbf⟩;have HBF:=hid hbf;clear hbf))
       have HBRF:Hid (Below wr.heap.size wr wf):=hid (HBA.out.trans (HBF.out.mono HBA.out.size))
       have HKF:=hid (HKA.out.fr (Fr.of_below (F:=fun _=>False) HBF.out) (fun e=>e))
       have HS12:Hid (∀ W,Below wf.heap.size wf W->W.rangeAt ga 0 (actN x.a x.v).toList):=hid (fun W hW=>blk_range (off:=0) (HKF.out.fr (Fr.of_below (F:=fun _=>False) hW) (fun e=>e)) rfl)
       have HWF:Hid (Below wf.heap.size wf wf.drew):=hid (Below.refl _ _).drew
       have HDN:Hid (Calls Tryz.prog 23 #[.pointer (some ⟨p,0,none⟩),.pointer (some ⟨g,0,none⟩),.agg (actN x.a x.v)] wf.drew fun e w'=>∃ (X':Nat->Prop) (v':Value),e=.returned (.bool true)/\(∀ k,k<w.heap.size->X' k)/\X' g/\TbX X' w' p c (doS c last L x.a).last (doS c last L x.a).L/\Blk w' g 71 (rtV c (doS c last L x.a).last v')/\RfL w' X' w.heap.size (doS c last L x.a).L v'/\Blk w' ga 67 (actN x.a x.v)/\Below w.heap.size w w'):=hid (by
        have hbd:Below wr.heap.size wr wf.drew:=HBRF.out.trans (HWF.out.mono HBRF.out.size)
        have hbw:Below w.heap.size w wf.drew:=HB.out.trans (hbd.mono HB.out.size)
        obtain ⟨ls,Q⟩:=HT.out.sbq
        have h40:=HK40.out
        have hla:=HLA.out
        have H:Do9H (XUp X wr wf.drew) wf.drew p g c last last L L w.heap.size v x.a x.v :=
         ⟨HT.out.up hbd,HKG.out.fr (Fr.of_below (F:=fun _=>False) hbd) (fun e=>e),(HRF.out.below hbd HB.out.size).mono (fun _ _ q=>.inl q),.inl HXX.out.2,fun k hk=>.inl (HXX.out.1 k hk),hbw.size,HWG.out,HX.out.r.below hbw,HX.out.n.rz,Nat.le_trans HX.out.t (by decide),by omega,Q.last,by omega,by have h1:=Q.len;have h2:=Q.subs;omega,subs_idnd Q.ids,Q.z⟩
        refine (does9_any H).mono ?_
        rintro e w' ⟨b,X',v',rfl,hb,hX',ht,hkg,hrf,hf⟩
        refine ⟨X',v',by rw [hb rfl rfl],fun k hk=>hX' k (.inl (HXX.out.1 k hk)),hX' g (.inl HXX.out.2),ht,hkg,hrf,?_,?_⟩
        .have h1:=HKF.out.fr (Fr.of_below (F:=fun _=>False) HWF.out) (fun e=>e)
         refine h1.fr hf (fun e=>?_)
         have h2:=HGA.out
         have h3:=h1.lt
         rcases e with e|e
         .exact e (.inr ⟨by omega,h3⟩)
         .have h4:=HKG.out.lt
          omega
        .exact hbw.trans (hf.to_below hbw.size (fun k e=>by
          rcases e with e|e
          .exact Nat.le_of_not_lt fun hk=>e (.inl (HXX.out.1 k hk))
          .rw [e];exact HWG.out)))
       have HLS:Hid ((doS c last L x.a).last<=k+1):=hid (by have:=doS_last c last L x.a;have:=HLA.out;omega)
       generalize (doS c last L x.a).last=last2 at *
       generalize (doS c last L x.a).L=L2 at *
       go_cut [61] (fun r wx=>r=.bool false/\∃ (X':Nat->Prop) (v':Value),(∀ k,k<w.heap.size->X' k)/\X' g/\TbX X' wx p c last2 L2/\Blk wx g 71 (rtV c last2 v')/\RfL wx X' w.heap.size L2 v'/\Blk wx ga 67 (actN x.a x.v)/\Below w.heap.size w wx)
       case first =>
        refine wp_region_noPanic (rgn HS12.out HWF.out fun hHeld=>?_)
        refine tk 0 ?_
        refine tk 1 ?_
        refine tkm 2 (actN x.a x.v) (ga) 0 (fun wq hSw=>hSw) Tryz.underlying67 ?_
        refine rd1 3 fun K hK=>?_
        go_simp
        refine (HDN.out).mono ?_
        rintro e we ⟨X',v2,rfl,hX',hXg',hte,hke,hre,hka,hbe⟩
        have HXE:Hid ((∀ k,k<w.heap.size->X' k)/\X' g):=hid ⟨hX',hXg'⟩
        have HTE:=hid hte
        have HKE:=hid hke
        have HRE:=hid hre
        have HAE:=hid hka
        have HBE:=hid hbe
        have HSE:Hid (∀ W,Below we.heap.size we W->W.rangeAt ga 0 (actN x.a x.v).toList):=hid (fun W hW=>blk_range (off:=0) (HAE.out.fr (Fr.of_below (F:=fun _=>False) hW) (fun e=>e)) rfl)
        have HALL:=hid (fun W (hW:Below we.heap.size we W)=>all_x (hte.below hW))
        unfold SaPost at HALL
        obtain ⟨ys,A2,c2,hys,rfl,_⟩:=id hre
        have c8:we.cell? ⟨g,8,none⟩=some (.slice A2 ys.length c2):=hke.cell 8
        have HLY:Hid (ys.length<=200):=hid (by
         obtain ⟨ls,Q⟩:=hte.sbq
         have h1:=Q.len
         have h2:=Q.subs
         have h3:=congrArg List.length hys
         rw [List.length_map] at h3
         omega)
        have HYS:=hid hys
        have HALLC:Hid (∀ W (zs:List SX) A7 c7,Below we.heap.size we W->zs.map (·.s)=L2->Rd W 39 34 zs.length A7 (rows subC zs)->(∀ z∈zs,SubM W z.s z.v)->Calls Tryz.prog 28 #[.slice A7 L2.length c7,.slice A2 ys.length c2] W fun e w'=>e=.returned (.bool true)/\Below W.heap.size W w'):=hid (fun W zs A7 c7 hW hzs h7 hm7=>by
         obtain ⟨ys',A2',c2',hys',e2,_,_,hrd,_,hsw⟩:=(hre.below hW hbe.size)
         injection e2 with e2 e3 e4
         obtain ⟨ls,Q⟩:=hte.sbq
         have hlz:L2.length=zs.length:=by rw [<-hzs,List.length_map]
         have hly:=HLY.out
         have h3:=congrArg List.length hys
         rw [List.length_map] at h3
         rw [hlz,e2,e3]
         exact rtall_any (hzs.trans hys'.symm) h7 hrd (fun z hz=>(hm7 z hz).y) (fun y hy=>(hsw y hy).y (Nat.le_trans hbe.size hW.size)) (fun z hz=>Q.z _ (hzs▸List.mem_map.2 ⟨z,hz,rfl⟩)) (by omega))
        clear hX' hXg' hte hke hre hka hbe hys HDN
        go_wp2_with fail
        refine bk hK (HSE.out _ (Below.refl _ _)) fun hHeld=>?_
        clear hK K
        refine tk 4 ?_
        refine tk 5 ?_
        refine tk 6 ?_
        refine tk 8 ?_
        refine tk 9 ?_
        refine tk 10 ?_
        refine wpAnyH_ready (rs:=[7,11]) (by kernel_rfl) (by simp) ?_
        refine rdc (fun K hK=>?_) ?_
        .go_simp
         refine (HALL.out _ (Below.refl we.heap.size we)).mono ?_
         rintro e wi ⟨vi,rfl,hoi,hbi⟩
         obtain ⟨zs,hzs,hown,hzm⟩:=hoi.ex
         obtain ⟨A7,c7,rfl,_,_,hrd7⟩:=RdV.of_own hown
         have HWI:Hid (Below we.heap.size we wi):=hid (((Below.refl we.heap.size we)).trans (hbi.mono ((Below.refl we.heap.size we)).size))
         have hlz:L2.length=zs.length:=by rw [<-hzs,List.length_map]
         have hrd8:Rd wi 39 34 zs.length A7 (rows subC zs):=by rw [<-hlz];exact hrd7
         have HZ7:Hid (zs.map (·.s)=L2/\Rd wi 39 34 zs.length A7 (rows subC zs)/\∀ z∈zs,SubM wi z.s z.v):=hid ⟨hzs,hrd8,hzm⟩
         have c8:wi.cell? ⟨g,8,none⟩=some (.slice A2 ys.length c2):=(HKE.out.fr (Fr.of_below (F:=fun _=>False) HWI.out) (fun e=>e)).cell 8
         clear hoi hzs hown hzm hrd7 hbi hlz hrd8
         go_wp2_with fail
         refine bk hK (HSE.out _ HWI.out) fun hHeld=>?_
         clear hK K
         refine rd1 11 fun K hK=>?_
         rw [if_pos (by rfl)]
         go_simp
         refine bk hK (HSE.out _ HWI.out) fun hHeld=>?_
         clear hK K
         refine rd1 12 fun K hK=>?_
         go_simp
         refine (HALLC.out _ _ _ _ HWI.out HZ7.out.1 HZ7.out.2.1 HZ7.out.2.2).mono ?_
         rintro e wj ⟨rfl,hbj⟩
         have HWJ:Hid (Below we.heap.size we wj):=hid (HWI.out.trans (hbj.mono HWI.out.size))
         clear hbj
         go_wp2_with fail
         refine bk hK (HSE.out _ HWJ.out) fun hHeld=>?_
         clear hK K
         refine tk 13 ?_
         refine tk 14 ?_
         refine dn9 (NoPanic.normal ?_)
         clear hHeld
         go_wp2_with fail
         go_meet
         exact ⟨rfl,X',_,HXE.out.1,HXE.out.2,HTE.out.below HWJ.out,HKE.out.fr (Fr.of_below (F:=fun _=>False) HWJ.out) (fun e=>e),HRE.out.below HWJ.out HBE.out.size,HAE.out.fr (Fr.of_below (F:=fun _=>False) HWJ.out) (fun e=>e),thenB_ HBE.out HWJ.out⟩
        refine rdc (fun K hK=>?_) ?_
        .rw [if_pos (by rfl)]
         go_simp
         refine bk hK (HSE.out _ (Below.refl _ _)) fun hHeld=>?_
         clear hK K
         refine rd1 7 fun K hK=>?_
         go_simp
         refine (HALL.out _ (Below.refl we.heap.size we)).mono ?_
         rintro e wi ⟨vi,rfl,hoi,hbi⟩
         obtain ⟨zs,hzs,hown,hzm⟩:=hoi.ex
         obtain ⟨A7,c7,rfl,_,_,hrd7⟩:=RdV.of_own hown
         have HWI:Hid (Below we.heap.size we wi):=hid (((Below.refl we.heap.size we)).trans (hbi.mono ((Below.refl we.heap.size we)).size))
         have hlz:L2.length=zs.length:=by rw [<-hzs,List.length_map]
         have hrd8:Rd wi 39 34 zs.length A7 (rows subC zs):=by rw [<-hlz];exact hrd7
         have HZ7:Hid (zs.map (·.s)=L2/\Rd wi 39 34 zs.length A7 (rows subC zs)/\∀ z∈zs,SubM wi z.s z.v):=hid ⟨hzs,hrd8,hzm⟩
         have c8:wi.cell? ⟨g,8,none⟩=some (.slice A2 ys.length c2):=(HKE.out.fr (Fr.of_below (F:=fun _=>False) HWI.out) (fun e=>e)).cell 8
         clear hoi hzs hown hzm hrd7 hbi hlz hrd8
         go_wp2_with fail
         refine bk hK (HSE.out _ HWI.out) fun hHeld=>?_
         clear hK K
         refine rd1 12 fun K hK=>?_
         go_simp
         refine (HALLC.out _ _ _ _ HWI.out HZ7.out.1 HZ7.out.2.1 HZ7.out.2.2).mono ?_
         rintro e wj ⟨rfl,hbj⟩
         have HWJ:Hid (Below we.heap.size we wj):=hid (HWI.out.trans (hbj.mono HWI.out.size))
         clear hbj
         go_wp2_with fail
         refine bk hK (HSE.out _ HWJ.out) fun hHeld=>?_
         clear hK K
         refine tk 13 ?_
         refine tk 14 ?_
         refine dn9 (NoPanic.normal ?_)
         clear hHeld
         go_wp2_with fail
         go_meet
         exact ⟨rfl,X',_,HXE.out.1,HXE.out.2,HTE.out.below HWJ.out,HKE.out.fr (Fr.of_below (F:=fun _=>False) HWJ.out) (fun e=>e),HRE.out.below HWJ.out HBE.out.size,HAE.out.fr (Fr.of_below (F:=fun _=>False) HWJ.out) (fun e=>e),thenB_ HBE.out HWJ.out⟩
        exact AllReadyH.nil
       case rest =>
        obtain ⟨rfl,X',v2,hX',hXg',hte,hke,hre,hka,hbe⟩:=hcut
        obtain ⟨we,rfl⟩:∃ we,we=wc:=⟨_,rfl⟩
        have HXE:Hid ((∀ k,k<w.heap.size->X' k)/\X' g):=hid ⟨hX',hXg'⟩
        have HTE:=hid hte
        have HKE:=hid hke
        have HRE:=hid hre
        have HAE:=hid hka
        have HBE:=hid hbe
        obtain ⟨fn,fb,hfs⟩:=findSV_is L2 x.a.r
        have HFX:Hid (∀ W,Below we.heap.size we W->Calls Tryz.prog 29 #[.pointer (some ⟨p,0,none⟩),.agg (reqA x.a.r x.v)] W fun e w'=>e=.returned (.tuple #[.int .i64 fn,.bool fb])/\Below W.heap.size W w'):=hid (fun W hW=>by
         have h9:=find_x (hte.below hW) x.a.r x.v
         unfold FdPost at h9
         rw [hfs] at h9
         exact h9)
        obtain ⟨ls,Q⟩:=hte.sbq
        have HQL:Hid (L2.length<=200):=hid (by have h1:=Q.len;have h2:=Q.subs;omega)
        have HND:=hid (subs_idnd Q.ids)
        have HZL:=hid Q.z
        clear Q
        obtain ⟨ys,A2,c2,hys,rfl,_⟩:=id hre
        have HYL:Hid (ys.length=L2.length):=hid (by rw [<-hys,List.length_map])
        have HYS:=hid hys
        have HFR:Hid (∀ W,Below we.heap.size we W->Calls Tryz.prog 30 #[.agg (rtV c last2 (.slice A2 ys.length c2)),.agg (reqA x.a.r x.v)] W fun e w'=>e=.returned (.tuple #[.int .i64 fn,.bool fb])/\Below W.heap.size W w'):=hid (fun W hW=>by
         have h9:=rtfind_any (c:=c) (last:=last2) (hre.below hW hbe.size) (Nat.le_trans hbe.size hW.size) (by have:=HQL.out;omega) HZL.out x.a.r x.v
         unfold FdPost at h9
         rw [hfs] at h9
         exact h9)
        have HPL:Hid (∀ W,Below we.heap.size we W->Calls Tryz.prog 31 #[.agg (rtV c last2 (.slice A2 ys.length c2)),.int .i64 x.a.num] W (PlsPost L2 x.a.num W)):=hid (fun W hW=>rplace_any (hre.below hW hbe.size) (by have:=HQL.out;omega))
        unfold PlsPost at HPL
        have HGT:Hid (∀ W,Below we.heap.size we W->Calls Tryz.prog 15 #[.pointer (some ⟨p,0,none⟩),.int .i64 x.a.num] W (GtPost L2 x.a.num W)):=hid (fun W hW=>get_x (hte.below hW))
        unfold GtPost at HGT
        clear hX' hXg' hte hke hre hka hbe hfs hys HDN HFW HT HKG HRF
        have HKK:Hid (∀ W,Below we.heap.size we W->Blk W g 71 (rtV c last2 (.slice A2 ys.length c2))/\Blk W ga 67 (actN x.a x.v)):=hid (fun W hW=>⟨HKE.out.fr (Fr.of_below (F:=fun _=>False) hW) (fun e=>e),HAE.out.fr (Fr.of_below (F:=fun _=>False) hW) (fun e=>e)⟩)
        go_upto_region 15 with (first|(refine wpl_load rfl 45 (.tmp 64) rfl ga 5 rfl HAE.out (reqA x.a.r x.v).toList rfl _ Tryz.underlying45 rfl (by kernel_rfl) ?_)|(go_at_call 29;refine (HFX.out _ (Below.refl _ _)).mono ?_;rintro e w4 ⟨rfl,hb4⟩;have HW4:=hid hb4;clear hb4))
        have HW4D:Hid (Below we.heap.size we w4.drew):=hid HW4.out.drew
        have HS15:Hid (∀ W,Below we.heap.size we W->W.rangeAt g 0 (rtV c last2 (.slice A2 ys.length c2)).toList/\W.rangeAt ga 5 (reqA x.a.r x.v).toList):=hid (fun W hW=>⟨blk_range (off:=0) (HKK.out W hW).1 rfl,blk_range (off:=5) (HKK.out W hW).2 rfl⟩)
        refine wp_region_noPanic (rgn HS15.out HW4D.out fun hHeld=>?_)
        refine tk 0 ?_
        refine tk 1 ?_
        refine tkm 2 (rtV c last2 (.slice A2 ys.length c2)) (g) 0 (fun wq hSw=>hSw.1) Tryz.underlying71 ?_
        refine tk 3 ?_
        refine tkm 4 (reqA x.a.r x.v) (ga) 5 (fun wq hSw=>hSw.2) Tryz.underlying45 ?_
        refine rd1 5 fun K hK=>?_
        go_simp
        refine (HFR.out _ HW4D.out).mono ?_
        rintro e w5 ⟨rfl,hb5⟩
        have HW5:Hid (Below we.heap.size we w5):=hid (HW4D.out.trans (hb5.mono HW4D.out.size))
        clear hb5
        go_wp2_with fail
        refine bk hK (HS15.out _ HW5.out) fun hHeld=>?_
        clear hK K
        refine tk 6 ?_
        refine tk 7 ?_
        refine tk 8 ?_
        refine tk 9 ?_
        refine tk 10 ?_
        refine dn9 (NoPanic.normal ?_)
        clear hHeld
        have p2:w5.cell? ⟨ga,2,none⟩=some (.int .i64 x.a.num):=(HKK.out _ HW5.out).2.cell 2
        go_upto_region 16 with (fail)
        go_cut [13,14] (fun p13 b14 wx=>∃ g3 s v3,p13=.pointer (some ⟨g3,0,none⟩)/\Blk wx g3 39 (subA s v3)/\SubM wx s v3/\SubZ s/\Below we.heap.size we wx/\((b14=.bool true/\s∈L2/\s.number=x.a.num)\/(b14=.bool false/\x.a.num∉L2.map (·.number)/\s=noSub)))
        case first =>
         go_wp2_with fail
         refine (HGT.out _ HW5.out).mono ?_
         rintro e w6 (⟨s,v3,hs,hsn,rfl,hm,hb6⟩|⟨hno,rfl,hb6⟩)
         .have HB6:=hid hb6
          have HM:=hid hm
          have HSS:=hid (And.intro hs hsn)
          have HS0:=hid (HZL.out s hs)
          clear hb6 hm hs hsn p2
          go_wp2_with (refine wpl_store rfl 39 (.tmp 13) (.tmp 83) rfl w6.heap.size 0 rfl (subA s v3) rfl (sub_blk0 w6) (Nat.le_refl 34) (subA s v3) rfl (by kernel_rfl) (subA_one HM.out.ok.1 HM.out.ok.2) ?_;intro w7 hk7 hf7)
          go_meet
          have hbz:Below w6.heap.size w6 w7:=below_upfr ((Below.refl w6.heap.size w6).alloc (Nat.le_refl _) _) (Nat.le_refl _) hf7 (fun k e=>by omega)
          exact ⟨_,s,v3,rfl,hk7,HM.out.below hbz,HS0.out,thenB_ (thenB_ HW5.out HB6.out) hbz,.inl ⟨rfl,HSS.out.1,HSS.out.2⟩⟩
         .have HB6:=hid hb6
          have HNO:=hid hno
          clear hb6 hno p2
          go_wp2_with (refine wpl_store rfl 39 (.tmp 13) (.tmp 83) rfl w6.heap.size 0 rfl sub0 rfl (sub_blk0 w6) (Nat.le_refl 34) sub0 rfl (by kernel_rfl) sub0_one ?_;intro w7 hk7 hf7)
          go_meet
          have hbz:Below w6.heap.size w6 w7:=below_upfr ((Below.refl w6.heap.size w6).alloc (Nat.le_refl _) _) (Nat.le_refl _) hf7 (fun k e=>by omega)
          exact ⟨_,noSub,nilV,rfl,hk7,sub_none _,noSub_z,thenB_ (thenB_ HW5.out HB6.out) hbz,.inr ⟨rfl,HNO.out,rfl⟩⟩
        case rest =>
         obtain ⟨g3,s,v3,rfl,hk3,hm3,hz3,hb7,hway⟩:=hcut
         obtain ⟨w7,rfl⟩:∃ w7,w7=wc:=⟨_,rfl⟩
         have HK3:=hid hk3
         have HM3:=hid hm3
         have HZ3:=hid hz3
         have HW7:=hid hb7
         have HW7D:Hid (Below we.heap.size we w7.drew):=hid HW7.out.drew
         have HS17:Hid (∀ W,Below we.heap.size we W->W.rangeAt g 0 (rtV c last2 (.slice A2 ys.length c2)).toList/\W.cell? ⟨ga,2,none⟩=some (.int .i64 x.a.num)):=hid (fun W hW=>⟨blk_range (off:=0) (HKK.out W hW).1 rfl,(HKK.out W hW).2.cell 2⟩)
         have HWAY:=hid hway
         clear hk3 hm3 hz3 hb7 hway
         go_upto_region 17 with (fail)
         refine wp_region_noPanic (rgn HS17.out HW7D.out fun hHeld=>?_)
         refine tk 0 ?_
         refine tk 1 ?_
         refine tkm 2 (rtV c last2 (.slice A2 ys.length c2)) (g) 0 (fun wq hSw=>hSw.1) Tryz.underlying71 ?_
         refine tk 3 ?_
         refine tk 4 ?_
         refine rd1 5 fun K hK=>?_
         go_simp
         refine (HPL.out _ HW7D.out).mono ?_
         rintro e w8 ⟨rfl,hb8⟩
         have HW78:Hid (Below w7.heap.size w7 w8):=hid ((Below.refl w7.heap.size w7).drew.trans hb8)
         have HW8:Hid (Below we.heap.size we w8):=hid (HW7D.out.trans (hb8.mono HW7D.out.size))
         clear hb8
         go_wp2_with fail
         refine bk hK (HS17.out _ HW8.out) fun hHeld=>?_
         clear hK K
         refine tk 6 ?_
         refine dn9 (NoPanic.normal ?_)
         clear hHeld
         have HK3W:Hid (∀ W,Below w8.heap.size w8 W->Blk W g3 39 (subA s v3)/\SubM W s v3):=hid (fun W hW=>by
          have h9:=HW78.out.trans (hW.mono HW78.out.size)
          exact ⟨HK3.out.fr (Fr.of_below (F:=fun _=>False) h9) (fun e=>e),HM3.out.below h9⟩)
         have HBWE:Hid (∀ W,Below w8.heap.size w8 W->Below we.heap.size we W):=hid (fun W hW=>HW8.out.trans (hW.mono HW8.out.size))
         have HW8D:Hid (Below w8.heap.size w8 w8.drew):=hid (Below.refl _ _).drew
         have HROUND:Hid (∀ W,Below w8.heap.size w8 W->∃ k9:Nat,k9<=l.length/\(.int .i64 ((k:Int)+1):Value)=.int .i64 k9/\∃ (X:Nat->Prop) (last:Int) (L:List SubP) (v:Value),(∀ k,k<w.heap.size->X k)/\X g/\last<=k9/\TbX X W p c last L/\Blk W g 71 (rtV c last v)/\RfL W X w.heap.size L v/\Below w.heap.size w W):=hid (fun W hW=>by
          have h9:=HBWE.out W hW
          refine ⟨k+1,by omega,rfl,X',last2,L2,.slice A2 ys.length c2,HXE.out.1,HXE.out.2,?_,HTE.out.below h9,(HKK.out W h9).1,HRE.out.below h9 HBE.out.size,thenB_ HBE.out h9⟩
          have:=HLS.out
          omega)
         have z1:(fn != fn)=false:=by simp
         have z2:(fb != fb)=false:=by cases fb <;> rfl
         rcases HWAY.out with ⟨rfl,hsL,hsn⟩|⟨rfl,hno,rfl⟩
         .obtain ⟨j,hj,hp,hjn⟩:∃ j,∃ h:j<L2.length,plcS L2 x.a.num=j/\L2[j].number=x.a.num:=by
           rcases plc_has L2 x.a.num with ⟨h1,_⟩|h
           .exact absurd (List.mem_map.2 ⟨s,hsL,hsn⟩) h1
           .exact h
          have hsj:s=L2[j]:=num_eq HND.out hsL (List.getElem_mem hj) (hsn.trans hjn.symm)
          have hjy:j<ys.length:=by rw [HYL.out];exact hj
          have hyj:ys[j].s=s:=by
           have h9:(ys.map (·.s))[j]'(by simpa using hjy)=L2[j]:=by simp only [HYS.out]
           rw [hsj,<-h9]
           simp
          obtain ⟨ys',A2',c2',hys',e2,_,_,hrd,_,hsw⟩:=HRE.out
          injection e2 with e2 e3 e4
          have HRD2:Hid (∀ W,Below we.heap.size we W->∃ gb2 off2,A2=some ⟨gb2,off2,none⟩/\W.rangeAt gb2 (off2+j*34) (subA s (ys'[j]'(by omega)).v).toList/\SubW W w.heap.size s (ys'[j]'(by omega)).v):=hid (fun W hW=>by
           have hj':j<ys'.length:=by omega
           obtain ⟨gb2,off2,e9,_,hc9⟩:=sb_row (hrd.below hW) hj'
           have hss:ys'[j].s=s:=by
            have h9:(ys'.map (·.s))[j]'(by simpa using hj')=L2[j]:=by simp only [hys']
            rw [hsj,<-h9]
            simp
           refine ⟨gb2,off2,e2.trans e9,?_,?_⟩
           .have h8:=sb_range hc9
            unfold subC at h8
            rw [hss] at h8
            exact h8
           .have h8:=(hsw _ (List.getElem_mem hj')).below hW HBE.out.size
            rw [hss] at h8
            exact h8)
          have hj':j<ys'.length:=by omega
          obtain ⟨vj,hvj⟩:∃ vj,(ys'[j]'hj').v=vj:=⟨_,rfl⟩
          simp only [hvj] at HRD2
          obtain ⟨gb2,off2,rfl,_⟩:=HRD2.out _ (Below.refl _ _)
          have x0:(0:Int)<=j:=by omega
          have x1:(j:Int)<ys.length:=by omega
          have z3:decide ((j:Int)>=0)=true:=decide_eq_true x0
          rw [hp]
          have HSM:Hid (∀ W,Below w8.heap.size w8 W->Calls Tryz.prog 16 #[.agg (subA s v3),.agg (subA s vj)] W fun e w'=>e=.returned (.bool true)/\Below W.heap.size W w'):=hid (fun W hW=>by
           obtain ⟨_,_,_,_,hsw9⟩:=HRD2.out W (HBWE.out W hW)
           have h9:=sbSameY (HK3W.out W hW).2.y (hsw9.y (Nat.le_trans HBE.out.size (HBWE.out W hW).size)) HZ3.out HZ3.out
           rw [sbs_self] at h9
           exact h9)
          have HS18:Hid (∀ W,Below w8.heap.size w8 W->W.rangeAt g3 0 (subA s v3).toList/\W.cell? ⟨g,8,none⟩=some (.slice (some ⟨gb2,off2,none⟩) ys.length c2)/\W.rangeAt gb2 (off2+j*34) (subA s vj).toList):=hid (fun W hW=>by
           obtain ⟨g9,o9,e9,hr9,_⟩:=HRD2.out W (HBWE.out W hW)
           injection e9 with e9
           injection e9 with e91 e92 _
           subst e91 e92
           exact ⟨blk_range (off:=0) (HK3W.out W hW).1 rfl,(HKK.out W (HBWE.out W hW)).1.cell 8,hr9⟩)
          clear hsj hyj hys' hrd hsw e2 e3 e4 hvj hjn hsL hsn hp hjy hj hj'
          go_upto_region 18 with (fail)
          refine wp_region_noPanic (rgn HS18.out HW8D.out fun hHeld=>?_)
          refine tk 0 ?_
          refine tk 1 ?_
          refine tk 2 ?_
          refine tk 3 ?_
          refine tk 4 ?_
          refine tk 5 ?_
          refine tk 6 ?_
          refine tk 7 ?_
          refine tk 8 ?_
          refine tk 9 ?_
          refine tk 10 ?_
          refine tk 11 ?_
          refine tk 12 ?_
          refine tk 13 ?_
          refine tk 14 ?_
          refine tk 15 ?_
          refine tk 16 ?_
          refine tkm 17 (subA s v3) (g3) 0 (fun wq hSw=>hSw.1) Tryz.underlying39 ?_
          refine tk 18 ?_
          refine tk 19 ?_
          refine tk 20 ?_
          refine tk 21 ?_
          refine tk 22 ?_
          refine tk 23 ?_
          refine tkm 24 (subA s vj) (gb2) (off2+j*34) (fun wq hSw=>hSw.2.2) Tryz.underlying39 ?_
          refine rd1 25 fun K hK=>?_
          go_simp
          refine (HSM.out _ HW8D.out).mono ?_
          rintro e w9 ⟨rfl,hb9⟩
          have HW9:Hid (Below w8.heap.size w8 w9):=hid (HW8D.out.trans hb9)
          clear hb9
          go_wp2_with fail
          refine bk hK (HS18.out _ HW9.out) fun hHeld=>?_
          clear hK K
          refine tk 26 ?_
          refine tk 27 ?_
          refine tk 28 ?_
          refine tk 29 ?_
          refine tk 30 ?_
          refine tk 31 ?_
          refine tk 32 ?_
          refine tkv 33 undef (Or.inr ⟨?_,rfl⟩) ?_
          .rfl
          refine tkv 34 undef (Or.inr ⟨?_,rfl⟩) ?_
          .rfl
          refine tkv 35 undef (Or.inr ⟨?_,rfl⟩) ?_
          .rfl
          refine tkv 36 undef (Or.inr ⟨?_,rfl⟩) ?_
          .rfl
          refine tk 37 ?_
          refine tk 38 ?_
          refine dn9 (NoPanic.normal ?_)
          clear hHeld
          go_wp2_with fail
          go_roundw
          case rel=>exact HROUND.out _ HW9.out
          case measure=>simp [intOf] <;> omega
         .have hp:plcS L2 x.a.num=-1:=by
           rcases plc_has L2 x.a.num with ⟨_,h⟩|⟨j,hj,_,hjn⟩
           .exact h
           .exact absurd (List.mem_map.2 ⟨_,List.getElem_mem hj,hjn⟩) hno
          rw [hp]
          have z3:decide ((-1:Int)>=0)=false:=by decide
          have HSM:Hid (∀ W,Below w8.heap.size w8 W->Calls Tryz.prog 16 #[.agg (subA noSub v3),.agg (subA noSub nilV)] W fun e w'=>e=.returned (.bool true)/\Below W.heap.size W w'):=hid (fun W hW=>by
           have h9:=sbSameY (HK3W.out W hW).2.y (sub_none W).y noSub_z noSub_z
           rw [sbs_self] at h9
           exact h9)
          have HS18:Hid (∀ W,Below w8.heap.size w8 W->W.rangeAt g3 0 (subA noSub v3).toList):=hid (fun W hW=>blk_range (off:=0) (HK3W.out W hW).1 rfl)
          clear hp hno
          go_upto_region 18 with (fail)
          refine wp_region_noPanic (rgn HS18.out HW8D.out fun hHeld=>?_)
          refine tk 0 ?_
          refine tk 1 ?_
          refine tk 2 ?_
          refine tk 3 ?_
          refine tk 4 ?_
          refine tk 5 ?_
          refine tk 6 ?_
          refine tk 7 ?_
          refine tk 8 ?_
          refine tk 9 ?_
          refine tk 10 ?_
          refine tk 11 ?_
          refine tk 12 ?_
          refine tk 13 ?_
          refine tk 14 ?_
          refine tk 15 ?_
          refine tk 16 ?_
          refine tkv 17 undef (Or.inr ⟨?_,rfl⟩) ?_
          .rfl
          refine tkv 18 undef (Or.inr ⟨?_,rfl⟩) ?_
          .rfl
          refine tkv 19 undef (Or.inr ⟨?_,rfl⟩) ?_
          .rfl
          refine tkv 20 undef (Or.inr ⟨?_,rfl⟩) ?_
          .rfl
          refine tkv 21 undef (Or.inr ⟨?_,rfl⟩) ?_
          .rfl
          refine tkv 22 undef (Or.inr ⟨?_,rfl⟩) ?_
          .rfl
          refine tkv 23 undef (Or.inr ⟨?_,rfl⟩) ?_
          .rfl
          refine tkv 24 undef (Or.inr ⟨?_,rfl⟩) ?_
          .rfl
          refine tkv 25 undef (Or.inr ⟨?_,rfl⟩) ?_
          .rfl
          refine tkv 26 undef (Or.inr ⟨?_,rfl⟩) ?_
          .rfl
          refine tk 27 ?_
          refine tk 28 ?_
          refine tk 29 ?_
          refine tk 30 ?_
          refine tk 31 ?_
          refine tk 32 ?_
          refine tkm 33 (subA noSub v3) (g3) 0 (fun wq hSw=>hSw) Tryz.underlying39 ?_
          refine tk 34 ?_
          refine rd1 35 fun K hK=>?_
          go_simp
          refine (HSM.out _ HW8D.out).mono ?_
          rintro e w9 ⟨rfl,hb9⟩
          have HW9:Hid (Below w8.heap.size w8 w9):=hid (HW8D.out.trans hb9)
          clear hb9
          go_wp2_with fail
          refine bk hK (HS18.out _ HW9.out) fun hHeld=>?_
          clear hK K
          refine tk 36 ?_
          refine tk 37 ?_
          refine tk 38 ?_
          refine dn9 (NoPanic.normal ?_)
          clear hHeld
          go_wp2_with fail
          go_roundw
          case rel=>exact HROUND.out _ HW9.out
          case measure=>simp [intOf] <;> omega
    .have hends:¬(k:Int)<l.length\/((k:Int)<l.length/\¬(k:Int)<40):=by omega
     clear hgo
     rcases hends with x1|⟨x1,x2⟩
     all_goals
      go_wp2_with fail
      refine (HAW.out _).mono ?_
      rintro e wz ⟨rfl,bz⟩
      have HBz:=hid (thenB_ HB.out bz)
      clear bz
      go_wp2
      go_ret
      exact ⟨rfl,HBz.out⟩
end Go.Proofs.YthkadehlclcggaaGreatDoor
