/- Chapter 19: SubsEnds. -/
import Derived.Test.YthkadehlclcggaaGreatDoorGy82
namespace Go.Proofs.YthkadehlclcggaaGreatDoor
set_option linter.unusedSimpArgs false
set_option linter.unusedVariables false
open Go.RowKit
open Go.Lib (hid)
set_option maxRecDepth 100000 in
set_option maxHeartbeats 16000000 in
theorem subsEnds_any {l:List ActY} {A:Option Addr} {cA:Nat} (w:World) (hr:RdB w w.heap.size 43 l.length A (rows actC19 l)) (hx:∀ x∈l,ActR19 w w.heap.size BigN x) (hl:l.length<=BigN) :
 Calls Tryz.prog 7 #[.slice A l.length cA] w (Awk19 w):=by
 have HAW:=hid awake19_any
 unfold Awk19 at HAW
 have HPL:=hid (plain19_any 1)
 have HBG:Hid (∀ W,Calls Tryz.prog 10 #[.agg #[.string ⟨#[]⟩,.int .i64 1,.int .i64 1,.int .i64 1,.int .i64 60,.int .i64 3600,.int .i64 600]] W (Bgn19 (plS 1) W)):=hid (fun W=>begun19_any (c:=plS 1) (plS_right (by omega) (by omega)) W)
 have HR1:Hid (∀ W,Calls Tryz.prog 13 #[.int .i64 1,.string ⟨#[]⟩,.int .i64 0] W (RqPost (reqT 1 [] 0) W)):=hid (fun W=>request_any 1 0 [] W)
 have HBE:Hid (∀ X W p q,TbX X W p (plS 1) 0 []->ReqB W W.heap.size (reqT 1 [] 0) q->Calls Tryz.prog 12 #[.pointer (some ⟨p,0,none⟩),.int .i64 0,.agg (reqA (reqT 1 [] 0) q),.string ⟨#[97,64,98]⟩,.string ⟨#[99,64,100]⟩,.int .i64 1,.string ⟨#[120]⟩] W fun e w'=>∃ s v',EndS s/\e=.returned (.tuple #[.agg (subA s v'),.int .i64 0])/\SubM w' s v'/\TbTo X p (plS 1) 1 [s] W w'):=hid (fun X W p q H hr=>by
  have h9:=begin_x (now:=0) (state:=1) (who:=abT) (watcher:=cdT) (tag:=[120]) H (by omega) (Nat.le_refl _) hr (reqT_z _ _ _) (by decide)
  rw [begS_E] at h9
  refine h9.mono ?_
  rintro e w' ⟨v',rfl,hm,ht⟩
  exact ⟨_,v',sE_end,rfl,hm,ht⟩)
 have HRD:=hid hr
 have HXA:=hid hx
 have HLN:Hid (l.length<=1048576):=hid hl
 unfold Bgn19 at HBG
 unfold RqPost at HR1
 clear hr hx hl
 go_enter Tryz.func7,Tryz.ntmps7
 go_wp2_with fail
 refine (HPL.out _).mono ?_
 rintro e w1 ⟨rfl,hb1⟩
 have HB1:=hid hb1
 clear hb1
 go_wp2_with fail
 refine (HBG.out _).mono ?_
 rintro e w2 ⟨p,F,rfl,hst,hb2,hF⟩
 have HB2:=hid (thenB_ HB1.out hb2)
 have HT2:Hid (TbX (fun k=>k<w.heap.size) w2 p (plS 1) 0 []):=hid (TbX.start hst (fun k hk=>Nat.le_trans HB1.out.size (hF k hk)) HB2.out.size)
 clear hst hb2 hF
 go_wp2_with fail
 refine (HR1.out _).mono ?_
 rintro e w3 ⟨q3,rfl,hr3,hb3⟩
 have HT3:=hid (HT2.out.below hb3)
 have HB3:=hid (thenB_ HB2.out hb3)
 have HRQ3:=hid hr3
 clear hr3 hb3
 go_wp2_with fail
 refine (HBE.out _ _ _ _ HT3.out HRQ3.out).mono ?_
 rintro e w4 ⟨S,v4,hS4,rfl,m4,t4⟩
 have HT4:=hid t4
 have HON4:=hid (subA_one (s:=S) m4.ok.1 m4.ok.2)
 have HB4:Hid (Below w.heap.size w w4):=hid (HB3.out.trans (below_out t4.fr (fun k h=>h) HB3.out.size))
 have HS4:=hid hS4
 clear m4 t4 hS4
 go_upto_region 5 with (refine wpl_store rfl 39 (.tmp 4) (.tmp 18) rfl w4.heap.size 0 rfl (subA S v4) rfl (sub_blk0 w4) (Nat.le_refl 34) (subA S v4) rfl (by kernel_rfl) HON4.out ?_;intro w5 hk5 hf5)
 obtain ⟨t5,b5⟩:=HT4.out.tab.loc hf5
 have HT5:=hid t5
 have HB5:=hid (thenB_ HB4.out b5)
 clear hk5 hf5 t5 b5 HT4 HT3 HRQ3 HON4 HBE HR1
 go_wp2_with fail
 go_loopw [6] (fun i wr=>∃ k:Nat,k<=l.length/\i=.int .i64 k/\∃ s:SubP,EndS s/\TbX (fun k=>k<w.heap.size) wr p (plS 1) 1 [s]/\Below w.heap.size w wr) (fun i _=>l.length-(intOf i).toNat)
 case atStart=>exact ⟨0,by omega,rfl,S,HS4.out,HT5.out,HB5.out⟩
 case round =>
  obtain ⟨k,hk,rfl,s,hs,hT,hB⟩:=hrel
  have HS:=hid hs
  have HT:=hid hT
  have HB:=hid hB
  clear hs hT hB
  by_cases hgo:k<l.length/\k<30
  .obtain ⟨hlt,h30⟩:=hgo
   obtain ⟨gb,off,rfl,hgb,hrg⟩:=act_range (HRD.out.below HB.out) hlt
   have HX:=hid (HXA.out _ (List.getElem_mem hlt))
   have HRG:=hid hrg
   have x0:(0:Int)<=k:=by omega
   have x1:(k:Int)<l.length:=by omega
   have x2:(k:Int)<30:=by omega
   clear hrg
   generalize l[k]=x at *
   go_upto_region 11 with (first|(refine wpList_load_mid rfl 67 (.tmp 34) rfl gb (off+k*43) rfl (actN x.a x.v).toList _ HRG.out Tryz.underlying67 rfl (by kernel_rfl) ?_)|(refine wpl_store rfl 67 (.tmp 7) (.tmp 35) rfl wr.heap.size 0 rfl (actN x.a x.v) rfl (act_blk0 wr) (Nat.le_refl 43) (actN x.a x.v) rfl (by kernel_rfl) HX.out.one ?_;intro wa hka hfa))
   have ba:Below wr.heap.size wr wa:=((Below.refl wr.heap.size wr).alloc (Nat.le_refl _) _).trans (hfa.to_below (by simp) (fun k e=>by omega))
   have HBA:=hid ba
   have HKA:=hid hka
   have HFW:Hid (Calls Tryz.prog 22 #[.agg (reqA x.a.r x.v)] wa fun e w'=>e=.returned (.bool (fewB x.a.r))/\Below wa.heap.size wa w'):=hid (few_n (Nat.le_trans HB.out.size ba.size) (HX.out.r.below (HB.out.trans (ba.mono HB.out.size))) HX.out.n)
   obtain ⟨ga,hga⟩:∃ g,wr.heap.size=g:=⟨_,rfl⟩
   have HGA:=hid hga
   rw [hga] at hka
   simp only [hga]
   have HKA:=hid hka
   clear ba hka hfa hga
   generalize hfb:fewB x.a.r=fb at *
   clear hfb
   have HARM:Hid (∀ wf,Below wa.heap.size wa wf->wf.cell? ⟨ga,0,none⟩=some (.int .i64 x.a.kind)):=hid (fun wf h=>(HKA.out.fr (Fr.of_below (F:=fun _=>False) h) (fun e=>e)).cell 0)
   by_cases hgo:fb=true/\x.a.kind≠4
   .obtain ⟨rfl,hk4⟩:=hgo
    have y4:(x.a.kind == 4)=false:=by simpa using hk4
    obtain ⟨s2,hs2,hd2⟩:=ends_step (a:=x.a) HS.out hk4
    have HS2:=hid hs2
    have HD2:=hid hd2
    clear hk4 hs2 hd2
    go_upto_region 12 with (first|(refine wpl_load rfl 45 (.tmp 36) rfl ga 5 rfl HKA.out (reqA x.a.r x.v).toList rfl _ Tryz.underlying45 rfl (by kernel_rfl) ?_)|(go_at_call 22;refine (HFW.out).mono ?_;rintro e wf ⟨rfl,hbf⟩;have HBF:=hid hbf;have p0:=HARM.out _ hbf;clear hbf))
    have HBRF:Hid (Below wr.heap.size wr wf):=hid (HBA.out.trans (HBF.out.mono HBA.out.size))
    have HKF:=hid (HKA.out.fr (Fr.of_below (F:=fun _=>False) HBF.out) (fun e=>e))
    clear p0 y4
    have HS12:Hid (∀ W,Below wf.heap.size wf W->W.rangeAt ga 0 (actN x.a x.v).toList):=hid (fun W hW=>blk_range (off:=0) (HKF.out.fr (Fr.of_below (F:=fun _=>False) hW) (fun e=>e)) rfl)
    have HWF:Hid (Below wf.heap.size wf wf.drew):=hid (Below.refl _ _).drew
    refine wp_region_noPanic (rgn HS12.out HWF.out fun hHeld=>?_)
    refine tk 0 ?_
    refine tkm 4 (actN x.a x.v) (ga) 0 (fun wq hSw=>hSw) Tryz.underlying67 ?_
    refine rd1 1 fun K hK=>?_
    go_simp
    refine (HPL.out _).mono ?_
    rintro e wp ⟨rfl,hbp⟩
    have HWP:Hid (Below wf.heap.size wf wp):=hid (HWF.out.trans hbp)
    clear hbp
    go_wp2_with fail
    refine bk hK (HS12.out _ HWP.out) fun hHeld=>?_
    clear hK K
    refine tk 2 ?_
    refine rd1 3 fun K hK=>?_
    go_simp
    have hbb:Below wp.heap.size wp (wp.alloc (.cells #[.string ⟨#[]⟩,.int .i64 1,.int .i64 1,.int .i64 1,.int .i64 60,.int .i64 3600,.int .i64 600,.int .i64 0,.slice none 0 0] 71)):=(Below.refl _ _).alloc (Nat.le_refl _) _
    have hkb:Blk (wp.alloc (.cells #[.string ⟨#[]⟩,.int .i64 1,.int .i64 1,.int .i64 1,.int .i64 60,.int .i64 3600,.int .i64 600,.int .i64 0,.slice none 0 0] 71)) wp.heap.size 71 (rtV (plS 1) 0 (.slice none 0 0)):=Blk.new _ _ _
    obtain ⟨wb,hu⟩:∃ u,wp.alloc (.cells #[.string ⟨#[]⟩,.int .i64 1,.int .i64 1,.int .i64 1,.int .i64 60,.int .i64 3600,.int .i64 600,.int .i64 0,.slice none 0 0] 71)=u:=⟨_,rfl⟩
    rw [hu] at hbb hkb ⊢
    clear hu
    have HWB:Hid (Below wf.heap.size wf wb):=hid (HWP.out.trans (hbb.mono HWP.out.size))
    have HKB:=hid hkb
    have HGP:Hid (wf.heap.size<=wp.heap.size):=hid HWP.out.size
    clear hbb hkb
    refine bk hK (HS12.out _ HWB.out) fun hHeld=>?_
    clear hK K
    refine rd1 5 fun K hK=>?_
    go_simp
    have HDN:=hid (does_new (x:=x) HT.out (fun k hk=>hk) HB.out (HBRF.out.trans (HWB.out.mono HBRF.out.size)) (Nat.le_trans HBRF.out.size HGP.out) HKB.out HX.out (by omega))
    rw [HD2.out] at HDN
    refine (HDN.out).mono ?_
    rintro e we ⟨⟨b,rfl⟩,hte,hbe,hfe⟩
    have HTE:=hid hte
    have HBE9:=hid hbe
    have HSE9:Hid (we.rangeAt ga 0 (actN x.a x.v).toList):=hid (blk_range (off:=0) ((HKF.out.fr (Fr.of_below (F:=fun _=>False) HWB.out) (fun e=>e)).fr hfe (fun e=>by
     have h1:=HGA.out
     have h2:=HKF.out.lt
     have h3:=HGP.out
     have h4:=HWB.out.size
     rcases e with e|e
     .exact e (.inr ⟨by omega,by omega⟩)
     .omega)) rfl)
    clear hte hbe hfe HDN
    go_wp2_with fail
    refine bk hK (HSE9.out) fun hHeld=>?_
    clear hK K
    refine dn9 (NoPanic.normal ?_)
    clear hHeld
    have HGE:=hid (get_one (n:=1) HTE.out HS2.out.n)
    go_wp2_with fail
    refine (HGE.out).mono ?_
    rintro e wg ⟨vg,rfl,mg,bg⟩
    have HTG:=hid (HTE.out.below bg)
    have HBG9:=hid (thenB_ HBE9.out bg)
    have HMG:=hid mg
    clear mg bg HGE
    go_upto_region 14 with (refine wpl_store rfl 39 (.tmp 8) (.tmp 54) rfl wg.heap.size 0 rfl (subA s2 vg) rfl (sub_blk0 wg) (Nat.le_refl 34) (subA s2 vg) rfl (by kernel_rfl) (subA_one HMG.out.ok.1 HMG.out.ok.2) ?_;intro wh hkh hfh)
    obtain ⟨th,bh⟩:=HTG.out.loc hfh
    have HTH:=hid th
    have HBH:=hid (thenB_ HBG9.out bh)
    have p5:wh.cell? ⟨wg.heap.size,5,none⟩=some (.int .i64 2):=by rw [<-HS2.out.st];exact hkh.cell 5
    have p6:wh.cell? ⟨wg.heap.size,6,none⟩=some (.string ⟨#[116,105,109,101,111,117,116]⟩):=(hkh.cell 6).trans (by show some (Value.string (str s2.reason))=_;rw [HS2.out.rs];rfl)
    have HALL:=hid (all_x th)
    unfold SaPost at HALL
    clear hkh hfh th bh
    go_wp2_with fail
    refine (HALL.out).mono ?_
    rintro e wi ⟨vi,rfl,hoi,hbi⟩
    obtain ⟨ys,hys,hown,_⟩:=hoi.ex
    obtain ⟨Ai,ci,rfl,_⟩:=RdV.of_own hown
    have HTI:=hid (HTH.out.below hbi)
    have HBI:=hid (thenB_ HBH.out hbi)
    clear hoi hys hown hbi HALL p5 p6
    go_wp2_with fail
    go_roundw
    case rel=>exact ⟨k+1,by omega,by go_num,s2,HS2.out,HTI.out,HBI.out⟩
    case measure=>simp [intOf] <;> omega
   .have hno:fb=false\/(fb=true/\x.a.kind=4):=by
     cases fb
     .exact .inl rfl
     .exact .inr ⟨rfl,by by_cases h:x.a.kind=4;exact h;exact absurd ⟨rfl,h⟩ hgo⟩
    clear hgo
    rcases hno with rfl|⟨rfl,hk4⟩
    .go_upto_region 9 with (first|(refine wpl_load rfl 45 (.tmp 36) rfl ga 5 rfl HKA.out (reqA x.a.r x.v).toList rfl _ Tryz.underlying45 rfl (by kernel_rfl) ?_)|(go_at_call 22;refine (HFW.out).mono ?_;rintro e wf ⟨rfl,hbf⟩;have HBF:=hid hbf;clear hbf))
     have HBRF:Hid (Below wr.heap.size wr wf):=hid (HBA.out.trans (HBF.out.mono HBA.out.size))
     have HTF:=hid (HT.out.below HBRF.out)
     have HBF9:=hid (thenB_ HB.out HBRF.out)
     go_wp2_with fail
     go_roundw
     case rel=>exact ⟨k+1,by omega,by go_num,s,HS.out,HTF.out,HBF9.out⟩
     case measure=>simp [intOf] <;> omega
    .rw [hk4] at HARM
     clear hk4
     go_upto_region 9 with (first|(refine wpl_load rfl 45 (.tmp 36) rfl ga 5 rfl HKA.out (reqA x.a.r x.v).toList rfl _ Tryz.underlying45 rfl (by kernel_rfl) ?_)|(go_at_call 22;refine (HFW.out).mono ?_;rintro e wf ⟨rfl,hbf⟩;have HBF:=hid hbf;have p0:=HARM.out _ hbf;clear hbf))
     have HBRF:Hid (Below wr.heap.size wr wf):=hid (HBA.out.trans (HBF.out.mono HBA.out.size))
     have HTF:=hid (HT.out.below HBRF.out)
     have HBF9:=hid (thenB_ HB.out HBRF.out)
     clear p0
     go_wp2_with fail
     go_roundw
     case rel=>exact ⟨k+1,by omega,by go_num,s,HS.out,HTF.out,HBF9.out⟩
     case measure=>simp [intOf] <;> omega
  .have HDR:=hid (drop_x (n:=1) HT.out)
   have hdr:hasS [s] 1=true/\dropS [s] 1=[]:=by
    have h9:=HS.out.n
    unfold hasS dropS
    simp [h9]
   rw [hdr.1,hdr.2] at HDR
   clear hdr
   have hends:¬(k:Int)<l.length\/((k:Int)<l.length/\¬(k:Int)<30):=by omega
   clear hgo
   rcases hends with x1|⟨x1,x2⟩
   all_goals
    go_wp2_with fail
    refine (HDR.out).mono ?_
    rintro e w6 ⟨rfl,t6⟩
    have HT6:=hid t6.tab
    have HB6:Hid (Below w.heap.size w w6):=hid (HB.out.trans (below_out t6.fr (fun k h=>h) HB.out.size))
    clear t6
    have HALL:=hid (all_x HT6.out)
    unfold SaPost at HALL
    go_wp2_with fail
    refine (HALL.out).mono ?_
    rintro e wi ⟨vi,rfl,hoi,hbi⟩
    obtain ⟨ys,hys,hown,_⟩:=hoi.ex
    obtain ⟨Ai,ci,rfl,_⟩:=RdV.of_own hown
    have HBI:=hid (thenB_ HB6.out hbi)
    clear hoi hys hown hbi HALL
    go_wp2_with fail
    refine (HAW.out _).mono ?_
    rintro e wz ⟨rfl,bz⟩
    have HBz:=hid (thenB_ HBI.out bz)
    clear bz
    go_wp2
    go_ret
    exact ⟨rfl,HBz.out⟩
end Go.Proofs.YthkadehlclcggaaGreatDoor
