/- Chapter 19: SubsApart. -/
import Derived.Test.YthkadehlclcggaaGreatDoorGx83
import Derived.Test.YthkadehlclcggaaGreatDoorGx50
namespace Go.Proofs.YthkadehlclcggaaGreatDoor
set_option linter.unusedSimpArgs false
set_option linter.unusedVariables false
open Go.RowKit
open Go.Lib (hid)
structure Kp (n:Int) (L L':List SubP):Prop where
 len:L'.length=L.length
 at_:∀ m (h:m<L.length) (h':m<L'.length),L'[m].number=L[m].number/\(L[m].number≠n->L'[m]=L[m])
theorem Kp.refl (n:Int) (L:List SubP):Kp n L L:=⟨rfl,fun _ _ _=>⟨rfl,fun _=>rfl⟩⟩
theorem Kp.trans {n:Int} {L L' L'':List SubP} (h:Kp n L L') (k:Kp n L' L''):Kp n L L'':=by
 refine ⟨k.len.trans h.len,fun m hm hm''=>?_⟩
 have hm':m<L'.length:=by rw [h.len];exact hm
 obtain ⟨a,b⟩:=h.at_ m hm hm'
 obtain ⟨a',b'⟩:=k.at_ m hm' hm''
 exact ⟨a'.trans a,fun hn=>(b' (by rw [a];exact hn)).trans (b hn)⟩
theorem Kp.set {n:Int} {L:List SubP} {q:SubP} (hq:q.number=n):Kp n L (setS L q):=by
 refine ⟨List.length_map _,fun m h h'=>?_⟩
 have e:(setS L q)[m]=if L[m].number=q.number then q else L[m]:=List.getElem_map (fun s=>if s.number=q.number then q else s)
 rw [e]
 by_cases hn:L[m].number=q.number
 .rw [if_pos hn]
  exact ⟨hn.symm,fun h=>absurd (hn.trans hq) h⟩
 .rw [if_neg hn]
  exact ⟨rfl,fun _=>rfl⟩
theorem find_n9 {L:List SubP} {n:Int} {s:SubP} {f:SubP->Bool} (hf:∀ s,f s=true->s.number=n) (h:L.find? f=some s):s.number=n:=hf s (List.find?_some h)
theorem kp_aga (c:Conf) (L:List SubP) (now n:Int) (r:ReqP):Kp n L (agaS c L now n r).L:=by
 unfold agaS
 split
 .exact Kp.refl _ _
 .split
  .exact Kp.refl _ _
  .next s hs =>
   split
   .exact Kp.refl _ _
   .split
    .exact Kp.refl _ _
    .split
     .exact Kp.refl _ _
     .split
      .exact Kp.refl _ _
      .exact Kp.set ((lasts_num _ _ _).trans (show s.number=n from find_n9 (fun s h=>of_decide_eq_true h) hs))
theorem kp_put (L:List SubP) (n state:Int) (reason:T):Kp n L (putS L n state reason).L:=by
 unfold putS
 split
 .exact Kp.refl _ _
 .next s hs =>
  split
  .exact Kp.refl _ _
  .split
   .exact Kp.refl _ _
   .exact Kp.set (show s.number=n from find_n9 (fun s h=>of_decide_eq_true h) hs)
theorem kp_sent (L:List SubP) (n out:Int):Kp n L (sentS L n out).L:=by
 unfold sentS
 split
 .exact Kp.refl _ _
 .next s hs =>
  split
  .exact Kp.refl _ _
  .exact Kp.set (show s.number=n from find_n9 (fun s h=>of_decide_eq_true h) hs)
theorem rng_sub {W:World} {b o9:Nat} {l:List Value} (h:W.rangeAt b o9 l) (d n:Nat):W.rangeAt b (o9+d) ((l.drop d).take n):=fun j v hj=>by
 have hj2:l[d+j]?=some v:=by
  rw [List.getElem?_take] at hj
  split at hj
  .rw [List.getElem?_drop] at hj
   exact hj
  .cases hj
 rw [Nat.add_assoc]
 exact h (d+j) v hj2
def reqD (r:ReqP) (d:Dlg):ReqP:={ r with callid:=d.callid,ttag:=tagA d.loc,ftag:=tagA d.rem }
theorem reqD_z {r:ReqP} {d:Dlg} (h:ReqZ r):ReqZ (reqD r d):=⟨h.from_,h.to_,h.toZ,h.ev,h.co,h.ro,h.fromP,h.evP⟩
structure ApZ (X:Nat->Prop) (w W:World) (p:Nat) (last:Int) (L:List SubP) (base:Nat) (v8:Value) (ys:List SX) (gq:Nat) (r:ReqP) (q:RqV):Prop where
 tab:TbX X W p (plS 4) last L
 own:W.ownsRow base 39 34 v8 ys.length (rows subC ys)
 ox:∀ k,v8.ownBlock=some k->X k
 sub:∀ y∈ys,SubM W y.s y.v
 bq:Blk W gq 45 (reqA r q)
 qx:X gq
 rm:ReqM W r q
 be:Below w.heap.size w W
 xb:∀ k,k<w.heap.size->X k
theorem ApZ.below {X:Nat->Prop} {w W W':World} {p:Nat} {last:Int} {L:List SubP} {base:Nat} {v8:Value} {ys:List SX} {gq:Nat} {r:ReqP} {q:RqV} (h:ApZ X w W p last L base v8 ys gq r q) (hb:Below W.heap.size W W'):ApZ X w W' p last L base v8 ys gq r q :=
 have f:Fr (fun _=>False) W W':=Fr.of_below hb
 ⟨h.tab.below hb,own_fr h.own f (fun _ _ e=>e),h.ox,fun y hy=>(h.sub y hy).below hb,h.bq.fr f (fun e=>e),h.qx,h.rm.below hb,thenB_ h.be hb,h.xb⟩
theorem ApZ.real {X:Nat->Prop} {w W W':World} {p:Nat} {last last':Int} {L L':List SubP} {base:Nat} {v8:Value} {ys:List SX} {gq:Nat} {r:ReqP} {q:RqV} (h:ApZ X w W p last L base v8 ys gq r q) (t:TbTo X p (plS 4) last' L' W W'):ApZ X w W' p last' L' base v8 ys gq r q :=
 ⟨t.tab,own_fr h.own t.fr (fun k e q=>q (h.ox k e)),h.ox,fun y hy=>t.sub (h.sub y hy),h.bq.out h.qx t.fr,h.qx,t.req h.rm,h.be.trans (below_out t.fr h.xb h.be.size),h.xb⟩
set_option maxRecDepth 100000 in
set_option maxHeartbeats 16000000 in
theorem subsApart_any {l:List ActY} {A A2:Option Addr} {cA cA2:Nat} {zs:List Int} (w:World) (hr:RdB w w.heap.size 43 l.length A (rows actC19 l)) (hx:∀ x∈l,ActR19 w w.heap.size BigN x) (hl:l.length<=BigN) (hr2:RdB w w.heap.size 1 zs.length A2 (zs.map fun n=>.int .i64 n)) (hl2:zs.length<=maxLen) :
 Calls Tryz.prog 6 #[.slice A l.length cA,.slice A2 zs.length cA2] w (Awk19 w):=by
 unfold maxLen at hl2
 have HAW:=hid awake19_any
 unfold Awk19 at HAW
 have HPL:=hid (plain19_any 4)
 have HBG:Hid (∀ W,Calls Tryz.prog 10 #[.agg #[.string ⟨#[]⟩,.int .i64 1,.int .i64 1,.int .i64 4,.int .i64 60,.int .i64 3600,.int .i64 600]] W (Bgn19 (plS 4) W)):=hid (fun W=>begun19_any (c:=plS 4) (plS_right (by omega) (by omega)) W)
 have HRD:=hid hr
 have HXA:=hid hx
 have HR2:=hid hr2
 have HLN:Hid (l.length<=1048576):=hid hl
 unfold Bgn19 at HBG
 clear hr hx hl hr2
 go_enter Tryz.func6,Tryz.ntmps6
 go_wp2_with fail
 refine (HPL.out _).mono ?_
 rintro e w1 ⟨rfl,hb1⟩
 have HB1:=hid hb1
 clear hb1
 go_wp2_with fail
 refine (HBG.out _).mono ?_
 rintro e w2 ⟨p,F,rfl,hst,hb2,hF⟩
 have HB2:=hid (thenB_ HB1.out hb2)
 have HT2:Hid (TbX (fun k=>k<w.heap.size) w2 p (plS 4) 0 []):=hid (TbX.start hst (fun k hk=>Nat.le_trans HB1.out.size (hF k hk)) HB2.out.size)
 clear hst hb2 hF
 go_wp2_with fail
 go_loopw [6] (fun i wr=>∃ k:Nat,k<=l.length/\i=.int .i64 k/\∃ (last:Int) (L:List SubP),last<=k/\TbX (fun k=>k<w.heap.size) wr p (plS 4) last L/\Below w.heap.size w wr) (fun i _=>l.length-(intOf i).toNat)
 case atStart=>exact ⟨0,by omega,rfl,0,[],Int.le_refl _,HT2.out,HB2.out⟩
 case round =>
  obtain ⟨k,hk,rfl,last,L,hla,hT,hB⟩:=hrel
  have HLA:=hid hla
  have HT:=hid hT
  have HB:=hid hB
  clear hla hT hB
  by_cases hgo:k<l.length/\k<15
  .obtain ⟨hlt,h15⟩:=hgo
   obtain ⟨gb,off,rfl,hgb,hrg⟩:=act_range (HRD.out.below HB.out) hlt
   have HX:=hid (HXA.out _ (List.getElem_mem hlt))
   have HRG:=hid hrg
   have HGB:=hid hgb
   have HK15:=hid h15
   have x0:(0:Int)<=k:=by omega
   have x1:(k:Int)<l.length:=by omega
   have x2:(k:Int)<15:=by omega
   clear hrg hgb
   generalize l[k]=x at *
   have HRQ5:Hid (wr.rangeAt gb (off+k*43+5) (reqA x.a.r x.v).toList):=hid (rng_sub HRG.out 5 38)
   have HFW:Hid (Calls Tryz.prog 22 #[.agg (reqA x.a.r x.v)] wr fun e w'=>e=.returned (.bool (fewB x.a.r))/\Below wr.heap.size wr w'):=hid (few_n HB.out.size (HX.out.r.below HB.out) HX.out.n)
   generalize hfb:fewB x.a.r=fb at *
   clear hfb
   cases fb with
   | false =>
     go_upto_region 6 with (first|(refine wpList_load_mid rfl 45 (.tmp 31) rfl gb (off+k*43+5) rfl (reqA x.a.r x.v).toList _ HRQ5.out Tryz.underlying45 rfl (by kernel_rfl) ?_)|(go_at_call 22;refine (HFW.out).mono ?_;rintro e wf ⟨rfl,hbf⟩;have HBF:=hid hbf;clear hbf))
     go_wp2_with fail
     go_roundw
     case rel=>exact ⟨k+1,by omega,by go_num,last,L,by have:=HLA.out;omega,HT.out.below HBF.out,thenB_ HB.out HBF.out⟩
     case measure=>simp [intOf] <;> omega
   | true =>
     go_upto_region 8 with (first|(refine wpList_load_mid rfl 45 (.tmp 31) rfl gb (off+k*43+5) rfl (reqA x.a.r x.v).toList _ HRQ5.out Tryz.underlying45 rfl (by kernel_rfl) ?_)|(go_at_call 22;refine (HFW.out).mono ?_;rintro e wf ⟨rfl,hbf⟩;have HBF:=hid hbf;clear hbf))
     have HS8:Hid (∀ W,Below w.heap.size wr W->W.rangeAt gb (off+k*43) (actN x.a x.v).toList):=hid (fun W hW j v hj=>(hW.cell (p:=⟨gb,off+k*43+j,none⟩) HGB.out).trans (HRG.out j v hj))
     have HWF:Hid (Below wr.heap.size wr wf.drew):=hid HBF.out.drew
     refine wp_region_noPanic (rgn HS8.out (HWF.out.mono HB.out.size) fun hHeld=>?_)
     refine tk 0 ?_
     refine tk 4 ?_
     refine tk 5 ?_
     refine tk 6 ?_
     refine tkm 7 (actN x.a x.v) (gb) (off+k*43) (fun wq hSw=>hSw) Tryz.underlying67 ?_
     refine rd1 1 fun K hK=>?_
     go_simp
     refine (HPL.out _).mono ?_
     rintro e wp ⟨rfl,hbp⟩
     have HWP:Hid (Below wr.heap.size wr wp):=hid (HWF.out.trans (hbp.mono HWF.out.size))
     clear hbp
     go_wp2_with fail
     refine bk hK (HS8.out _ (HWP.out.mono HB.out.size)) fun hHeld=>?_
     clear hK K
     refine tk 2 ?_
     refine rd1 3 fun K hK=>?_
     go_simp
     have hbb:Below wp.heap.size wp (wp.alloc (.cells #[.string ⟨#[]⟩,.int .i64 1,.int .i64 1,.int .i64 4,.int .i64 60,.int .i64 3600,.int .i64 600,.int .i64 0,.slice none 0 0] 71)):=(Below.refl _ _).alloc (Nat.le_refl _) _
     have hkb:Blk (wp.alloc (.cells #[.string ⟨#[]⟩,.int .i64 1,.int .i64 1,.int .i64 4,.int .i64 60,.int .i64 3600,.int .i64 600,.int .i64 0,.slice none 0 0] 71)) wp.heap.size 71 (rtV (plS 4) 0 (.slice none 0 0)):=Blk.new _ _ _
     obtain ⟨wb,hu⟩:∃ u,wp.alloc (.cells #[.string ⟨#[]⟩,.int .i64 1,.int .i64 1,.int .i64 4,.int .i64 60,.int .i64 3600,.int .i64 600,.int .i64 0,.slice none 0 0] 71)=u:=⟨_,rfl⟩
     rw [hu] at hbb hkb ⊢
     clear hu
     have HWB:Hid (Below wr.heap.size wr wb):=hid (HWP.out.trans (hbb.mono HWP.out.size))
     have HKB:=hid hkb
     have HGP:Hid (wr.heap.size<=wp.heap.size):=hid HWP.out.size
     clear hbb hkb
     refine bk hK (HS8.out _ (HWB.out.mono HB.out.size)) fun hHeld=>?_
     clear hK K
     refine rd1 8 fun K hK=>?_
     go_simp
     have HDN:=hid (does_new (x:=x) HT.out (fun k hk=>hk) HB.out HWB.out HGP.out HKB.out HX.out (by have:=HLA.out;have:=HK15.out;omega))
     refine (HDN.out).mono ?_
     rintro e we ⟨⟨b,rfl⟩,hte,hbe,hfe⟩
     have HTE:=hid hte
     have HBE9:=hid hbe
     have HSE9:Hid (we.rangeAt gb (off+k*43) (actN x.a x.v).toList):=hid (fun j v hj=>by
      have h1:=HS8.out _ (HWB.out.mono HB.out.size) j v hj
      refine (hfe.cell (p:=⟨gb,off+k*43+j,none⟩) (Nat.lt_of_lt_of_le HGB.out (Nat.le_trans HB.out.size HWB.out.size)) (fun e=>?_)).trans h1
      rcases e with e|e
      .exact e (.inl HGB.out)
      .have h2:=HGP.out
       have h3:=HB.out.size
       have h4:=HGB.out
       have h5:gb=wp.heap.size:=e
       omega)
     clear hte hbe hfe HDN
     go_wp2_with fail
     refine bk hK (HSE9.out) fun hHeld=>?_
     clear hK K
     refine dn9 (NoPanic.normal ?_)
     clear hHeld
     go_wp2_with fail
     go_roundw
     case rel=>exact ⟨k+1,by omega,by go_num,_,_,by have h1:=doS_last (plS 4) last L x.a;have h2:=HLA.out;omega,HTE.out,HBE9.out⟩
     case measure=>simp [intOf] <;> omega
  .have hends:¬(k:Int)<l.length\/((k:Int)<l.length/\¬(k:Int)<15):=by omega
   clear hgo
   rcases hends with x1|⟨x1,x2⟩
   all_goals
    obtain ⟨wt,rfl⟩:∃ wt,wt=wr:=⟨_,rfl⟩
    obtain ⟨HTT,HBT⟩:=And.intro HT HB
    clear HT HB HLA
    go_wp2_with fail
    go_loopw [7] (fun i wr=>∃ k:Nat,k<=zs.length/\i=.int .i64 k/\∃ (last:Int) (L:List SubP),TbX (fun k=>k<w.heap.size) wr p (plS 4) last L/\Below w.heap.size w wr) (fun i _=>zs.length-(intOf i).toNat)
    case atStart=>exact ⟨0,by omega,rfl,last,L,HTT.out,HBT.out⟩
    case round =>
     obtain ⟨k,hk,rfl,last,L,hT,hB⟩:=hrel
     have HT:=hid hT
     have HB:=hid hB
     clear hT hB
     by_cases hgo:k<zs.length/\k<10
     .obtain ⟨hlt,h10⟩:=hgo
      have ck:∃ gb off,A2=some ⟨gb,off,none⟩/\gb<w.heap.size/\w.cell? ⟨gb,off+k,none⟩=some (.int .i64 zs[k]):=by
       obtain ⟨gb,off,e,hlt',hc⟩:=HR2.out.at_ (by omega)
       exact ⟨gb,off,e,hlt',hc k _ (by simp [hlt])⟩
      obtain ⟨gz,oz,rfl,hgz,ck⟩:=ck
      have HCK:Hid (∀ W,Below w.heap.size w W->W.cell? ⟨gz,oz+k,none⟩=some (.int .i64 zs[k])):=hid (fun W hW=>(hW.cell (p:=⟨gz,oz+k,none⟩) hgz).trans ck)
      have x0:(0:Int)<=k:=by omega
      have x1:(k:Int)<zs.length:=by omega
      have x2:(k:Int)<10:=by omega
      clear ck
      generalize zs[k]=zk at *
      have HALL:=hid (all_x HT.out)
      unfold SaPost at HALL
      obtain ⟨w9,rfl⟩:∃ w9,w9=wr:=⟨_,rfl⟩
      go_wp2_with fail
      refine (HALL.out).mono ?_
      rintro e wa ⟨v8,rfl,ho8,hb8⟩
      obtain ⟨ys,hys,hown,hsub⟩:=ho8.ex
      obtain ⟨A8,c8,e8,_⟩:=RdV.of_own hown
      subst e8 hys
      rw [List.length_map] at hown
      have HOW:=hid hown
      have HSUB:=hid hsub
      have HBA:=hid hb8
      clear ho8 hown hsub hb8 HALL
      rw [List.length_map]
      by_cases hnil:ys.length=0
      .have z0:((ys.length:Int) == 0)=true:=by simp [hnil]
       clear hnil
       go_wp2_with fail
       refine (HAW.out _).mono ?_
       rintro e wz ⟨rfl,bz⟩
       have HBz:=hid (thenB_ (thenB_ HB.out HBA.out) bz)
       clear bz
       go_wp2
       go_ret
       exact ⟨rfl,HBz.out⟩
      .have z0:((ys.length:Int) == 0)=false:=by simpa using hnil
       obtain ⟨j,hj,hmod⟩:∃ j,j<ys.length/\((k:Int).tmod (ys.length:Int))=(j:Int):=⟨k % ys.length,Nat.mod_lt _ (by omega),by rw [Int.tmod_eq_emod_of_nonneg (by omega)];rfl⟩
       have z1:(ys.length:Int)≠0:=by omega
       have y0:(0:Int)<=j:=by omega
       have y1:(j:Int)<ys.length:=by omega
       have HRDY:Hid (∀ W v,W.ownsRow w9.heap.size 39 34 v ys.length (rows subC ys)->RdV W 39 34 ys.length v (rows subC ys)):=hid (fun W v h=>RdV.of_own h)
       obtain ⟨A8',c8',e8,_,_,hrd8⟩:=HRDY.out _ _ HOW.out
       injection e8 with e81 _ e82
       subst e81 e82
       obtain ⟨g8,o8,rfl,hg8,hc8⟩:=sb_row hrd8 hj
       have HRG8:=hid (sb_range hc8)
       have n0:wa.cell? ⟨g8,o8+j*34,none⟩=some (.int .i64 ys[j].s.number):=hc8 0 (by omega)
       have HZ8:=hid (HT.out.z _ (List.mem_map.2 ⟨_,List.getElem_mem hj,rfl⟩):SubZ ys[j].s)
       have HSJ:Hid (SubM wa ys[j].s ys[j].v):=hid (HSUB.out _ (List.getElem_mem hj))
       have HNJ:Hid (∀ m (h:m<ys.length),m≠j->ys[m].s.number≠ys[j].s.number):=hid (by
        obtain ⟨ls,Q⟩:=HT.out.sbq
        have hnd:=subs_idnd Q.ids
        intro m h hne e
        rw [List.map_map] at hnd
        have h1:(ys.map ((·.number)∘(·.s)))[m]'(by simpa using h)=(ys.map ((·.number)∘(·.s)))[j]'(by simpa using hj):=by simpa using e
        exact hne ((List.getElem_inj hnd).1 h1))
       obtain ⟨y,hy⟩:∃ y,ys[j]=y:=⟨_,rfl⟩
       rw [hy] at n0
       simp only [hy] at HRG8 HZ8 HSJ HNJ
       clear hrd8 hc8 hy
       have HBW:=hid (thenB_ HB.out HBA.out)
       go_upto_region 17 with (fail)
       clear n0 hmod z0 z1
       have HRQ:Hid (∀ W,Calls Tryz.prog 13 #[.int .i64 zk,.string ⟨#[]⟩,.int .i64 60] W (RqM (reqT zk [] 60) W)):=hid (fun W=>request_m zk 60 [] W)
       have HZR:=hid (reqT_z zk [] 60)
       unfold RqM at HRQ
       generalize reqT zk [] 60=r at *
       have czk:=HCK.out _ HBW.out
       go_upto_region 18 with (first|(go_at_call 13;refine (HRQ.out _).mono ?_;rintro e w3 ⟨q,rfl,hone,hm,hb⟩;have HB3:=hid hb;have HM3:=hid hm;have HONE:=hid hone;clear hb hm hone)|(refine wpl_store rfl 45 (.tmp 11) (.tmp 72) rfl w3.heap.size 0 rfl (reqA r q) rfl (req_blk0 w3) (Nat.le_refl 38) (reqA r q) rfl (by kernel_rfl) HONE.out ?_;intro w4 hk4 hf4))
       have b4:Below w3.heap.size w3 w4:=((Below.refl w3.heap.size w3).alloc (Nat.le_refl _) _).trans (hf4.to_below (by simp) (fun k e=>by omega))
       have hb94:Below w9.heap.size w9 w4:=HBA.out.trans ((HB3.out.trans (b4.mono HB3.out.size)).mono HBA.out.size)
       have hba4:Below wa.heap.size wa w4:=HB3.out.trans (b4.mono HB3.out.size)
       have f4:Fr (fun _=>False) wa w4:=Fr.of_below hba4
       have hm4:ReqM w4 r q:=(HM3.out.below ((Below.refl _ _).alloc (Nat.le_refl _) (.cells req0 45))).loc (req_blk0 w3) (by decide) (by decide) (by decide) hf4
       have HGA8:Hid (w9.heap.size<=g8/\g8<wa.heap.size):=hid ⟨(HOW.out.lt g8 rfl).1,hg8⟩
       have HZ0:Hid (ApZ (XUp (fun k=>k<w.heap.size) w9 w4) w w4 p last (ys.map (·.s)) w9.heap.size (.slice (some ⟨g8,o8,none⟩) ys.length c8) ys w3.heap.size r q):=hid ⟨HT.out.up hb94,own_fr HOW.out f4 (fun _ _ e=>e),fun k e=>by
        have e9:g8=k:=by simpa [Value.ownBlock] using e
        subst e9
        exact .inr ⟨HGA8.out.1,Nat.lt_of_lt_of_le HGA8.out.2 hba4.size⟩,fun y hy=>(HSUB.out y hy).below hba4,hk4,.inr ⟨Nat.le_trans HBA.out.size HB3.out.size,hk4.lt⟩,hm4,thenB_ HBW.out hba4,fun k hk=>.inl hk⟩
       have HG3:Hid (wa.heap.size<=w3.heap.size):=hid HB3.out.size
       have HRG4:Hid (∀ W,Below w4.heap.size w4 W->W.rangeAt g8 (o8+j*34) (subA y.s y.v).toList):=hid (fun W hW=>fun i u hi=>((f4.trans (G:=fun _=>False) (Fr.of_below hW) (fun _ _ e=>e.elim)).cell (p:=⟨g8,o8+j*34+i,none⟩) hg8 (fun e=>e)).trans (HRG8.out i u hi))
       have HSJ4:Hid (SubM w4 y.s y.v):=hid (HSJ.out.below hba4)
       obtain ⟨gq,hgq⟩:∃ g,w3.heap.size=g:=⟨_,rfl⟩
       rw [hgq] at HZ0 HG3
       simp only [hgq]
       clear b4 hb94 hba4 f4 hm4 hk4 hf4 czk hgq hg8
       generalize XUp (fun k=>k<w.heap.size) w9 w4=X4 at *
       have HTAG1:Hid (∀ W,Below w4.heap.size w4 W->Calls Tryz.prog 24 #[.agg (addrA y.s.dlg.loc y.v.lp y.v.lh y.v.la)] W (TagPost y.s.dlg.loc W)):=hid (fun W hW=>rtag_any (Nat.le_refl _) (HSJ4.out.below hW).la.prB HZ8.out.pl)
       have HTAG2:Hid (∀ W,Below w4.heap.size w4 W->Calls Tryz.prog 24 #[.agg (addrA y.s.dlg.rem y.v.rp y.v.rh y.v.ra)] W (TagPost y.s.dlg.rem W)):=hid (fun W hW=>rtag_any (Nat.le_refl _) (HSJ4.out.below hW).ra.prB HZ8.out.pr)
       unfold TagPost at HTAG1 HTAG2
       have HS18:Hid (∀ W W',Below w4.heap.size w4 W->Fr (fun k=>k=gq) W W'->W'.cell? ⟨g8,o8+j*34+8,none⟩=some (.string (str y.s.dlg.callid))/\W'.rangeAt g8 (o8+j*34+9) (addrA y.s.dlg.loc y.v.lp y.v.lh y.v.la).toList/\W'.rangeAt g8 (o8+j*34+17) (addrA y.s.dlg.rem y.v.rp y.v.rh y.v.ra).toList):=hid (fun W W' hW hf=>by
        have hne:¬g8=gq:=by have:=HGA8.out;have:=HG3.out;omega
        have hlt:g8<W.heap.size:=by have h1:=HGA8.out;have h2:=HG3.out;have h3:=HZ0.out.bq.lt;have h4:=hW.size;omega
        have h9:W'.rangeAt g8 (o8+j*34) (subA y.s y.v).toList:=fun i u hi=>(hf.cell (p:=⟨g8,o8+j*34+i,none⟩) hlt hne).trans (HRG4.out W hW i u hi)
        exact ⟨h9 8 _ rfl,rng_sub h9 9 8,rng_sub h9 17 8⟩)
       have HW4D:Hid (Below w4.heap.size w4 w4.drew):=hid (Below.refl _ _).drew
       refine wp_region_noPanic ?_
       refine wp_region_held_drew (S:=fun W=>W.cell? ⟨g8,o8+j*34+8,none⟩=some (.string (str y.s.dlg.callid))/\W.rangeAt g8 (o8+j*34+9) (addrA y.s.dlg.loc y.v.lp y.v.lh y.v.la).toList/\W.rangeAt g8 (o8+j*34+17) (addrA y.s.dlg.rem y.v.rp y.v.rh y.v.ra).toList) (by kernel_rfl) (HS18.out _ _ HW4D.out (Fr.refl _ _)) (fun hHeld=>?_)
       refine tk 0 ?_
       refine tk 1 ?_
       refine tk 2 ?_
       refine tk 3 ?_
       refine tk 4 ?_
       refine tk 5 ?_
       refine tk 6 ?_
       refine tk 7 ?_
       refine tk 8 ?_
       refine tk 9 ?_
       refine tk 10 ?_
       refine tkm 11 (addrA y.s.dlg.loc y.v.lp y.v.lh y.v.la) (g8) (o8+j*34+9) (fun wq hSw=>hSw.2.1) Tryz.underlying34 ?_
       refine tk 13 ?_
       refine tk 14 ?_
       refine tk 15 ?_
       refine tk 16 ?_
       refine tk 17 ?_
       refine tkm 18 (addrA y.s.dlg.rem y.v.rp y.v.rh y.v.ra) (g8) (o8+j*34+17) (fun wq hSw=>hSw.2.2) Tryz.underlying34 ?_
       refine tk 20 ?_
       refine rd1 12 fun K hK=>?_
       go_simp
       refine (HTAG1.out _ HW4D.out).mono ?_
       rintro e w5 ⟨rfl,hb9⟩
       have HW5:Hid (Below w4.heap.size w4 w5):=hid (HW4D.out.trans (hb9.mono HW4D.out.size))
       clear hb9
       go_wp2_with fail
       refine bk hK (HS18.out _ _ HW5.out (Fr.refl _ _)) fun hHeld=>?_
       clear hK K
       refine rd1 19 fun K hK=>?_
       go_simp
       refine (HTAG2.out _ HW5.out).mono ?_
       rintro e w6 ⟨rfl,hb9⟩
       have HW6:Hid (Below w4.heap.size w4 w6):=hid (HW5.out.trans (hb9.mono HW5.out.size))
       clear hb9
       go_wp2_with fail
       refine bk hK (HS18.out _ _ HW6.out (Fr.refl _ _)) fun hHeld=>?_
       clear hK K
       have HZ6:=hid (HZ0.out.below HW6.out)
       refine rd1 21 fun K hK=>?_
       have hkq:=HZ6.out.bq
       have pq:w6.cell? ⟨gq,27,none⟩=_:=hkq.cell 27
       have jq:=hkq.frozen 27
       go_simp
       have hku:Blk (w6.setCell ⟨gq,27,none⟩ (.string (str y.s.dlg.callid))) gq 45 (reqA { r with callid:=y.s.dlg.callid } q):=blk_setCells [.string (str y.s.dlg.callid)] (off:=27) hkq (show 28<=38 by omega)
       have hfu:Fr (fun k=>k=gq) w6 (w6.setCell ⟨gq,27,none⟩ (.string (str y.s.dlg.callid))):=(Fr.refl (fun k=>k=gq) w6).trans (G:=fun k=>k=gq) ((Fr.refl (fun k=>k=gq) w6).set (p:=⟨gq,27,none⟩) (fun _=>rfl) _) (fun _ _ e=>e)
       obtain ⟨u09,hu⟩:∃ u,w6.setCell ⟨gq,27,none⟩ (.string (str y.s.dlg.callid))=u:=⟨_,rfl⟩
       rw [hu] at hku hfu ⊢
       clear hu pq jq hkq
       have HKU0:=hid hku
       have HFU0:=hid hfu
       clear hku hfu
       refine bk hK (HS18.out _ _ HW6.out HFU0.out) fun hHeld=>?_
       clear hK K
       refine tk 22 ?_
       refine rd1 23 fun K hK=>?_
       have hkq:=HKU0.out
       have pq:u09.cell? ⟨gq,26,none⟩=_:=hkq.cell 26
       have jq:=hkq.frozen 26
       go_simp
       have hku:Blk (u09.setCell ⟨gq,26,none⟩ (.string (str (tagA y.s.dlg.loc)))) gq 45 (reqA { r with callid:=y.s.dlg.callid,ttag:=tagA y.s.dlg.loc } q):=blk_setCells [.string (str (tagA y.s.dlg.loc))] (off:=26) hkq (show 27<=38 by omega)
       have hfu:Fr (fun k=>k=gq) w6 (u09.setCell ⟨gq,26,none⟩ (.string (str (tagA y.s.dlg.loc)))):=HFU0.out.trans (G:=fun k=>k=gq) ((Fr.refl (fun k=>k=gq) u09).set (p:=⟨gq,26,none⟩) (fun _=>rfl) _) (fun _ _ e=>e)
       obtain ⟨u19,hu⟩:∃ u,u09.setCell ⟨gq,26,none⟩ (.string (str (tagA y.s.dlg.loc)))=u:=⟨_,rfl⟩
       rw [hu] at hku hfu ⊢
       clear hu pq jq hkq
       have HKU1:=hid hku
       have HFU1:=hid hfu
       clear hku hfu
       refine bk hK (HS18.out _ _ HW6.out HFU1.out) fun hHeld=>?_
       clear hK K
       refine tk 24 ?_
       refine rd1 25 fun K hK=>?_
       have hkq:=HKU1.out
       have pq:u19.cell? ⟨gq,25,none⟩=_:=hkq.cell 25
       have jq:=hkq.frozen 25
       go_simp
       have hku:Blk (u19.setCell ⟨gq,25,none⟩ (.string (str (tagA y.s.dlg.rem)))) gq 45 (reqA (reqD r y.s.dlg) q):=blk_setCells [.string (str (tagA y.s.dlg.rem))] (off:=25) hkq (show 26<=38 by omega)
       have hfu:Fr (fun k=>k=gq) w6 (u19.setCell ⟨gq,25,none⟩ (.string (str (tagA y.s.dlg.rem)))):=HFU1.out.trans (G:=fun k=>k=gq) ((Fr.refl (fun k=>k=gq) u19).set (p:=⟨gq,25,none⟩) (fun _=>rfl) _) (fun _ _ e=>e)
       obtain ⟨u29,hu⟩:∃ u,u19.setCell ⟨gq,25,none⟩ (.string (str (tagA y.s.dlg.rem)))=u:=⟨_,rfl⟩
       rw [hu] at hku hfu ⊢
       clear hu pq jq hkq
       have HKU2:=hid hku
       have HFU2:=hid hfu
       clear hku hfu
       refine bk hK (HS18.out _ _ HW6.out HFU2.out) fun hHeld=>?_
       clear hK K
       refine dn9 (NoPanic.normal ?_)
       clear hHeld
       have HZ7:Hid (ApZ X4 w u29 p last (ys.map (·.s)) w9.heap.size (.slice (some ⟨g8,o8,none⟩) ys.length c8) ys gq (reqD r y.s.dlg) q):=hid (by
        have h6:=HZ6.out
        have hf:=HFU2.out
        have hkp:=keepP_blk h6.bq (by decide) (by decide)
        have hm:=h6.rm.loc h6.bq (by decide) (by decide) (by decide) hf
        refine ⟨h6.tab.set h6.qx h6.bq (by decide) (by decide) hf,own_fr h6.own hf (fun k e e9=>?_),h6.ox,fun y hy=>(h6.sub y hy).fr hf hkp,HKU2.out,h6.qx,⟨hm.from_,hm.to_,hm.ev,hm.co,hm.ro⟩,h6.be.trans (hf.to_below h6.be.size (fun k e=>?_)),h6.xb⟩
        .have e8:g8=k:=by simpa [Value.ownBlock] using e
         have:=HGA8.out
         have:=HG3.out
         omega
        .have h1:=HBW.out.size
         have h2:=HG3.out
         omega)
       clear HZ6 HKU0 HKU1 HKU2 HFU0 HFU1 HFU2 HS18 HTAG1 HTAG2 HRQ
       have HZD:=hid (reqD_z (d:=y.s.dlg) HZR.out)
       generalize reqD r y.s.dlg=r2 at *
       have HAG:=hid (again_x (now:=0) (num:=y.s.number) HZ7.out.tab (Nat.le_refl _) HZ7.out.rm.reqB HZD.out)
       unfold SubX at HAG
       go_wp2_with (refine wpl_load rfl 45 (.tmp 11) rfl gq 0 rfl HZ7.out.bq (reqA r2 q).toList rfl _ Tryz.underlying45 rfl (by kernel_rfl) ?_)
       refine (HAG.out).mono ?_
       rintro e wA ⟨vA,rfl,_,tA⟩
       have HZA:=hid (HZ7.out.real tA)
       have HKA:=hid (kp_aga (plS 4) (ys.map (·.s)) 0 y.s.number r2)
       clear tA HAG
       generalize (agaS (plS 4) (ys.map (·.s)) 0 y.s.number r2).L=La at *
       go_wp2_with fail
       refine (set_x HZA.out.tab (n:=y.s.number) (state:=(k:Int).tmod 3) (reason:=[120])).mono ?_
       rintro e wB ⟨rfl,tB⟩
       have HZB:=hid (HZA.out.real tB)
       have HKB:=hid (HKA.out.trans (kp_put La y.s.number ((k:Int).tmod 3) [120]))
       clear tB
       generalize (putS La y.s.number ((k:Int).tmod 3) [120]).L=Lb at *
       go_wp2_with fail
       refine (sent_x HZB.out.tab (n:=y.s.number) (out:=(k:Int))).mono ?_
       rintro e wC ⟨rfl,tC⟩
       have HZC:=hid (HZB.out.real tC)
       have HKC:=hid (HKB.out.trans (kp_sent Lb y.s.number (k:Int)))
       clear tC
       generalize (sentS Lb y.s.number (k:Int)).L=Lc at *
       have HALL:=hid (all_x HZC.out.tab)
       unfold SaPost at HALL
       go_wp2_with fail
       refine (HALL.out).mono ?_
       rintro e wD ⟨v12,rfl,ho,hb⟩
       obtain ⟨zs2,hzs2,hown,hsub⟩:=ho.ex
       have hlen:zs2.length=ys.length:=by
        have h1:=HKC.out.len
        rw [<-hzs2,List.length_map,List.length_map] at h1
        exact h1
       obtain ⟨A12,c12,rfl,_,_,hrd12⟩:=RdV.of_own hown
       rw [<-hzs2,List.length_map,hlen] at hrd12 ⊢
       have HZW:=hid (HZC.out.below hb)
       have HR12:Hid (Rd wD 39 34 zs2.length A12 (rows subC zs2)):=hid (by rw [hlen];exact hrd12)
       have HS12:=hid hsub
       have HSAME:Hid (∀ m (h:m<ys.length) (h':m<zs2.length),m≠j->zs2[m].s=ys[m].s):=hid (fun m h h' hne=>by
        have hk:=HKC.out
        rw [<-hzs2] at hk
        have h9:=(hk.at_ m (by simpa using h) (by simpa using h')).2 (by simpa using HNJ.out m h hne)
        simpa using h9)
       have HLEN:=hid hlen
       have HZQ:Hid (∀ m (h:m<ys.length),SubZ ys[m].s):=hid (fun m h=>HT.out.z _ (List.mem_map.2 ⟨_,List.getElem_mem h,rfl⟩))
       obtain ⟨g12,o12,rfl,_,_⟩:=sb_row HR12.out (i:=j) (by rw [HLEN.out];exact hj)
       have hy4:ys.length<=200:=by
        obtain ⟨ls,Q⟩:=HT.out.sbq
        have h1:=Q.len
        have h2:=Q.subs
        rw [List.length_map] at h1
        omega
       have HROWS:Hid (∀ m (h:m<ys.length) W,Below wD.heap.size wD W->W.rangeAt g8 (o8+m*34) (subA ys[m].s ys[m].v).toList/\SubM W ys[m].s ys[m].v):=hid (fun m h W hW=>by
        have h9:=HZW.out.below hW
        obtain ⟨A9,c9,e9,_,_,hrd9⟩:=RdV.of_own h9.own
        injection e9 with e91 _ _
        obtain ⟨gx,ox,ex,_,hc⟩:=sb_row hrd9 h
        rw [<-e91] at ex
        injection ex with ex
        injection ex with ex1 ex2 _
        subst ex1 ex2
        exact ⟨sb_range hc,h9.sub _ (List.getElem_mem h)⟩)
       have HROWZ:Hid (∀ m (h:m<zs2.length) W,Below wD.heap.size wD W->W.rangeAt g12 (o12+m*34) (subA zs2[m].s zs2[m].v).toList/\SubM W zs2[m].s zs2[m].v):=hid (fun m h W hW=>by
        obtain ⟨gx,ox,ex,_,hc⟩:=sb_row (HR12.out.below hW) h
        injection ex with ex
        injection ex with ex1 ex2 _
        subst ex1 ex2
        exact ⟨sb_range hc,(HS12.out _ (List.getElem_mem h)).below hW⟩)
       have z9:((ys.length:Int) != ys.length)=false:=by simp
       clear ho hown hsub hb hzs2 hlen hrd12 HALL
       go_upto_region 25 with (fail)
       clear z9
       go_wp2_with fail
       go_loopw [13] (fun i wr=>∃ m:Nat,m<=ys.length/\i=.int .i64 m/\Below wD.heap.size wD wr) (fun i _=>ys.length-(intOf i).toNat)
       case atStart=>exact ⟨0,by omega,rfl,Below.refl _ _⟩
       case round =>
        obtain ⟨m,hm,rfl,hBm⟩:=hrel
        have HBM:=hid hBm
        clear hBm
        by_cases hmlt:m<ys.length
        .have m0:(0:Int)<=m:=by omega
         have m1:(m:Int)<ys.length:=by omega
         have HWD:Hid (Below wD.heap.size wD wr.drew):=hid HBM.out.drew
         by_cases hmj:m=j
         .have q1:((m:Int) != j)=false:=by rw [hmj];simp
          clear hmj
          go_upto_region 28 with (fail)
          refine wp_region_noPanic ?_
          refine wp_region_held_drew (S:=fun W=>True) (by kernel_rfl) (trivial) (fun hHeld=>?_)
          refine tk 0 ?_
          refine tk 1 ?_
          refine tk 2 ?_
          refine tk 3 ?_
          refine tkv 4 undef (Or.inr ⟨?_,rfl⟩) ?_
          .rfl
          refine tkv 5 undef (Or.inr ⟨?_,rfl⟩) ?_
          .rfl
          refine tkv 6 undef (Or.inr ⟨?_,rfl⟩) ?_
          .rfl
          refine tkv 7 undef (Or.inr ⟨?_,rfl⟩) ?_
          .rfl
          refine tkv 8 undef (Or.inr ⟨?_,rfl⟩) ?_
          .rfl
          refine tkv 9 undef (Or.inr ⟨?_,rfl⟩) ?_
          .rfl
          refine tkv 10 undef (Or.inr ⟨?_,rfl⟩) ?_
          .rfl
          refine tkv 11 undef (Or.inr ⟨?_,rfl⟩) ?_
          .rfl
          refine tkv 12 undef (Or.inr ⟨?_,rfl⟩) ?_
          .rfl
          refine tkv 13 undef (Or.inr ⟨?_,rfl⟩) ?_
          .rfl
          refine tk 14 ?_
          refine dn9 (NoPanic.normal ?_)
          clear hHeld
          go_wp2_with fail
          go_roundw
          case rel=>exact ⟨m+1,by omega,by go_num,HWD.out⟩
          case measure=>simp [intOf] <;> omega
         .have q1:((m:Int) != j)=true:=by simp;omega
          obtain ⟨s9,v9,u9,hz9,hp9⟩:∃ s9 v9 u9,SubZ s9/\∀ W,Below wD.heap.size wD W->W.rangeAt g8 (o8+m*34) (subA s9 v9).toList/\W.rangeAt g12 (o12+m*34) (subA s9 u9).toList/\SubM W s9 v9/\SubM W s9 u9:=by
           have hm2:m<zs2.length:=by rw [HLEN.out];exact hmlt
           refine ⟨ys[m].s,ys[m].v,zs2[m].v,HZQ.out m hmlt,fun W hW=>?_⟩
           have a:=HROWS.out m hmlt W hW
           have b:=HROWZ.out m hm2 W hW
           rw [HSAME.out m hmlt hm2 hmj] at b
           exact ⟨a.1,b.1,a.2,b.2⟩
          have HP9:=hid hp9
          have HSM:Hid (∀ W,Below wD.heap.size wD W->Calls Tryz.prog 16 #[.agg (subA s9 v9),.agg (subA s9 u9)] W fun e w'=>e=.returned (.bool true)/\Below W.heap.size W w'):=hid (fun W hW=>by
           obtain ⟨_,_,a,b⟩:=hp9 W hW
           have h9:=sbSame_any a b hz9 hz9
           rw [sbs_self] at h9
           exact h9)
          clear hmj hz9 hp9
          go_upto_region 28 with (fail)
          refine wp_region_noPanic ?_
          refine wp_region_held_drew (S:=fun W=>W.rangeAt g8 (o8+m*34) (subA s9 v9).toList/\W.rangeAt g12 (o12+m*34) (subA s9 u9).toList) (by kernel_rfl) (⟨(HP9.out _ HWD.out).1,(HP9.out _ HWD.out).2.1⟩) (fun hHeld=>?_)
          refine tk 0 ?_
          refine tk 1 ?_
          refine tk 2 ?_
          refine tk 3 ?_
          refine tk 4 ?_
          refine tk 5 ?_
          refine tk 6 ?_
          refine tkm 7 (subA s9 v9) (g8) (o8+m*34) (fun wq hSw=>hSw.1) Tryz.underlying39 ?_
          refine tk 8 ?_
          refine tk 9 ?_
          refine tk 10 ?_
          refine tkm 11 (subA s9 u9) (g12) (o12+m*34) (fun wq hSw=>hSw.2) Tryz.underlying39 ?_
          refine rd1 12 fun K hK=>?_
          go_simp
          refine (HSM.out _ HWD.out).mono ?_
          rintro e ws ⟨rfl,hbs⟩
          have HWS:Hid (Below wD.heap.size wD ws):=hid (HWD.out.trans (hbs.mono HWD.out.size))
          clear hbs
          go_wp2_with fail
          refine bk hK (⟨(HP9.out _ HWS.out).1,(HP9.out _ HWS.out).2.1⟩) fun hHeld=>?_
          clear hK K
          refine tk 13 ?_
          refine tk 14 ?_
          refine dn9 (NoPanic.normal ?_)
          clear hHeld
          go_wp2_with fail
          go_roundw
          case rel=>exact ⟨m+1,by omega,by go_num,HWS.out⟩
          case measure=>simp [intOf] <;> omega
        .have m1:¬(m:Int)<ys.length:=by omega
         have HZE:=hid (HZW.out.below HBM.out)
         go_wp2_with fail
         go_roundw
         case rel=>exact ⟨k+1,by omega,by go_num,last,Lc,HZE.out.tab.less (fun k hk=>HZE.out.xb k hk),HZE.out.be⟩
         case measure=>simp [intOf] <;> omega
     .have hends:¬(k:Int)<zs.length\/((k:Int)<zs.length/\¬(k:Int)<10):=by omega
      clear hgo
      rcases hends with x1|⟨x1,x2⟩
      all_goals
       go_wp2_with fail
       refine (HAW.out _).mono ?_
       rintro e wz ⟨rfl,bz⟩
       have HBz:=hid (thenB_ HB.out bz)
       clear bz
       go_wp2
       go_ret
       exact ⟨rfl,HBz.out⟩
end Go.Proofs.YthkadehlclcggaaGreatDoor
