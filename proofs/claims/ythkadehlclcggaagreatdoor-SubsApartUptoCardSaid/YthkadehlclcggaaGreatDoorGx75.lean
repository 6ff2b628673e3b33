/- Chapter 19, the document's answer: Set, Sent. Chapter 19, the law's few. Chapter 19, the document's answer: Same, where lists merely read. Chapter 19, the document's answer: Sent. -/
import Derived.Test.YthkadehlclcggaaGreatDoorGx74
import Derived.Test.YthkadehlclcggaaGreatDoorGx66
import Derived.Test.YthkadehlclcggaaGreatDoorGx61
import Derived.Test.YthkadehlclcggaaGreatDoorGx55
namespace Go.Proofs.YthkadehlclcggaaGreatDoor
set_option linter.unusedSimpArgs false
set_option linter.unusedVariables false
open Go.RowKit
open Go.Lib (hid)
theorem setS_set {L:List SubP} {q:SubP} {j:Nat} (hn:(L.map (·.number)).Nodup) (hj:j<L.length) (h:L[j].number=q.number):setS L q=L.set j q:=by
 unfold setS
 apply List.ext_getElem
 .simp
 .intro i h1 h2
  have hi:i<L.length:=by simpa using h1
  rw [List.getElem_map,List.getElem_set]
  by_cases e:j=i
  .subst e
   rw [if_pos h,if_pos rfl]
  .rw [if_neg e,if_neg]
   intro k
   have h9:(L.map (·.number))[i]'(by simpa using hi)=(L.map (·.number))[j]'(by simpa using hj):=by simp [k,h]
   rw [List.nodup_iff_pairwise_ne,List.pairwise_iff_getElem] at hn
   rcases Nat.lt_or_gt_of_ne e with q|q
   .exact hn j i _ _ q h9.symm
   .exact hn i j _ _ q h9
def RtuPost (N:Nat->Prop) (B:Nat) (c:Conf) (last:Int) (L:List SubP) (u:Value) (w:World) (e:Ending) (w':World):Prop:=∃ v',e=.returned (.tuple #[.agg (rtV c last v'),u])/\RfL w' (fun k=>N k\/w.heap.size<=k) B L v'/\Below w.heap.size w w'
structure RtB (w W0:World) (c:Conf) (last:Int) (v:Value) (W:World):Prop where
 t:Blk W w.heap.size 71 (rtV c last v)
 r:Blk W (w.heap.size+1) 71 rt0
 be:Below w.heap.size w W
 b0:Below W0.heap.size W0 W
theorem rt_box {w W0:World} {c:Conf} {last:Int} {v:Value} (h:(w.alloc (.cells (rtV c last v) 71)).alloc (.cells rt0 71)=W0):W0.heap.size=w.heap.size+2/\∀ W,Below W0.heap.size W0 W->RtB w W0 c last v W:=by
 have hs:W0.heap.size=w.heap.size+2:=by rw [<-h];simp
 have hb0:Below w.heap.size w W0:=h▸((Below.refl _ _).alloc (Nat.le_refl _) _).alloc (by simp) _
 have hk1:Blk W0 w.heap.size 71 (rtV c last v):=h▸(Blk.new w _ _).alloc _
 have hk3:Blk W0 (w.heap.size+1) 71 rt0:=h▸Blk.new' _ _ _ (by simp)
 exact ⟨hs,fun W hW=>⟨hk1.fr (Fr.of_below (F:=fun _=>False) hW) (fun h=>h),hk3.fr (Fr.of_below (F:=fun _=>False) hW) (fun h=>h),hb0.trans (hW.mono hb0.size),hW⟩⟩
theorem RtB.keep {w W0 W wz:World} {c:Conf} {last:Int} {v:Value} {N:Nat->Prop} {B:Nat} {L:List SubP} (h:RtB w W0 c last v W) (hs:W0.heap.size=w.heap.size+2) (hB:B<=w.heap.size) (H:RfL w N B L v) (hf:Fr (fun k=>k=w.heap.size+1) W wz):RfL wz (fun k=>N k\/w.heap.size<=k) B L v/\Below w.heap.size w wz:=by
 have hb:Below w.heap.size w wz:=below_upfr h.be (Nat.le_refl _) hf (fun k e=>by omega)
 exact ⟨(H.below hb hB).mono (fun k _ q=>.inl q),hb⟩
theorem RtB.put {w W0 W W1 wz:World} {c:Conf} {last:Int} {v v5:Value} {N:Nat->Prop} {B:Nat} {L:List SubP} (h:RtB w W0 c last v W) (hs:W0.heap.size=w.heap.size+2) (hB:B<=w.heap.size) (H:RfL W (fun k=>N k\/W1.heap.size<=k) B L v5) (h1:w.heap.size<=W1.heap.size) (hn:∀ k,N k->k<w.heap.size) (h2:w.heap.size+2<=W1.heap.size) (hf:Fr (fun k=>k=w.heap.size+1) W wz):RfL wz (fun k=>N k\/w.heap.size<=k) B L v5/\Below w.heap.size w wz:=by
 have hb:Below w.heap.size w wz:=below_upfr h.be (Nat.le_refl _) hf (fun k e=>by omega)
 refine ⟨(H.fr hf (fun k q e=>?_) (fun s v m=>m.fr hf (keepP_blk h.r (by decide) (by decide)) (hf.to_below (Nat.le_trans hB h.be.size) (fun k e=>by omega)))).mono (fun k _ q=>?_),hb⟩
 .rcases q with q|q
  .have:=hn k q;omega
  .omega
 .rcases q with q|q
  .exact .inl q
  .exact .inr (by omega)
def stS (s:SubP) (state:Int) (reason:T):SubP:=⟨s.number,s.who,s.watcher,s.ev,state,reason,s.until_,s.dlg⟩
set_option maxRecDepth 100000 in
set_option maxHeartbeats 8000000 in
theorem rtset_any {w:World} {N:Nat->Prop} {B:Nat} {L:List SubP} {v:Value} {c:Conf} {last n state:Int} {reason:T} (H:RfL w N B L v) (hB:B<=w.heap.size) (hl:L.length<=1000) (hn:(L.map (·.number)).Nodup) (hlt:∀ k,N k->k<w.heap.size) :
 Calls Tryz.prog 53 #[.agg (rtV c last v),.int .i64 n,.int .i64 state,.string (str reason)] w (RtuPost N B c last (putS L n state reason).L (.int .i64 (putS L n state reason).err) w):=by
 obtain ⟨w0,hw0⟩:∃ w0,(w.alloc (.cells (rtV c last v) 71)).alloc (.cells rt0 71)=w0:=⟨_,rfl⟩
 obtain ⟨hs0,hbx⟩:=rt_box hw0
 have HS0:=hid hs0
 have HBX:=hid hbx
 have HR:=hid H
 have HBZ:=hid hB
 have HPL:=hid (rplace_any (c:=c) (last:=last) (n:=n) (H.below (hbx w0 (Below.refl _ _)).be hB) (by omega))
 unfold PlsPost at HPL
 have HL:=hid hl
 have HND:=hid hn
 have HN:=hid hlt
 have HW:=hid (plcS_ways L n)
 obtain ⟨xs,A,cp,hxs,rfl,hcp,hmx,hrd,hN,hsw⟩:=H
 have HXS:=hid hxs
 have HRD:Hid (∀ W,Below w0.heap.size w0 W->Rd W 39 34 xs.length A (rows subC xs)):=hid (fun W hW=>hrd.below (hbx W hW).be)
 have HSW:Hid (∀ W,Below w.heap.size w W->∀ x∈xs,SubW W B x.s x.v):=hid (fun W hW x hx=>(hsw x hx).below hW hB)
 clear hbx hs0 hB hl hn hlt hxs hcp hmx hrd hN hsw
 unfold rt0 at hw0
 go_enter Tryz.func53,Tryz.ntmps53
 go_upto_region 1 with (fail)
 try rw [hw0]
 clear hw0
 go_wp2_with (refine wpl_load rfl 71 (.tmp 4) rfl w.heap.size 0 rfl (HBX.out _ (Below.refl _ _)).t (rtV c last (.slice A xs.length cp)).toList rfl _ Tryz.underlying71 rfl (by kernel_rfl) ?_)
 refine (HPL.out).mono ?_
 rintro e w1 ⟨rfl,hb1⟩
 have HB1:=hid hb1
 clear hb1 HPL
 rcases HW.out with ⟨hp,hfd⟩|⟨j,hj,hp,hfd,hjn⟩
 .have HE:Hid (putS L n state reason=⟨L,6⟩):=hid (by unfold putS;rw [hfd])
  rw [hp]
  clear hp hfd
  go_wp2_with (first|(refine wpl_load rfl 71 (.tmp 4) rfl w.heap.size 0 rfl (HBX.out _ HB1.out).t (rtV c last (.slice A xs.length cp)).toList rfl _ Tryz.underlying71 rfl (by kernel_rfl) ?_)|(refine wpl_store rfl 71 (.tmp 8) (.tmp 26) rfl (w.heap.size+1) 0 rfl (rtV c last (.slice A xs.length cp)) rfl (HBX.out _ HB1.out).r (Nat.le_refl 9) (rtV c last (.slice A xs.length cp)) rfl (by kernel_rfl) (rtV_one rfl) ?_;intro wz hkz hfz))
  refine ret_cell2 rfl rfl rfl rfl hkz _ Tryz.underlying71 rfl (by kernel_rfl) ⟨_,by rw [HE.out];rfl,?_⟩
  rw [HE.out]
  exact (HBX.out _ HB1.out).keep HS0.out HBZ.out HR.out hfz
 .have hjx:j<xs.length:=by have h9:=congrArg List.length HXS.out;rw [List.length_map] at h9;omega
  have HXJ:Hid (xs[j].s=L[j]):=hid (by
   have h9:(xs.map (·.s))[j]'(by simpa using hjx)=L[j]:=by simp only [HXS.out]
   simpa using h9)
  have x0:(0:Int)<=j:=by omega
  have x1:(j:Int)<xs.length:=by omega
  have x2:decide ((j:Int)<0)=false:=decide_eq_false (by omega)
  have x3:¬(j:Int)<0:=by omega
  obtain ⟨gb,off,rfl,_,hc⟩:=sb_row (HRD.out _ HB1.out) hjx
  have HRG:=hid (sb_range hc)
  have y5:w1.cell? ⟨gb,off+j*34+5,none⟩=some (.int .i64 L[j].state):=by rw [<-HXJ.out];exact hc 5 (by omega)
  have c8:w1.cell? ⟨w.heap.size,8,none⟩=some (.slice (some ⟨gb,off,none⟩) xs.length cp):=(HBX.out _ HB1.out).t.cell 8
  have HXJ2:=hid hjx
  have HNJ:=hid (And.intro hjn hfd)
  rw [hp]
  clear hp hfd hc hjn
  by_cases ho:L[j].state=2
  .have HE:Hid (putS L n state reason=⟨L,6⟩):=hid (by unfold putS;rw [HNJ.out.2];exact if_pos ho)
   rw [ho] at y5
   clear ho
   go_wp2_with (first|(refine wpl_load rfl 71 (.tmp 4) rfl w.heap.size 0 rfl (HBX.out _ HB1.out).t (rtV c last (.slice (some ⟨gb,off,none⟩) xs.length cp)).toList rfl _ Tryz.underlying71 rfl (by kernel_rfl) ?_)|(refine wpl_store rfl 71 (.tmp 8) (.tmp 26) rfl (w.heap.size+1) 0 rfl (rtV c last (.slice (some ⟨gb,off,none⟩) xs.length cp)) rfl (HBX.out _ HB1.out).r (Nat.le_refl 9) (rtV c last (.slice (some ⟨gb,off,none⟩) xs.length cp)) rfl (by kernel_rfl) (rtV_one rfl) ?_;intro wz hkz hfz))
   refine ret_cell2 rfl rfl rfl rfl hkz _ Tryz.underlying71 rfl (by kernel_rfl) ⟨_,by rw [HE.out];rfl,?_⟩
   rw [HE.out]
   exact (HBX.out _ HB1.out).keep HS0.out HBZ.out HR.out hfz
  .have zo:(L[j].state == 2)=false:=by simpa using ho
   have HO:=hid ho
   clear ho
   by_cases hst:state≠0/\state≠1/\state≠2
   .have HE:Hid (putS L n state reason=⟨L,1⟩):=hid (by unfold putS;rw [HNJ.out.2];show (if L[j].state=2 then _ else _)=_;rw [if_neg HO.out];exact if_pos hst)
    have z0:(state != 0)=true:=by simpa using hst.1
    have z1:(state != 1)=true:=by simpa using hst.2.1
    have z2:(state != 2)=true:=by simpa using hst.2.2
    clear hst
    go_wp2_with (first|(refine wpl_load rfl 71 (.tmp 4) rfl w.heap.size 0 rfl (HBX.out _ HB1.out).t (rtV c last (.slice (some ⟨gb,off,none⟩) xs.length cp)).toList rfl _ Tryz.underlying71 rfl (by kernel_rfl) ?_)|(refine wpl_store rfl 71 (.tmp 8) (.tmp 37) rfl (w.heap.size+1) 0 rfl (rtV c last (.slice (some ⟨gb,off,none⟩) xs.length cp)) rfl (HBX.out _ HB1.out).r (Nat.le_refl 9) (rtV c last (.slice (some ⟨gb,off,none⟩) xs.length cp)) rfl (by kernel_rfl) (rtV_one rfl) ?_;intro wz hkz hfz))
    refine ret_cell2 rfl rfl rfl rfl hkz _ Tryz.underlying71 rfl (by kernel_rfl) ⟨_,by rw [HE.out];rfl,?_⟩
    rw [HE.out]
    exact (HBX.out _ HB1.out).keep HS0.out HBZ.out HR.out hfz
   .have HE:Hid (putS L n state reason=⟨L.set j (stS L[j] state reason),0⟩):=hid (by
     unfold putS
     rw [HNJ.out.2]
     show (if L[j].state=2 then _ else _)=_
     rw [if_neg HO.out,if_neg hst]
     show (⟨setS L (stS L[j] state reason),0⟩:SetR)=_
     rw [setS_set (q:=stS L[j] state reason) HND.out hj rfl])
    have hst':state=0\/state=1\/state=2:=by omega
    obtain ⟨w2,hw2⟩:∃ w2,w1.alloc (.cells sub0 39)=w2:=⟨_,rfl⟩
    have HX1:=hid (HSW.out w1 (HBX.out _ HB1.out).be xs[j] (List.getElem_mem hjx))
    have HWT:Hid (∀ W,Below w1.heap.size w1 W->Calls Tryz.prog 98 #[.agg (rtV c last (.slice (some ⟨gb,off,none⟩) xs.length cp)),.int .i64 j,.agg (subA (stS L[j] state reason) xs[j].v)] W (RtPost N B c last (L.set j (stS L[j] state reason)) W)):=hid (fun W hW=>by
     have hww:=(HBX.out _ HB1.out).be.trans (hW.mono (HBX.out _ HB1.out).be.size)
     have h9:SubW W B L[j] xs[j].v:=by
      have h8:=HSW.out W hww _ (List.getElem_mem hjx)
      rw [HXJ.out] at h8
      exact h8
     exact rwith_any (HR.out.below hww HBZ.out) (Nat.le_trans HBZ.out hww.size) HL.out hj ⟨h9.ev,⟨h9.d.lp,h9.d.lh,h9.d.la,h9.d.rp,h9.d.rh,h9.d.ra,h9.d.tp,h9.d.th,h9.d.ro⟩⟩)
    clear hst
    have HOX:=hid (subA_one (s:=L[j]) HX1.out.ev.one HX1.out.d.one)
    have HRX:Hid (w1.rangeAt gb (off+j*34) (subA L[j] xs[j].v).toList):=hid (by rw [<-HXJ.out];exact HRG.out)
    generalize hq:L[j]=s at *
    generalize xs[j].v=sv at *
    rcases hst' with e0|e0|e0
    all_goals
     obtain ⟨st,hst⟩:∃ st:Int,st=state:=⟨_,rfl⟩
     subst e0
     have HST:=hid hst
     clear hst
     go_upto_region 7 with (first|(refine wpList_load_mid rfl 39 (.tmp 41) rfl gb (off+j*34) rfl (subA s sv).toList _ HRX.out Tryz.underlying39 rfl (by kernel_rfl) ?_)|(refine wpl_store rfl 39 (.tmp 11) (.tmp 42) rfl w1.heap.size 0 rfl (subA s sv) rfl (sub_blk0 w1) (Nat.le_refl 34) (subA s sv) rfl (by kernel_rfl) HOX.out ?_;intro w3 hk3 hf3))
     have b3:Below w1.heap.size w1 w3:=((Below.refl w1.heap.size w1).alloc (Nat.le_refl _) _).trans (hf3.to_below (by simp) (fun k e=>by omega))
     have HK3:=hid hk3
     have p5:=hk3.cell 5
     have p6:=hk3.cell 6
     have g5:=hk3.frozen 5
     have g6:=hk3.frozen 6
     have HB3:=hid b3
     clear b3 hf3 hk3 y5 c8
     go_upto_region 8 with (fail)
     obtain ⟨w4,hw4⟩:∃ w4,(w3.setCell ⟨w1.heap.size,5,none⟩ (.int .i64 st)).setCell ⟨w1.heap.size,6,none⟩ (.string (str reason))=w4:=⟨_,rfl⟩
     have hk4:Blk w4 w1.heap.size 39 (subA (stS s st reason) sv):=hw4▸blk_setCells [.int .i64 st,.string (str reason)] (off:=5) HK3.out (show 7<=34 by omega)
     have hf4:Fr (fun k=>k=w1.heap.size) w3 w4:=hw4▸((Fr.refl (fun k=>k=w1.heap.size) w3).set (p:=⟨w1.heap.size,5,none⟩) (fun _=>rfl) _).set (p:=⟨w1.heap.size,6,none⟩) (fun _=>rfl) _
     rw [HST.out] at hw4 hk4
     rw [hw4]
     have HB4:Hid (Below w1.heap.size w1 w4):=hid (HB3.out.trans (hf4.to_below HB3.out.size (fun k e=>by omega)))
     have HK4:=hid hk4
     have HX4:=hid (HBX.out _ (HB1.out.trans (HB4.out.mono HB1.out.size)))
     clear hw4 hk4 hf4 p5 p6 g5 g6
     go_wp2_with (first|(refine wpl_load rfl 71 (.tmp 4) rfl w.heap.size 0 rfl HX4.out.t (rtV c last (.slice (some ⟨gb,off,none⟩) xs.length cp)).toList rfl _ Tryz.underlying71 rfl (by kernel_rfl) ?_)|(refine wpl_load rfl 39 (.tmp 11) rfl w1.heap.size 0 rfl HK4.out (subA (stS s _ reason) sv).toList rfl _ Tryz.underlying39 rfl (by kernel_rfl) ?_))
     refine (HWT.out _ HB4.out).mono ?_
     rintro e w5 ⟨v5,rfl,hr5,hb5⟩
     have HR5:=hid hr5
     have HB5:=hid (HB4.out.trans (hb5.mono HB4.out.size))
     have HX5:=hid (HBX.out _ (HB1.out.trans (HB5.out.mono HB1.out.size)))
     have HO5:Hid (v5.oneCell'=true):=hid (by obtain ⟨_,_,_,_,rfl,_⟩:=hr5;rfl)
     clear hr5 hb5
     go_wp2_with (refine wpl_store rfl 71 (.tmp 8) (.tmp 50) rfl (w.heap.size+1) 0 rfl (rtV c last v5) rfl HX5.out.r (Nat.le_refl 9) (rtV c last v5) rfl (by kernel_rfl) (rtV_one HO5.out) ?_;intro wz hkz hfz)
     refine ret_cell2 rfl rfl rfl rfl hkz _ Tryz.underlying71 rfl (by kernel_rfl) ⟨_,by rw [HE.out];rfl,?_⟩
     rw [HE.out]
     exact HX5.out.put HS0.out HBZ.out HR5.out HX4.out.be.size HN.out (by have:=HX4.out.b0.size;have:=HS0.out;omega) hfz
def coN (l:List AddrP):Nat:=(l.map fun a=>1+a.uri.params.length).sum
def fewN (r:ReqP):Nat:=r.routes.length+r.ev.params.length+r.from_.params.length+r.to_.params.length+r.to_.uri.params.length+r.to_.uri.headers.length+coN r.contact
def fewB (r:ReqP):Bool:=decide (fewN r<=100)
theorem coN_take {l:List AddrP} {j:Nat} (h:j<l.length):coN (l.take (j+1))=coN (l.take j)+(1+l[j].uri.params.length):=by
 unfold coN
 rw [List.take_succ_eq_append_getElem h,List.map_append,List.sum_append]
 simp
theorem coN_le {l:List AddrP} {M:Nat} (h:∀ a∈l,a.uri.params.length<=M):coN l<=l.length*(1+M):=by
 unfold coN
 induction l with
 | nil=>simp
 | cons a r ih =>
   have:=ih (fun b hb=>h b (List.mem_cons_of_mem _ hb))
   have h0:=h a List.mem_cons_self
   rw [List.map_cons,List.sum_cons,List.length_cons,Nat.add_mul]
   omega
theorem co_at {W:World} {B:Nat} {A:Option Addr} {xs:List CX} (h:RdB W B 8 xs.length A (rows cxC xs)) {i:Nat} (hi:i<xs.length):∃ gb off,A=some ⟨gb,off,none⟩/\W.cell? ⟨gb,off+i*8+5,none⟩=some xs[i].vp:=by
 obtain ⟨gb,off,e,_,hc⟩:=h.2 (by omega)
 refine ⟨gb,off,e,?_⟩
 have hr:=rows_at (l:=xs) cxC_len hi (j:=5) (by omega)
 rw [Nat.add_assoc]
 exact hc _ _ hr
set_option maxRecDepth 100000 in
set_option maxHeartbeats 8000000 in
theorem few_any {w:World} {B N:Nat} {r:ReqP} {q:RqV} (hB:B<=w.heap.size) (hr:ReqB w B r q) (h1:r.routes.length<=N) (h2:r.ev.params.length<=N) (h3:r.from_.params.length<=N) (h4:r.to_.params.length<=N) (h5:r.to_.uri.params.length<=N) (h6:r.to_.uri.headers.length<=N) (h7:r.contact.length<=N) (h8:∀ a∈r.contact,a.uri.params.length<=N) (hN:N<=1048576) :
 Calls Tryz.prog 22 #[.agg (reqA r q)] w fun e w'=>e=.returned (.bool (fewB r))/\Below w.heap.size w w':=by
 obtain ⟨w0,hw0⟩:∃ w0,w.alloc (.cells (reqA r q) 45)=w0:=⟨_,rfl⟩
 have hb0:Below w.heap.size w w0:=hw0▸(Below.refl _ _).alloc (Nat.le_refl _) _
 have hk:Blk w0 w.heap.size 45 (reqA r q):=hw0▸Blk.new w _ _
 obtain ⟨A1,k1,e1,_⟩:=hr.ro
 obtain ⟨A2,k2,e2,_⟩:=hr.ev
 obtain ⟨A3,k3,e3,_⟩:=hr.from_.a
 obtain ⟨A4,k4,e4,_⟩:=hr.to_.a
 obtain ⟨A5,k5,e5,_⟩:=hr.to_.p
 obtain ⟨A6,k6,e6,_⟩:=hr.to_.h
 obtain ⟨xs,hxs,⟨A7,k7,e7,hk7,hm7,hrd⟩,hxp⟩:=(hr.below (hb0.mono hB)).co
 have HXP:Hid (∀ x∈xs,∃ A c,x.vp=.slice A x.a.uri.params.length c):=hid (fun x hx=>by
  obtain ⟨A,c,e,_⟩:=(hxp x hx).1
  exact ⟨A,c,e⟩)
 have c33:w0.cell? ⟨w.heap.size,33,none⟩=some (.slice A1 r.routes.length k1):=(hk.cell 33).trans (congrArg some e1)
 have c31:w0.cell? ⟨w.heap.size,31,none⟩=some (.slice A2 r.ev.params.length k2):=(hk.cell 31).trans (congrArg some e2)
 have c16:w0.cell? ⟨w.heap.size,16,none⟩=some (.slice A3 r.from_.params.length k3):=(hk.cell 16).trans (congrArg some e3)
 have c24:w0.cell? ⟨w.heap.size,24,none⟩=some (.slice A4 r.to_.params.length k4):=(hk.cell 24).trans (congrArg some e4)
 have c22:w0.cell? ⟨w.heap.size,22,none⟩=some (.slice A5 r.to_.uri.params.length k5):=(hk.cell 22).trans (congrArg some e5)
 have c23:w0.cell? ⟨w.heap.size,23,none⟩=some (.slice A6 r.to_.uri.headers.length k6):=(hk.cell 23).trans (congrArg some e6)
 have c32:w0.cell? ⟨w.heap.size,32,none⟩=some (.slice A7 xs.length k7):=(hk.cell 32).trans (congrArg some e7)
 have HR:=hid hrd
 have HXS:=hid hxs
 have hxl:xs.length=r.contact.length:=by rw [<-hxs,List.length_map]
 have HXL:=hid hxl
 have H8:=hid h8
 have hxN:xs.length<=N:=by omega
 have HB0:=hid hb0
 have HF:Hid (fewN r=r.routes.length+r.ev.params.length+r.from_.params.length+r.to_.params.length+r.to_.uri.params.length+r.to_.uri.headers.length+coN r.contact):=hid rfl
 unfold fewB
 generalize fewN r=M at *
 clear hb0 hk e1 e2 e3 e4 e5 e6 e7 hrd hxs hxp h8 hr hB hxl hk7 hm7 h7
 generalize r.routes.length=n1 at *
 generalize r.ev.params.length=n2 at *
 generalize r.from_.params.length=n3 at *
 generalize r.to_.params.length=n4 at *
 generalize r.to_.uri.params.length=n5 at *
 generalize r.to_.uri.headers.length=n6 at *
 go_enter Tryz.func22,Tryz.ntmps22
 go_upto_region 1 with (fail)
 try rw [hw0]
 clear hw0
 go_wp2
 go_loopw [3,4] (fun n i wr=>∃ j:Nat,j<=xs.length/\i=.int .i64 j/\n=.int .i64 ((n1+n2+n3+n4+n5+n6+coN (r.contact.take j):Nat):Int)/\wr=w0) (fun _ i _=>xs.length-(intOf i).toNat)
 case atStart=>exact ⟨0,by omega,rfl,by simp [coN],rfl⟩
 case round =>
  obtain ⟨j,hj,rfl,rfl,rfl⟩:=hrel
  by_cases hlt:j<xs.length
  .have x0:(0:Int)<=j:=by omega
   have x1:(j:Int)<xs.length:=by omega
   obtain ⟨gb,off,rfl,y5⟩:=co_at HR.out hlt
   obtain ⟨A9,c9,e9⟩:=HXP.out xs[j] (List.getElem_mem hlt)
   have hjc:j<r.contact.length:=by have:=HXL.out;omega
   have ex:xs[j].a=r.contact[j]:=by simp only [<-HXS.out];simp
   rw [e9,ex] at y5
   have HT:=hid (coN_take hjc)
   have b1:coN (r.contact.take j)<=1048576*1048577:=by
    have h9:=coN_le (l:=r.contact.take j) (M:=1048576) (fun a ha=>Nat.le_trans (H8.out a (List.mem_of_mem_take ha)) hN)
    refine Nat.le_trans h9 ?_
    have:(r.contact.take j).length<=1048576:=by rw [List.length_take];have:=HXL.out;omega
    exact Nat.mul_le_mul this (by omega)
   have b2:r.contact[j].uri.params.length<=1048576:=Nat.le_trans (H8.out _ (List.getElem_mem hjc)) hN
   have HNX:Hid (Value.int .i64 ((n1:Int)+n2+n3+n4+n5+n6+(coN (r.contact.take j):Nat)+1+(r.contact[j].uri.params.length:Nat))=.int .i64 ((n1+n2+n3+n4+n5+n6+coN (r.contact.take (j+1)):Nat):Int)):=hid (by rw [HT.out];exact congrArg _ (by omega))
   clear e9 ex HT
   generalize coN (r.contact.take j)=S at *
   generalize r.contact[j].uri.params.length=p at *
   go_wp2
   go_roundw
   case rel=>exact ⟨j+1,by omega,by go_num,HNX.out,by first|rfl|trivial⟩
   case measure=>simp [intOf] <;> omega
  .have x1:¬(j:Int)<xs.length:=by omega
   have hjl:r.contact.take j=r.contact:=List.take_of_length_le (by have:=HXL.out;omega)
   rw [hjl]
   have HX:Hid (decide (((n1+n2+n3+n4+n5+n6+coN r.contact:Nat):Int)<=100)=decide (M<=100)):=hid (by rw [HF.out];exact decide_eq_decide.2 (by omega))
   generalize coN r.contact=S at *
   go_wp2
   go_ret
   exact ⟨ret_bool HX.out,HB0.out⟩
def PrY (w:World) (l:List Par) (v:Value):Prop:=PrB w w.heap.size l v
def TxY (w:World) (l:List T) (v:Value):Prop:=SlB w w.heap.size 1 l.length v (rows noteC l)
theorem PrB.sl9 {w:World} {B sz n:Nat} {v:Value} {xs:List Value} (h:SlB w B sz n v xs):∃ A c,v=.slice A n c:=by
 obtain ⟨A,c,e,_⟩:=h
 exact ⟨A,c,e⟩
section
variable {w W:World} {l:List Par} {v:Value} {t:List T}
theorem PrY.sl (h:PrY w l v):∃ A c,v=.slice A l.length c:=PrB.sl9 h
theorem PrY.prB (h:PrY w l v):PrB w w.heap.size l v:=h
theorem PrY.below (h:PrY w l v) (hb:Below w.heap.size w W):PrY W l v:=SlB.up (SlB.below h hb) hb.size
theorem TxY.below (h:TxY w t v) (hb:Below w.heap.size w W):TxY W t v:=SlB.up (SlB.below h hb) hb.size
end
structure AdY (w:World) (a:AddrP) (vp vh va:Value):Prop where
 p:PrY w a.uri.params vp
 h:PrY w a.uri.headers vh
 a:PrY w a.params va
theorem AdY.below {w W:World} {a:AddrP} {vp vh va:Value} (h:AdY w a vp vh va) (hb:Below w.heap.size w W):AdY W a vp vh va:=⟨h.p.below hb,h.h.below hb,h.a.below hb⟩
structure DlgY (w:World) (d:Dlg) (v:SlV):Prop where
 loc:AdY w d.loc v.lp v.lh v.la
 rem:AdY w d.rem v.rp v.rh v.ra
 tp:PrY w d.tgt.params v.tp
 th:PrY w d.tgt.headers v.th
 ro:TxY w d.routes v.ro
theorem DlgY.below {w W:World} {d:Dlg} {v:SlV} (h:DlgY w d v) (hb:Below w.heap.size w W):DlgY W d v:=⟨h.loc.below hb,h.rem.below hb,h.tp.below hb,h.th.below hb,h.ro.below hb⟩
structure SubY (w:World) (s:SubP) (v:SlV):Prop where
 ev:PrY w s.ev.params v.ev
 lp:PrY w s.dlg.loc.uri.params v.lp
 lh:PrY w s.dlg.loc.uri.headers v.lh
 la:PrY w s.dlg.loc.params v.la
 rp:PrY w s.dlg.rem.uri.params v.rp
 rh:PrY w s.dlg.rem.uri.headers v.rh
 ra:PrY w s.dlg.rem.params v.ra
 tp:PrY w s.dlg.tgt.params v.tp
 th:PrY w s.dlg.tgt.headers v.th
 ro:TxY w s.dlg.routes v.ro
theorem SubW.y {w:World} {B:Nat} {s:SubP} {v:SlV} (h:SubW w B s v) (hB:B<=w.heap.size):SubY w s v:=⟨h.ev.prB hB,h.d.lp.prB hB,h.d.lh.prB hB,h.d.la.prB hB,h.d.rp.prB hB,h.d.rh.prB hB,h.d.ra.prB hB,h.d.tp.prB hB,h.d.th.prB hB,h.d.ro.slB hB⟩
theorem SubM.y {w:World} {s:SubP} {v:SlV} (h:SubM w s v):SubY w s v:=⟨h.ev.prB,h.lp.prB,h.lh.prB,h.la.prB,h.rp.prB,h.rh.prB,h.ra.prB,h.tp.prB,h.th.prB,SlB.of_rdv h.ro⟩
theorem listsY_at {w W:World} {a b:List Par} {A1 A2:Option Addr} {c1 c2:Nat} (ha:PrY w a (.slice A1 a.length c1)) (hb:PrY w b (.slice A2 b.length c2)) (hW:Below w.heap.size w W):Calls Tryz.prog 85 #[.slice A1 a.length c1,.slice A2 b.length c2] W fun e w'=>e=.returned (.bool (decide (a=b)))/\Below W.heap.size W w':=by
 obtain ⟨B1,d1,e1,l1,m1,r1⟩:=ha.prB
 obtain ⟨B2,d2,e2,l2,m2,r2⟩:=hb.prB
 injection e1 with e1 _ e1'
 injection e2 with e2 _ e2'
 subst e1 e1' e2 e2'
 refine (Lists_any (r1.below hW) (r2.below hW) (by omega) (by omega)).mono ?_
 rintro e w' ⟨rfl,n,rfl⟩
 exact ⟨rfl,below_drewN (Below.refl _ _) _⟩
theorem textsY_at {w W:World} {a b:List T} {A1 A2:Option Addr} {c1 c2:Nat} (ha:TxY w a (.slice A1 a.length c1)) (hb:TxY w b (.slice A2 b.length c2)) (hW:Below w.heap.size w W):Calls Tryz.prog 88 #[.slice A1 a.length c1,.slice A2 b.length c2] W fun e w'=>e=.returned (.bool (decide (a=b)))/\Below W.heap.size W w':=by
 obtain ⟨B1,d1,e1,l1,m1,r1⟩:=ha
 obtain ⟨B2,d2,e2,l2,m2,r2⟩:=hb
 injection e1 with e1 _ e1'
 injection e2 with e2 _ e2'
 subst e1 e1' e2 e2'
 refine (texts_any (r1.below hW) (r2.below hW) (by omega) (by omega)).mono ?_
 rintro e w' ⟨rfl,n,rfl⟩
 exact ⟨rfl,below_drewN (Below.refl _ _) _⟩
theorem listsY_v {w W:World} {a b:List Par} {va vb:Value} (ha:PrY w a va) (hb:PrY w b vb) (hW:Below w.heap.size w W):Calls Tryz.prog 85 #[va,vb] W fun e w'=>e=.returned (.bool (decide (a=b)))/\Below W.heap.size W w':=by
 obtain ⟨A1,c1,rfl⟩:=ha.sl
 obtain ⟨A2,c2,rfl⟩:=hb.sl
 exact listsY_at ha hb hW
theorem textsY_v {w W:World} {a b:List T} {va vb:Value} (ha:TxY w a va) (hb:TxY w b vb) (hW:Below w.heap.size w W):Calls Tryz.prog 88 #[va,vb] W fun e w'=>e=.returned (.bool (decide (a=b)))/\Below W.heap.size W w':=by
 obtain ⟨A1,c1,rfl⟩:=PrB.sl9 ha
 obtain ⟨A2,c2,rfl⟩:=PrB.sl9 hb
 exact textsY_at ha hb hW
theorem urisY_v {w W:World} {a b:Uri} {vp vh up uh:Value} (h1:PrY w a.params vp) (h2:PrY w a.headers vh) (h3:PrY w b.params up) (h4:PrY w b.headers uh) (l1:a.params.length<=2000000) (l2:a.headers.length<=2000000) (l3:b.params.length<=2000000) (l4:b.headers.length<=2000000) (hW:Below w.heap.size w W) :
 Calls Tryz.prog 87 #[.agg #[.string (str a.scheme),.string (str a.user),.string (str a.host),.int .i64 a.port,vp,vh],.agg #[.string (str b.scheme),.string (str b.user),.string (str b.host),.int .i64 b.port,up,uh]] W fun e w'=>e=.returned (.bool (decide (a=b)))/\Below W.heap.size W w' :=
 Same_uri (B:=W.heap.size) (Nat.le_refl _) ⟨vp,vh,rfl,(h1.below hW).prB.prm,(h2.below hW).prB.prm⟩ ⟨up,uh,rfl,(h3.below hW).prB.prm,(h4.below hW).prB.prm⟩ (by omega) (by omega) (by omega) (by omega)
set_option maxRecDepth 100000 in
set_option maxHeartbeats 8000000 in
theorem evSameY {w:World} {a b:EvP} {va vb:Value} (ha:PrY w a.params va) (hb:PrY w b.params vb):Calls Tryz.prog 44 #[.agg (#[.string (str a.name),va]),.agg (#[.string (str b.name),vb])] w (BlPost (evsB a b) w):=by
 obtain ⟨A1,c1,rfl⟩:=ha.sl
 obtain ⟨A2,c2,rfl⟩:=hb.sl
 obtain ⟨w0,hw0⟩:∃ w0,(w.alloc (.cells (#[.string (str a.name),.slice A1 a.params.length c1]) 30)).alloc (.cells (#[.string (str b.name),.slice A2 b.params.length c2]) 30)=w0:=⟨_,rfl⟩
 obtain ⟨hb0,hk1,hk2⟩:=two_in hw0
 have HL:Hid (∀ W,Below w0.heap.size w0 W->Calls Tryz.prog 85 #[.slice A1 a.params.length c1,.slice A2 b.params.length c2] W fun e w'=>e=.returned (.bool (decide (a.params=b.params)))/\Below W.heap.size W w'):=hid (fun W hW=>listsY_at ha hb (hb0.trans (hW.mono hb0.size)))
 have HB0:=hid hb0
 have HK:Hid (∀ W,Below w0.heap.size w0 W->Blk W w.heap.size 30 (#[.string (str a.name),.slice A1 a.params.length c1])/\Blk W (w.heap.size+1) 30 (#[.string (str b.name),.slice A2 b.params.length c2])):=hid (fun W hW=>⟨hk1.fr (Fr.of_below (F:=fun _=>False) hW) (fun h=>h),hk2.fr (Fr.of_below (F:=fun _=>False) hW) (fun h=>h)⟩)
 have HC:Hid (∀ W,Below w0.heap.size w0 W->W.cell? ⟨w.heap.size,0,none⟩=some (.string (str a.name))/\W.cell? ⟨w.heap.size+1,0,none⟩=some (.string (str b.name))/\W.cell? ⟨w.heap.size,1,none⟩=some (.slice A1 a.params.length c1)/\W.cell? ⟨w.heap.size+1,1,none⟩=some (.slice A2 b.params.length c2)):=hid (fun W hW=>⟨(HK.out W hW).1.cell 0,(HK.out W hW).2.cell 0,(HK.out W hW).1.cell 1,(HK.out W hW).2.cell 1⟩)
 have HRF:Hid (Below w0.heap.size w0 w0):=hid (Below.refl _ _)
 unfold BlPost evsB
 have k1:=strv_dec a.name b.name
 generalize decide (a.name=b.name)=t1 at *
 generalize decide (a.params=b.params)=t2 at *
 clear ha hb
 clear hb0 hk1 hk2
 have HW0:=hid hw0
 clear hw0
 go_enter Tryz.func44,Tryz.ntmps44
 go_upto_region 1 with (fail)
 rw [HW0.out]
 clear HW0
 obtain ⟨xa0,xb0,xa1,xb1⟩:=HC.out _ HRF.out
 cases t1 with
 | false =>
   go_wp2
   go_ret
   exact ⟨rfl,HB0.out.trans (HRF.out.mono HB0.out.size)⟩
 | true =>
   go_wp2_with fail
   refine (HL.out _ HRF.out).mono ?_
   rintro e w1 ⟨rfl,hb⟩
   have HB1:Hid (Below w0.heap.size w0 w1):=hid (HRF.out.trans (hb.mono HRF.out.size))
   clear hb xa0 xb0 xa1 xb1
   obtain ⟨xa0,xb0,xa1,xb1⟩:=HC.out _ HB1.out
   cases t2 with
   | false =>
     go_wp2
     go_ret
     exact ⟨rfl,HB0.out.trans (HB1.out.mono HB0.out.size)⟩
   | true =>
     go_wp2
     go_ret
     exact ⟨rfl,HB0.out.trans (HB1.out.mono HB0.out.size)⟩
set_option maxRecDepth 100000 in
set_option maxHeartbeats 8000000 in
theorem adrSameY {w:World} {a b:AddrP} {vp vh va up uh ua:Value} (ha:AdY w a vp vh va) (hb:AdY w b up uh ua) (la:AdL a) (lb:AdL b):Calls Tryz.prog 86 #[.agg (addrA a vp vh va),.agg (addrA b up uh ua)] w (BlPost (adsB a b) w):=by
 obtain ⟨w0,hw0⟩:∃ w0,(w.alloc (.cells (addrA a vp vh va) 34)).alloc (.cells (addrA b up uh ua) 34)=w0:=⟨_,rfl⟩
 obtain ⟨hb0,hk1,hk2⟩:=two_in hw0
 have HL:Hid (∀ W,Below w0.heap.size w0 W->Calls Tryz.prog 85 #[va,ua] W fun e w'=>e=.returned (.bool (decide (a.params=b.params)))/\Below W.heap.size W w'):=hid (fun W hW=>listsY_v ha.a hb.a (hb0.trans (hW.mono hb0.size)))
 have HU:Hid (∀ W,Below w0.heap.size w0 W->Calls Tryz.prog 87 #[.agg #[.string (str a.uri.scheme),.string (str a.uri.user),.string (str a.uri.host),.int .i64 a.uri.port,vp,vh],.agg #[.string (str b.uri.scheme),.string (str b.uri.user),.string (str b.uri.host),.int .i64 b.uri.port,up,uh]] W fun e w'=>e=.returned (.bool (decide (a.uri=b.uri)))/\Below W.heap.size W w'):=hid (fun W hW=>urisY_v ha.p ha.h hb.p hb.h la.p la.h lb.p lb.h (hb0.trans (hW.mono hb0.size)))
 have HB0:=hid hb0
 have HK:Hid (∀ W,Below w0.heap.size w0 W->Blk W w.heap.size 34 (addrA a vp vh va)/\Blk W (w.heap.size+1) 34 (addrA b up uh ua)):=hid (fun W hW=>⟨hk1.fr (Fr.of_below (F:=fun _=>False) hW) (fun h=>h),hk2.fr (Fr.of_below (F:=fun _=>False) hW) (fun h=>h)⟩)
 have HC:Hid (∀ W,Below w0.heap.size w0 W->W.cell? ⟨w.heap.size,0,none⟩=some (.string (str a.display))/\W.cell? ⟨w.heap.size+1,0,none⟩=some (.string (str b.display))/\W.cell? ⟨w.heap.size,7,none⟩=some (va)/\W.cell? ⟨w.heap.size+1,7,none⟩=some (ua)):=hid (fun W hW=>⟨(HK.out W hW).1.cell 0,(HK.out W hW).2.cell 0,(HK.out W hW).1.cell 7,(HK.out W hW).2.cell 7⟩)
 have HRF:Hid (Below w0.heap.size w0 w0):=hid (Below.refl _ _)
 unfold BlPost adsB
 have k1:=strv_dec a.display b.display
 generalize decide (a.display=b.display)=t1 at *
 generalize decide (a.uri=b.uri)=t2 at *
 generalize decide (a.params=b.params)=t3 at *
 clear ha hb la lb
 clear hb0 hk1 hk2
 have HW0:=hid hw0
 clear hw0
 go_enter Tryz.func86,Tryz.ntmps86
 go_upto_region 1 with (fail)
 rw [HW0.out]
 clear HW0
 obtain ⟨xa0,xb0,xa7,xb7⟩:=HC.out _ HRF.out
 cases t1 with
 | false =>
   go_wp2
   go_ret
   exact ⟨rfl,HB0.out.trans (HRF.out.mono HB0.out.size)⟩
 | true =>
   have HKW:=hid (HK.out _ HRF.out)
   go_wp2_with (first|(refine wpl_load_w (by rfl) 32 (.tmp 11) rfl (w.heap.size) 1 rfl HKW.out.1 ([.string (str a.uri.scheme),.string (str a.uri.user),.string (str a.uri.host),.int .i64 a.uri.port,vp,vh]) rfl _ Tryz.underlying32 rfl (by kernel_rfl) ?_)|(refine wpl_load_w (by rfl) 32 (.tmp 13) rfl (w.heap.size+1) 1 rfl HKW.out.2 ([.string (str b.uri.scheme),.string (str b.uri.user),.string (str b.uri.host),.int .i64 b.uri.port,up,uh]) rfl _ Tryz.underlying32 rfl (by kernel_rfl) ?_))
   refine (HU.out _ HRF.out).mono ?_
   rintro e w1 ⟨rfl,hb⟩
   have HB1:Hid (Below w0.heap.size w0 w1):=hid (HRF.out.trans (hb.mono HRF.out.size))
   clear hb xa0 xb0 xa7 xb7 HKW
   obtain ⟨xa0,xb0,xa7,xb7⟩:=HC.out _ HB1.out
   cases t2 with
   | false =>
     go_wp2
     go_ret
     exact ⟨rfl,HB0.out.trans (HB1.out.mono HB0.out.size)⟩
   | true =>
     go_wp2_with fail
     refine (HL.out _ HB1.out).mono ?_
     rintro e w2 ⟨rfl,hb⟩
     have HB2:Hid (Below w0.heap.size w0 w2):=hid (HB1.out.trans (hb.mono HB1.out.size))
     clear hb xa0 xb0 xa7 xb7
     obtain ⟨xa0,xb0,xa7,xb7⟩:=HC.out _ HB2.out
     cases t3 with
     | false =>
       go_wp2
       go_ret
       exact ⟨rfl,HB0.out.trans (HB2.out.mono HB0.out.size)⟩
     | true =>
       go_wp2
       go_ret
       exact ⟨rfl,HB0.out.trans (HB2.out.mono HB0.out.size)⟩
set_option maxRecDepth 100000 in
set_option maxHeartbeats 8000000 in
theorem dlgSameY {w:World} {d e:Dlg} {v u:SlV} (hd:DlgY w d v) (he:DlgY w e u) (l1:AdL d.loc) (l2:AdL d.rem) (l3:d.tgt.params.length<=2000000) (l4:d.tgt.headers.length<=2000000) (m1:AdL e.loc) (m2:AdL e.rem) (m3:e.tgt.params.length<=2000000) (m4:e.tgt.headers.length<=2000000):Calls Tryz.prog 45 #[.agg (dlgA d v),.agg (dlgA e u)] w (BlPost (dgsB d e) w):=by
 obtain ⟨w0,hw0⟩:∃ w0,(w.alloc (.cells (dlgA d v) 37)).alloc (.cells (dlgA e u) 37)=w0:=⟨_,rfl⟩
 obtain ⟨hb0,hk1,hk2⟩:=two_in hw0
 have HA1:Hid (∀ W,Below w0.heap.size w0 W->Calls Tryz.prog 86 #[.agg (addrA d.loc v.lp v.lh v.la),.agg (addrA e.loc u.lp u.lh u.la)] W fun ee w'=>ee=.returned (.bool (adsB d.loc e.loc))/\Below W.heap.size W w'):=hid (fun W hW=>adrSameY (hd.loc.below (hb0.trans (hW.mono hb0.size))) (he.loc.below (hb0.trans (hW.mono hb0.size))) l1 m1)
 have HA2:Hid (∀ W,Below w0.heap.size w0 W->Calls Tryz.prog 86 #[.agg (addrA d.rem v.rp v.rh v.ra),.agg (addrA e.rem u.rp u.rh u.ra)] W fun ee w'=>ee=.returned (.bool (adsB d.rem e.rem))/\Below W.heap.size W w'):=hid (fun W hW=>adrSameY (hd.rem.below (hb0.trans (hW.mono hb0.size))) (he.rem.below (hb0.trans (hW.mono hb0.size))) l2 m2)
 have HU:Hid (∀ W,Below w0.heap.size w0 W->Calls Tryz.prog 87 #[.agg #[.string (str d.tgt.scheme),.string (str d.tgt.user),.string (str d.tgt.host),.int .i64 d.tgt.port,v.tp,v.th],.agg #[.string (str e.tgt.scheme),.string (str e.tgt.user),.string (str e.tgt.host),.int .i64 e.tgt.port,u.tp,u.th]] W fun ee w'=>ee=.returned (.bool (decide (d.tgt=e.tgt)))/\Below W.heap.size W w'):=hid (fun W hW=>urisY_v hd.tp hd.th he.tp he.th l3 l4 m3 m4 (hb0.trans (hW.mono hb0.size)))
 have HX:Hid (∀ W,Below w0.heap.size w0 W->Calls Tryz.prog 88 #[v.ro,u.ro] W fun ee w'=>ee=.returned (.bool (decide (d.routes=e.routes)))/\Below W.heap.size W w'):=hid (fun W hW=>textsY_v hd.ro he.ro (hb0.trans (hW.mono hb0.size)))
 have HB0:=hid hb0
 have HK:Hid (∀ W,Below w0.heap.size w0 W->Blk W w.heap.size 37 (dlgA d v)/\Blk W (w.heap.size+1) 37 (dlgA e u)):=hid (fun W hW=>⟨hk1.fr (Fr.of_below (F:=fun _=>False) hW) (fun h=>h),hk2.fr (Fr.of_below (F:=fun _=>False) hW) (fun h=>h)⟩)
 have HC:Hid (∀ W,Below w0.heap.size w0 W->W.cell? ⟨w.heap.size,0,none⟩=some (.string (str d.callid))/\W.cell? ⟨w.heap.size+1,0,none⟩=some (.string (str e.callid))/\W.cell? ⟨w.heap.size,23,none⟩=some (v.ro)/\W.cell? ⟨w.heap.size+1,23,none⟩=some (u.ro)/\W.cell? ⟨w.heap.size,24,none⟩=some (.int .i64 d.lastIn)/\W.cell? ⟨w.heap.size+1,24,none⟩=some (.int .i64 e.lastIn)/\W.cell? ⟨w.heap.size,25,none⟩=some (.int .i64 d.lastOut)/\W.cell? ⟨w.heap.size+1,25,none⟩=some (.int .i64 e.lastOut)):=hid (fun W hW=>⟨(HK.out W hW).1.cell 0,(HK.out W hW).2.cell 0,(HK.out W hW).1.cell 23,(HK.out W hW).2.cell 23,(HK.out W hW).1.cell 24,(HK.out W hW).2.cell 24,(HK.out W hW).1.cell 25,(HK.out W hW).2.cell 25⟩)
 have HRF:Hid (Below w0.heap.size w0 w0):=hid (Below.refl _ _)
 unfold BlPost dgsB
 have k1:=strv_dec d.callid e.callid
 have k2:=int_dec d.lastIn e.lastIn
 have k3:=int_dec d.lastOut e.lastOut
 generalize decide (d.callid=e.callid)=t1 at *
 generalize adsB d.loc e.loc=t2 at *
 generalize adsB d.rem e.rem=t3 at *
 generalize decide (d.tgt=e.tgt)=t4 at *
 generalize decide (d.routes=e.routes)=t5 at *
 generalize decide (d.lastIn=e.lastIn)=t6 at *
 generalize decide (d.lastOut=e.lastOut)=t7 at *
 clear hd he l1 l2 l3 l4 m1 m2 m3 m4
 clear hb0 hk1 hk2
 have HW0:=hid hw0
 clear hw0
 go_enter Tryz.func45,Tryz.ntmps45
 go_upto_region 1 with (fail)
 rw [HW0.out]
 clear HW0
 obtain ⟨xa0,xb0,xa23,xb23,xa24,xb24,xa25,xb25⟩:=HC.out _ HRF.out
 cases t1 with
 | false =>
   go_wp2
   go_ret
   exact ⟨rfl,HB0.out.trans (HRF.out.mono HB0.out.size)⟩
 | true =>
   have HKW:=hid (HK.out _ HRF.out)
   go_wp2_with (first|(refine wpl_load_w (by rfl) 34 (.tmp 11) rfl (w.heap.size) 1 rfl HKW.out.1 ((addrA d.loc v.lp v.lh v.la).toList) rfl _ Tryz.underlying34 rfl (by kernel_rfl) ?_)|(refine wpl_load_w (by rfl) 34 (.tmp 13) rfl (w.heap.size+1) 1 rfl HKW.out.2 ((addrA e.loc u.lp u.lh u.la).toList) rfl _ Tryz.underlying34 rfl (by kernel_rfl) ?_))
   refine (HA1.out _ HRF.out).mono ?_
   rintro e w1 ⟨rfl,hb⟩
   have HB1:Hid (Below w0.heap.size w0 w1):=hid (HRF.out.trans (hb.mono HRF.out.size))
   clear hb xa0 xb0 xa23 xb23 xa24 xb24 xa25 xb25 HKW
   obtain ⟨xa0,xb0,xa23,xb23,xa24,xb24,xa25,xb25⟩:=HC.out _ HB1.out
   cases t2 with
   | false =>
     go_wp2
     go_ret
     exact ⟨rfl,HB0.out.trans (HB1.out.mono HB0.out.size)⟩
   | true =>
     have HKW:=hid (HK.out _ HB1.out)
     go_wp2_with (first|(refine wpl_load_w (by rfl) 34 (.tmp 18) rfl (w.heap.size) 9 rfl HKW.out.1 ((addrA d.rem v.rp v.rh v.ra).toList) rfl _ Tryz.underlying34 rfl (by kernel_rfl) ?_)|(refine wpl_load_w (by rfl) 34 (.tmp 20) rfl (w.heap.size+1) 9 rfl HKW.out.2 ((addrA e.rem u.rp u.rh u.ra).toList) rfl _ Tryz.underlying34 rfl (by kernel_rfl) ?_))
     refine (HA2.out _ HB1.out).mono ?_
     rintro e w2 ⟨rfl,hb⟩
     have HB2:Hid (Below w0.heap.size w0 w2):=hid (HB1.out.trans (hb.mono HB1.out.size))
     clear hb xa0 xb0 xa23 xb23 xa24 xb24 xa25 xb25 HKW
     obtain ⟨xa0,xb0,xa23,xb23,xa24,xb24,xa25,xb25⟩:=HC.out _ HB2.out
     cases t3 with
     | false =>
       go_wp2
       go_ret
       exact ⟨rfl,HB0.out.trans (HB2.out.mono HB0.out.size)⟩
     | true =>
       have HKW:=hid (HK.out _ HB2.out)
       go_wp2_with (first|(refine wpl_load_w (by rfl) 32 (.tmp 25) rfl (w.heap.size) 17 rfl HKW.out.1 ([.string (str d.tgt.scheme),.string (str d.tgt.user),.string (str d.tgt.host),.int .i64 d.tgt.port,v.tp,v.th]) rfl _ Tryz.underlying32 rfl (by kernel_rfl) ?_)|(refine wpl_load_w (by rfl) 32 (.tmp 27) rfl (w.heap.size+1) 17 rfl HKW.out.2 ([.string (str e.tgt.scheme),.string (str e.tgt.user),.string (str e.tgt.host),.int .i64 e.tgt.port,u.tp,u.th]) rfl _ Tryz.underlying32 rfl (by kernel_rfl) ?_))
       refine (HU.out _ HB2.out).mono ?_
       rintro e w3 ⟨rfl,hb⟩
       have HB3:Hid (Below w0.heap.size w0 w3):=hid (HB2.out.trans (hb.mono HB2.out.size))
       clear hb xa0 xb0 xa23 xb23 xa24 xb24 xa25 xb25 HKW
       obtain ⟨xa0,xb0,xa23,xb23,xa24,xb24,xa25,xb25⟩:=HC.out _ HB3.out
       cases t4 with
       | false =>
         go_wp2
         go_ret
         exact ⟨rfl,HB0.out.trans (HB3.out.mono HB0.out.size)⟩
       | true =>
         go_wp2_with fail
         refine (HX.out _ HB3.out).mono ?_
         rintro e w4 ⟨rfl,hb⟩
         have HB4:Hid (Below w0.heap.size w0 w4):=hid (HB3.out.trans (hb.mono HB3.out.size))
         clear hb xa0 xb0 xa23 xb23 xa24 xb24 xa25 xb25
         obtain ⟨xa0,xb0,xa23,xb23,xa24,xb24,xa25,xb25⟩:=HC.out _ HB4.out
         cases t5 with
         | false =>
           go_wp2
           go_ret
           exact ⟨rfl,HB0.out.trans (HB4.out.mono HB0.out.size)⟩
         | true =>
           cases t6 with
           | false =>
             go_wp2
             go_ret
             exact ⟨rfl,HB0.out.trans (HB4.out.mono HB0.out.size)⟩
           | true =>
             cases t7 with
             | false =>
               go_wp2
               go_ret
               exact ⟨rfl,HB0.out.trans (HB4.out.mono HB0.out.size)⟩
             | true =>
               go_wp2
               go_ret
               exact ⟨rfl,HB0.out.trans (HB4.out.mono HB0.out.size)⟩
set_option maxRecDepth 100000 in
set_option maxHeartbeats 8000000 in
theorem sbSameY {w:World} {a b:SubP} {v u:SlV} (ha:SubY w a v) (hb:SubY w b u) (za:SubZ a) (zb:SubZ b):Calls Tryz.prog 16 #[.agg (subA a v),.agg (subA b u)] w (BlPost (sbsB a b) w):=by
 obtain ⟨w0,hw0⟩:∃ w0,(w.alloc (.cells (subA a v) 39)).alloc (.cells (subA b u) 39)=w0:=⟨_,rfl⟩
 obtain ⟨hb0,hk1,hk2⟩:=two_in hw0
 have HE:Hid (∀ W,Below w0.heap.size w0 W->Calls Tryz.prog 44 #[.agg #[.string (str a.ev.name),v.ev],.agg #[.string (str b.ev.name),u.ev]] W fun ee w'=>ee=.returned (.bool (evsB a.ev b.ev))/\Below W.heap.size W w'):=hid (fun W hW=>evSameY (ha.ev.below (hb0.trans (hW.mono hb0.size))) (hb.ev.below (hb0.trans (hW.mono hb0.size))))
 have HD:Hid (∀ W,Below w0.heap.size w0 W->Calls Tryz.prog 45 #[.agg (dlgA a.dlg v),.agg (dlgA b.dlg u)] W fun ee w'=>ee=.returned (.bool (dgsB a.dlg b.dlg))/\Below W.heap.size W w'):=hid (fun W hW=>dlgSameY (DlgY.below (⟨⟨ha.lp,ha.lh,ha.la⟩,⟨ha.rp,ha.rh,ha.ra⟩,ha.tp,ha.th,ha.ro⟩:DlgY w a.dlg v) (hb0.trans (hW.mono hb0.size))) (DlgY.below (⟨⟨hb.lp,hb.lh,hb.la⟩,⟨hb.rp,hb.rh,hb.ra⟩,hb.tp,hb.th,hb.ro⟩:DlgY w b.dlg u) (hb0.trans (hW.mono hb0.size))) ⟨za.lp,za.lh,za.la⟩ ⟨za.rp,za.rh,za.ra⟩ za.tp za.th ⟨zb.lp,zb.lh,zb.la⟩ ⟨zb.rp,zb.rh,zb.ra⟩ zb.tp zb.th)
 have HB0:=hid hb0
 have HK:Hid (∀ W,Below w0.heap.size w0 W->Blk W w.heap.size 39 (subA a v)/\Blk W (w.heap.size+1) 39 (subA b u)):=hid (fun W hW=>⟨hk1.fr (Fr.of_below (F:=fun _=>False) hW) (fun h=>h),hk2.fr (Fr.of_below (F:=fun _=>False) hW) (fun h=>h)⟩)
 have HC:Hid (∀ W,Below w0.heap.size w0 W->W.cell? ⟨w.heap.size,0,none⟩=some (.int .i64 a.number)/\W.cell? ⟨w.heap.size+1,0,none⟩=some (.int .i64 b.number)/\W.cell? ⟨w.heap.size,1,none⟩=some (.string (str a.who))/\W.cell? ⟨w.heap.size+1,1,none⟩=some (.string (str b.who))/\W.cell? ⟨w.heap.size,2,none⟩=some (.string (str a.watcher))/\W.cell? ⟨w.heap.size+1,2,none⟩=some (.string (str b.watcher))/\W.cell? ⟨w.heap.size,5,none⟩=some (.int .i64 a.state)/\W.cell? ⟨w.heap.size+1,5,none⟩=some (.int .i64 b.state)/\W.cell? ⟨w.heap.size,6,none⟩=some (.string (str a.reason))/\W.cell? ⟨w.heap.size+1,6,none⟩=some (.string (str b.reason))/\W.cell? ⟨w.heap.size,7,none⟩=some (.int .i64 a.until_)/\W.cell? ⟨w.heap.size+1,7,none⟩=some (.int .i64 b.until_)):=hid (fun W hW=>⟨(HK.out W hW).1.cell 0,(HK.out W hW).2.cell 0,(HK.out W hW).1.cell 1,(HK.out W hW).2.cell 1,(HK.out W hW).1.cell 2,(HK.out W hW).2.cell 2,(HK.out W hW).1.cell 5,(HK.out W hW).2.cell 5,(HK.out W hW).1.cell 6,(HK.out W hW).2.cell 6,(HK.out W hW).1.cell 7,(HK.out W hW).2.cell 7⟩)
 have HRF:Hid (Below w0.heap.size w0 w0):=hid (Below.refl _ _)
 unfold BlPost sbsB
 have k1:=int_dec a.number b.number
 have k2:=strv_dec a.who b.who
 have k3:=strv_dec a.watcher b.watcher
 have k4:=int_dec a.state b.state
 have k5:=strv_dec a.reason b.reason
 have k6:=int_dec a.until_ b.until_
 generalize decide (a.number=b.number)=t1 at *
 generalize decide (a.who=b.who)=t2 at *
 generalize decide (a.watcher=b.watcher)=t3 at *
 generalize evsB a.ev b.ev=t4 at *
 generalize decide (a.state=b.state)=t5 at *
 generalize decide (a.reason=b.reason)=t6 at *
 generalize decide (a.until_=b.until_)=t7 at *
 generalize dgsB a.dlg b.dlg=t8 at *
 clear ha hb za zb
 clear hb0 hk1 hk2
 have HW0:=hid hw0
 clear hw0
 go_enter Tryz.func16,Tryz.ntmps16
 go_upto_region 1 with (fail)
 rw [HW0.out]
 clear HW0
 obtain ⟨xa0,xb0,xa1,xb1,xa2,xb2,xa5,xb5,xa6,xb6,xa7,xb7⟩:=HC.out _ HRF.out
 cases t1 with
 | false =>
   go_wp2
   go_ret
   exact ⟨rfl,HB0.out.trans (HRF.out.mono HB0.out.size)⟩
 | true =>
   cases t2 with
   | false =>
     go_wp2
     go_ret
     exact ⟨rfl,HB0.out.trans (HRF.out.mono HB0.out.size)⟩
   | true =>
     cases t3 with
     | false =>
       go_wp2
       go_ret
       exact ⟨rfl,HB0.out.trans (HRF.out.mono HB0.out.size)⟩
     | true =>
       have HKW:=hid (HK.out _ HRF.out)
       go_wp2_with (first|(refine wpl_load_w (by rfl) 30 (.tmp 25) rfl (w.heap.size) 3 rfl HKW.out.1 ([.string (str a.ev.name),v.ev]) rfl _ Tryz.underlying30 rfl (by kernel_rfl) ?_)|(refine wpl_load_w (by rfl) 30 (.tmp 27) rfl (w.heap.size+1) 3 rfl HKW.out.2 ([.string (str b.ev.name),u.ev]) rfl _ Tryz.underlying30 rfl (by kernel_rfl) ?_))
       refine (HE.out _ HRF.out).mono ?_
       rintro e w1 ⟨rfl,hb⟩
       have HB1:Hid (Below w0.heap.size w0 w1):=hid (HRF.out.trans (hb.mono HRF.out.size))
       clear hb xa0 xb0 xa1 xb1 xa2 xb2 xa5 xb5 xa6 xb6 xa7 xb7 HKW
       obtain ⟨xa0,xb0,xa1,xb1,xa2,xb2,xa5,xb5,xa6,xb6,xa7,xb7⟩:=HC.out _ HB1.out
       cases t4 with
       | false =>
         go_wp2
         go_ret
         exact ⟨rfl,HB0.out.trans (HB1.out.mono HB0.out.size)⟩
       | true =>
         cases t5 with
         | false =>
           go_wp2
           go_ret
           exact ⟨rfl,HB0.out.trans (HB1.out.mono HB0.out.size)⟩
         | true =>
           cases t6 with
           | false =>
             go_wp2
             go_ret
             exact ⟨rfl,HB0.out.trans (HB1.out.mono HB0.out.size)⟩
           | true =>
             cases t7 with
             | false =>
               go_wp2
               go_ret
               exact ⟨rfl,HB0.out.trans (HB1.out.mono HB0.out.size)⟩
             | true =>
               have HKW:=hid (HK.out _ HB1.out)
               go_wp2_with (first|(refine wpl_load_w (by rfl) 37 (.tmp 53) rfl (w.heap.size) 8 rfl HKW.out.1 ((dlgA a.dlg v).toList) rfl _ Tryz.underlying37 rfl (by kernel_rfl) ?_)|(refine wpl_load_w (by rfl) 37 (.tmp 55) rfl (w.heap.size+1) 8 rfl HKW.out.2 ((dlgA b.dlg u).toList) rfl _ Tryz.underlying37 rfl (by kernel_rfl) ?_))
               refine (HD.out _ HB1.out).mono ?_
               rintro e w2 ⟨rfl,hb⟩
               have HB2:Hid (Below w0.heap.size w0 w2):=hid (HB1.out.trans (hb.mono HB1.out.size))
               clear hb xa0 xb0 xa1 xb1 xa2 xb2 xa5 xb5 xa6 xb6 xa7 xb7 HKW
               obtain ⟨xa0,xb0,xa1,xb1,xa2,xb2,xa5,xb5,xa6,xb6,xa7,xb7⟩:=HC.out _ HB2.out
               cases t8 with
               | false =>
                 go_wp2
                 go_ret
                 exact ⟨rfl,HB0.out.trans (HB2.out.mono HB0.out.size)⟩
               | true =>
                 go_wp2
                 go_ret
                 exact ⟨rfl,HB0.out.trans (HB2.out.mono HB0.out.size)⟩
def sntS (s:SubP) (out:Int):SubP:=⟨s.number,s.who,s.watcher,s.ev,s.state,s.reason,s.until_,⟨s.dlg.callid,s.dlg.loc,s.dlg.rem,s.dlg.tgt,s.dlg.routes,s.dlg.lastIn,out⟩⟩
set_option maxRecDepth 100000 in
set_option maxHeartbeats 8000000 in
theorem rtsent_any {w:World} {N:Nat->Prop} {B:Nat} {L:List SubP} {v:Value} {c:Conf} {last n state:Int} (H:RfL w N B L v) (hB:B<=w.heap.size) (hl:L.length<=1000) (hn:(L.map (·.number)).Nodup) (hlt:∀ k,N k->k<w.heap.size) :
 Calls Tryz.prog 54 #[.agg (rtV c last v),.int .i64 n,.int .i64 state] w (RtuPost N B c last (sentS L n state).L (.int .i64 (sentS L n state).err) w):=by
 obtain ⟨w0,hw0⟩:∃ w0,(w.alloc (.cells (rtV c last v) 71)).alloc (.cells rt0 71)=w0:=⟨_,rfl⟩
 obtain ⟨hs0,hbx⟩:=rt_box hw0
 have HS0:=hid hs0
 have HBX:=hid hbx
 have HR:=hid H
 have HBZ:=hid hB
 have HPL:=hid (rplace_any (c:=c) (last:=last) (n:=n) (H.below (hbx w0 (Below.refl _ _)).be hB) (by omega))
 unfold PlsPost at HPL
 have HL:=hid hl
 have HND:=hid hn
 have HN:=hid hlt
 have HW:=hid (plcS_ways L n)
 obtain ⟨xs,A,cp,hxs,rfl,hcp,hmx,hrd,hN,hsw⟩:=H
 have HXS:=hid hxs
 have HRD:Hid (∀ W,Below w0.heap.size w0 W->Rd W 39 34 xs.length A (rows subC xs)):=hid (fun W hW=>hrd.below (hbx W hW).be)
 have HSW:Hid (∀ W,Below w.heap.size w W->∀ x∈xs,SubW W B x.s x.v):=hid (fun W hW x hx=>(hsw x hx).below hW hB)
 clear hbx hs0 hB hl hn hlt hxs hcp hmx hrd hN hsw
 unfold rt0 at hw0
 go_enter Tryz.func54,Tryz.ntmps54
 go_upto_region 1 with (fail)
 try rw [hw0]
 clear hw0
 go_wp2_with (refine wpl_load rfl 71 (.tmp 3) rfl w.heap.size 0 rfl (HBX.out _ (Below.refl _ _)).t (rtV c last (.slice A xs.length cp)).toList rfl _ Tryz.underlying71 rfl (by kernel_rfl) ?_)
 refine (HPL.out).mono ?_
 rintro e w1 ⟨rfl,hb1⟩
 have HB1:=hid hb1
 clear hb1 HPL
 rcases HW.out with ⟨hp,hfd⟩|⟨j,hj,hp,hfd,hjn⟩
 .have HE:Hid (sentS L n state=⟨L,6⟩):=hid (by unfold sentS;rw [hfd])
  rw [hp]
  clear hp hfd
  go_wp2_with (first|(refine wpl_load rfl 71 (.tmp 3) rfl w.heap.size 0 rfl (HBX.out _ HB1.out).t (rtV c last (.slice A xs.length cp)).toList rfl _ Tryz.underlying71 rfl (by kernel_rfl) ?_)|(refine wpl_store rfl 71 (.tmp 6) (.tmp 15) rfl (w.heap.size+1) 0 rfl (rtV c last (.slice A xs.length cp)) rfl (HBX.out _ HB1.out).r (Nat.le_refl 9) (rtV c last (.slice A xs.length cp)) rfl (by kernel_rfl) (rtV_one rfl) ?_;intro wz hkz hfz))
  refine ret_cell2 rfl rfl rfl rfl hkz _ Tryz.underlying71 rfl (by kernel_rfl) ⟨_,by rw [HE.out];rfl,?_⟩
  rw [HE.out]
  exact (HBX.out _ HB1.out).keep HS0.out HBZ.out HR.out hfz
 .have hjx:j<xs.length:=by have h9:=congrArg List.length HXS.out;rw [List.length_map] at h9;omega
  have HXJ:Hid (xs[j].s=L[j]):=hid (by
   have h9:(xs.map (·.s))[j]'(by simpa using hjx)=L[j]:=by simp only [HXS.out]
   simpa using h9)
  have x0:(0:Int)<=j:=by omega
  have x1:(j:Int)<xs.length:=by omega
  have x2:decide ((j:Int)<0)=false:=decide_eq_false (by omega)
  have x3:¬(j:Int)<0:=by omega
  obtain ⟨gb,off,rfl,_,hc⟩:=sb_row (HRD.out _ HB1.out) hjx
  have HRG:=hid (sb_range hc)
  have c8:w1.cell? ⟨w.heap.size,8,none⟩=some (.slice (some ⟨gb,off,none⟩) xs.length cp):=(HBX.out _ HB1.out).t.cell 8
  have HNJ:=hid (And.intro hjn hfd)
  rw [hp]
  clear hp hfd hc hjn
  have HX1:=hid (HSW.out w1 (HBX.out _ HB1.out).be xs[j] (List.getElem_mem hjx))
  have HWT:Hid (∀ W,Below w1.heap.size w1 W->Calls Tryz.prog 98 #[.agg (rtV c last (.slice (some ⟨gb,off,none⟩) xs.length cp)),.int .i64 j,.agg (subA (sntS L[j] state) xs[j].v)] W (RtPost N B c last (L.set j (sntS L[j] state)) W)):=hid (fun W hW=>by
   have hww:=(HBX.out _ HB1.out).be.trans (hW.mono (HBX.out _ HB1.out).be.size)
   have h9:SubW W B L[j] xs[j].v:=by
    have h8:=HSW.out W hww _ (List.getElem_mem hjx)
    rw [HXJ.out] at h8
    exact h8
   exact rwith_any (HR.out.below hww HBZ.out) (Nat.le_trans HBZ.out hww.size) HL.out hj ⟨h9.ev,⟨h9.d.lp,h9.d.lh,h9.d.la,h9.d.rp,h9.d.rh,h9.d.ra,h9.d.tp,h9.d.th,h9.d.ro⟩⟩)
  have HOX:=hid (subA_one (s:=L[j]) HX1.out.ev.one HX1.out.d.one)
  have HRX:Hid (w1.rangeAt gb (off+j*34) (subA L[j] xs[j].v).toList):=hid (by rw [<-HXJ.out];exact HRG.out)
  have HEN:Hid (state<=L[j].dlg.lastOut\/2147483647<state->sentS L n state=⟨L,180⟩):=hid (fun h=>by unfold sentS;rw [HNJ.out.2];exact if_pos h)
  have HEY:Hid (¬(state<=L[j].dlg.lastOut\/2147483647<state)->sentS L n state=⟨L.set j (sntS L[j] state),0⟩):=hid (fun h=>by
   unfold sentS
   rw [HNJ.out.2]
   show (if _ then _ else _)=_
   rw [if_neg h]
   show (⟨setS L (sntS L[j] state),0⟩:SetR)=_
   rw [setS_set (q:=sntS L[j] state) HND.out hj rfl])
  generalize hq:L[j]=s at *
  generalize xs[j].v=sv at *
  go_upto_region 5 with (first|(refine wpList_load_mid rfl 39 (.tmp 19) rfl gb (off+j*34) rfl (subA s sv).toList _ HRX.out Tryz.underlying39 rfl (by kernel_rfl) ?_)|(refine wpl_store rfl 39 (.tmp 9) (.tmp 20) rfl w1.heap.size 0 rfl (subA s sv) rfl (sub_blk0 w1) (Nat.le_refl 34) (subA s sv) rfl (by kernel_rfl) HOX.out ?_;intro w3 hk3 hf3))
  have b3:Below w1.heap.size w1 w3:=((Below.refl w1.heap.size w1).alloc (Nat.le_refl _) _).trans (hf3.to_below (by simp) (fun k e=>by omega))
  have HK3:=hid hk3
  have p33:w3.cell? ⟨w1.heap.size,33,none⟩=some (.int .i64 s.dlg.lastOut):=hk3.cell 33
  have g33:=hk3.frozen 33
  have HB3:=hid b3
  have HX3:=hid (HBX.out _ (HB1.out.trans (HB3.out.mono HB1.out.size)))
  clear b3 hf3 hk3 c8
  by_cases hbad:state<=s.dlg.lastOut\/2147483647<state
  .have HE:=hid (HEN.out hbad)
   by_cases hb1:state<=s.dlg.lastOut
   .have z1:decide (state<=s.dlg.lastOut)=true:=decide_eq_true hb1
    clear hbad
    go_wp2_with (first|(refine wpl_load rfl 71 (.tmp 3) rfl w.heap.size 0 rfl HX3.out.t (rtV c last (.slice (some ⟨gb,off,none⟩) xs.length cp)).toList rfl _ Tryz.underlying71 rfl (by kernel_rfl) ?_)|(refine wpl_store rfl 71 (.tmp 6) (.tmp 30) rfl (w.heap.size+1) 0 rfl (rtV c last (.slice (some ⟨gb,off,none⟩) xs.length cp)) rfl HX3.out.r (Nat.le_refl 9) (rtV c last (.slice (some ⟨gb,off,none⟩) xs.length cp)) rfl (by kernel_rfl) (rtV_one rfl) ?_;intro wz hkz hfz))
    refine ret_cell2 rfl rfl rfl rfl hkz _ Tryz.underlying71 rfl (by kernel_rfl) ⟨_,by rw [HE.out];rfl,?_⟩
    rw [HE.out]
    exact HX3.out.keep HS0.out HBZ.out HR.out hfz
   .have z1:decide (state<=s.dlg.lastOut)=false:=decide_eq_false hb1
    have hb2:2147483647<state:=by omega
    have z2:decide (state > 2147483647)=true:=decide_eq_true hb2
    clear hbad
    go_wp2_with (first|(refine wpl_load rfl 71 (.tmp 3) rfl w.heap.size 0 rfl HX3.out.t (rtV c last (.slice (some ⟨gb,off,none⟩) xs.length cp)).toList rfl _ Tryz.underlying71 rfl (by kernel_rfl) ?_)|(refine wpl_store rfl 71 (.tmp 6) (.tmp 30) rfl (w.heap.size+1) 0 rfl (rtV c last (.slice (some ⟨gb,off,none⟩) xs.length cp)) rfl HX3.out.r (Nat.le_refl 9) (rtV c last (.slice (some ⟨gb,off,none⟩) xs.length cp)) rfl (by kernel_rfl) (rtV_one rfl) ?_;intro wz hkz hfz))
    refine ret_cell2 rfl rfl rfl rfl hkz _ Tryz.underlying71 rfl (by kernel_rfl) ⟨_,by rw [HE.out];rfl,?_⟩
    rw [HE.out]
    exact HX3.out.keep HS0.out HBZ.out HR.out hfz
  .have HE:=hid (HEY.out hbad)
   have hb1:¬state<=s.dlg.lastOut:=fun h=>hbad (.inl h)
   have hb2:¬2147483647<state:=fun h=>hbad (.inr h)
   have z1:decide (state<=s.dlg.lastOut)=false:=decide_eq_false hb1
   have z2:decide (state > 2147483647)=false:=decide_eq_false hb2
   clear hbad
   go_upto_region 8 with (fail)
   obtain ⟨w4,hw4⟩:∃ w4,w3.setCell ⟨w1.heap.size,33,none⟩ (.int .i64 state)=w4:=⟨_,rfl⟩
   have hk4:Blk w4 w1.heap.size 39 (subA (sntS s state) sv):=hw4▸blk_setCells [.int .i64 state] (off:=33) HK3.out (show 34<=34 by omega)
   have hf4:Fr (fun k=>k=w1.heap.size) w3 w4:=hw4▸((Fr.refl (fun k=>k=w1.heap.size) w3).set (p:=⟨w1.heap.size,33,none⟩) (fun _=>rfl) _)
   rw [hw4]
   have HB4:Hid (Below w1.heap.size w1 w4):=hid (HB3.out.trans (hf4.to_below HB3.out.size (fun k e=>by omega)))
   have HK4:=hid hk4
   have HX4:=hid (HBX.out _ (HB1.out.trans (HB4.out.mono HB1.out.size)))
   clear hw4 hk4 hf4 p33 g33
   go_wp2_with (first|(refine wpl_load rfl 71 (.tmp 3) rfl w.heap.size 0 rfl HX4.out.t (rtV c last (.slice (some ⟨gb,off,none⟩) xs.length cp)).toList rfl _ Tryz.underlying71 rfl (by kernel_rfl) ?_)|(refine wpl_load rfl 39 (.tmp 9) rfl w1.heap.size 0 rfl HK4.out (subA (sntS s state) sv).toList rfl _ Tryz.underlying39 rfl (by kernel_rfl) ?_))
   refine (HWT.out _ HB4.out).mono ?_
   rintro e w5 ⟨v5,rfl,hr5,hb5⟩
   have HR5:=hid hr5
   have HB5:=hid (HB4.out.trans (hb5.mono HB4.out.size))
   have HX5:=hid (HBX.out _ (HB1.out.trans (HB5.out.mono HB1.out.size)))
   have HO5:Hid (v5.oneCell'=true):=hid (by obtain ⟨_,_,_,_,rfl,_⟩:=hr5;rfl)
   clear hr5 hb5
   go_wp2_with (refine wpl_store rfl 71 (.tmp 6) (.tmp 37) rfl (w.heap.size+1) 0 rfl (rtV c last v5) rfl HX5.out.r (Nat.le_refl 9) (rtV c last v5) rfl (by kernel_rfl) (rtV_one HO5.out) ?_;intro wz hkz hfz)
   refine ret_cell2 rfl rfl rfl rfl hkz _ Tryz.underlying71 rfl (by kernel_rfl) ⟨_,by rw [HE.out];rfl,?_⟩
   rw [HE.out]
   exact HX5.out.put HS0.out HBZ.out HR5.out HX4.out.be.size HN.out (by have:=HX4.out.b0.size;have:=HS0.out;omega) hfz
end Go.Proofs.YthkadehlclcggaaGreatDoor
