/- Chapter 19, the document's answer: Begin. -/
import Derived.Test.YthkadehlclcggaaGreatDoorGx76
import Derived.Test.YthkadehlclcggaaGreatDoorGx75
import Derived.Test.YthkadehlclcggaaGreatDoorGx58
import Derived.Test.YthkadehlclcggaaGreatDoorGx54
import Derived.Great.Walk
namespace Go.Proofs.YthkadehlclcggaaGreatDoor
set_option linter.unusedSimpArgs false
set_option linter.unusedVariables false
open Go.RowKit
open Go.Lib (hid)
section
variable {P:Program}
theorem results_cell_cell_tmp {fn:Func} {p p2 u:Tmp} {ty ty2:TypeId} (h:fn.results=#[.cell p ty,.cell p2 ty2,.tmp u]) (tmps:Array Value) (w:World) :
 (results fn tmps).run P w=((asAddr (tmps.getD p undef)).run P w).andThen fun a w₁=>((loadVar ty a).run P w₁).andThen fun v w₂=>((asAddr (tmps.getD p2 undef)).run P w₂).andThen fun a2 w₃=>((loadVar ty2 a2).run P w₃).andThen fun v2 w₄=>.ok (.tuple #[v,v2,tmps.getD u undef]) w₄:=by
 simp only [results,h]
 simp [Sem.run_bind,Result.andThen]
theorem ret_cell3 {fn:Func} {R:Ending->World->Prop} {a:Act} {w:World} {p p2 u:Tmp} {ty ty2:TypeId} {g g2:Nat} {t t2:TypeId} {cs cs2:Array Value} {z:Value} (hr:fn.results=#[.cell p ty,.cell p2 ty2,.tmp u]) (hp:a.tmps.getD p undef=.pointer (some ⟨g,0,none⟩)) (hp2:a.tmps.getD p2 undef=.pointer (some ⟨g2,0,none⟩)) (hz:a.tmps.getD u undef=z) (hd:a.defers=[]) (hk:Blk w g t cs) (hk2:Blk w g2 t2 cs2)
 (d d2:TypeDesc) (hu:P.underlying ty=some d) (hu2:P.underlying ty2=some d2) (hrw:d.isRow=true) (hrw2:d2.isRow=true) (hi:(P.info? ty).map (·.size)=some cs.size) (hi2:(P.info? ty2).map (·.size)=some cs2.size) (hR:R (.returned (.tuple #[.agg cs,.agg cs2,z])) w):bodyPost P fn R .ret a w:=by
 refine bodyPost_ret (v:=.tuple #[.agg cs,.agg cs2,z]) ?_ hd hR
 have hl:=load_blk (P:=P) hk d hu hrw hi
 have hl2:=load_blk (P:=P) hk2 d2 hu2 hrw2 hi2
 rw [results_cell_cell_tmp hr,hp,hp2,hz]
 simp [asAddr,Result.andThen,hl,hl2]
theorem wp_buildSliceTo {o:Oper} {a:Act} {w:World} {K:Act->World->Prop} {Q:Exit->Act->World->Prop} (t e:TypeId) (len:Nat) (parts:Array (Nat × Operand)) (ho:o.op=.buildSlice t len parts) (hu:P.underlying t=some (.slice e)) (cells:Array Value)
 (hf:P.builtSlice e len (parts.map fun (i,x)=>(i,a.eval x)).toList=some cells)
 (h:K (a.put o.dst (.slice (some ⟨w.heap.size,0,none⟩) len len)) (w.alloc (.cells cells e))):o.wp P a w K Q:=by
 unfold Program.builtSlice at hf
 cases hie:P.info? e with
 | none=>simp [hie] at hf
 | some ie =>
   simp only [hie] at hf
   cases hz:ie.zero with
   | none=>simp [hz] at hf
   | some z =>
     simp only [hz] at hf
     by_cases hc:len*ie.size > 2 ^ 24\/len*ie.size=0
     .simp [hc] at hf
     .rw [if_neg hc] at hf
      exact Go.wp_buildSlice t e len parts ho cells ie z hu hie hz (fun h'=>hc (Or.inl h')) (fun h'=>hc (Or.inr h')) hf h
end
theorem PrX.sl {w:World} {B:Nat} {l:List Par} {v:Value} (h:PrX w B l v):∃ A c,v=.slice A l.length c:=by
 rcases h with ⟨A,c,e,_⟩|⟨A,c,e,_⟩ <;> exact ⟨A,c,e⟩
theorem TxX.sl {w:World} {B:Nat} {l:List T} {v:Value} (h:TxX w B l v):∃ A c,v=.slice A l.length c:=by
 rcases h with ⟨A,c,e,_⟩|⟨A,c,e,_⟩ <;> exact ⟨A,c,e⟩
theorem subw_none (w:World) (B:Nat):SubW w B noSub nilV:=⟨.inr (PrM.nil w),dlgw_none w B⟩
theorem SubW.lasts {w:World} {B:Nat} {s:SubP} {v:SlV} (h:SubW w B s v) (now n:Int):SubW w B (lastsS s now n) v:=by
 unfold lastsS
 split
 .exact ⟨h.ev,h.d⟩
 .exact ⟨h.ev,h.d⟩
structure RbX (w W0:World) (c:Conf) (last:Int) (v:Value) (r:ReqP) (q:RqV) (W:World):Prop where
 t:Blk W w.heap.size 71 (rtV c last v)
 q:Blk W (w.heap.size+1) 45 (reqA r q)
 z:Blk W (w.heap.size+1+1) 71 rt0
 s:Blk W (w.heap.size+1+1+1) 39 sub0
 be:Below w.heap.size w W
 b0:Below W0.heap.size W0 W
theorem rb_box {w W0:World} {c:Conf} {last:Int} {v:Value} {r:ReqP} {q:RqV} (h:(((w.alloc (.cells (rtV c last v) 71)).alloc (.cells (reqA r q) 45)).alloc (.cells rt0 71)).alloc (.cells sub0 39)=W0):W0.heap.size=w.heap.size+4/\∀ W,Below W0.heap.size W0 W->RbX w W0 c last v r q W:=by
 have hs:W0.heap.size=w.heap.size+4:=by rw [<-h];simp
 have hb0:Below w.heap.size w W0:=h▸((((Below.refl _ _).alloc (Nat.le_refl _) _).alloc (by simp) _).alloc (by simp;omega) _).alloc (by simp;omega) _
 have k1:Blk W0 w.heap.size 71 (rtV c last v):=h▸(((Blk.new w _ _).alloc _).alloc _).alloc _
 have k2:Blk W0 (w.heap.size+1) 45 (reqA r q):=h▸((Blk.new' _ _ _ (by simp)).alloc _).alloc _
 have k3:Blk W0 (w.heap.size+1+1) 71 rt0:=h▸(Blk.new' _ _ _ (by simp)).alloc _
 have k4:Blk W0 (w.heap.size+1+1+1) 39 sub0:=h▸Blk.new' _ _ _ (by simp)
 exact ⟨hs,fun W hW=>⟨k1.fr (Fr.of_below (F:=fun _=>False) hW) (fun h=>h),k2.fr (Fr.of_below (F:=fun _=>False) hW) (fun h=>h),k3.fr (Fr.of_below (F:=fun _=>False) hW) (fun h=>h),k4.fr (Fr.of_below (F:=fun _=>False) hW) (fun h=>h),hb0.trans (hW.mono hb0.size),hW⟩⟩
def RbgPost (N:Nat->Prop) (B:Nat) (c:Conf) (last':Int) (R:SbR) (w:World) (e:Ending) (w':World):Prop:=∃ v' sv,e=.returned (.tuple #[.agg (rtV c last' v'),.agg (subA R.sub sv),.int .i64 R.err])/\RfL w' (fun k=>N k\/w.heap.size<=k) B R.L v'/\SubW w' B R.sub sv/\Below w.heap.size w w'
theorem RbX.two {w W0 W:World} {c:Conf} {last:Int} {v:Value} {r:ReqP} {q:RqV} (h:RbX w W0 c last v r q W):KeepP (fun k=>k=w.heap.size+1+1\/k=w.heap.size+1+1+1) W:=fun b ds T fr hb hT e=>e.elim (keepP_blk h.z (by decide) (by decide) b ds T fr hb hT) (keepP_blk h.s (by decide) (by decide) b ds T fr hb hT)
theorem RbX.fin {w W0 W wz:World} {c:Conf} {last:Int} {v:Value} {r:ReqP} {q:RqV} (h:RbX w W0 c last v r q W) (hf:Fr (fun k=>k=w.heap.size+1+1\/k=w.heap.size+1+1+1) W wz):Below w.heap.size w wz:=below_upfr h.be (Nat.le_refl _) hf (fun k e=>by omega)
theorem RbX.err {w W0 W wz:World} {c:Conf} {last last':Int} {v:Value} {r:ReqP} {q:RqV} {N:Nat->Prop} {B:Nat} {L:List SubP} {e:Int} {R:SbR} (h:RbX w W0 c last v r q W) (H:RfL w N B L v) (hB:B<=w.heap.size) (hf:Fr (fun k=>k=w.heap.size+1+1\/k=w.heap.size+1+1+1) W wz) (hR:R=⟨last',L,noSub,e⟩) :
 RbgPost N B c last R w (.returned (.tuple #[.agg (rtV c last v),.agg sub0,.int .i64 e])) wz:=by
 subst hR
 have hb:=h.fin hf
 exact ⟨_,nilV,rfl,(H.below hb hB).mono (fun k _ q=>.inl q),subw_none _ _,hb⟩
theorem RbX.ok {w W0 W wz:World} {c:Conf} {last:Int} {v v9:Value} {r:ReqP} {q:RqV} {N N':Nat->Prop} {B:Nat} {L:List SubP} {s:SubP} {sv:SlV} (h:RbX w W0 c last v r q W) (H:RfL W N' B L v9) (hN:∀ k,N' k->(N k\/w.heap.size<=k)/\k≠w.heap.size+1+1/\k≠w.heap.size+1+1+1) (hs:SubW W B s sv) (hB:B<=w.heap.size) (hf:Fr (fun k=>k=w.heap.size+1+1\/k=w.heap.size+1+1+1) W wz) :
 RfL wz (fun k=>N k\/w.heap.size<=k) B L v9/\SubW wz B s sv/\Below w.heap.size w wz:=by
 have hb:=h.fin hf
 have hbB:Below B W wz:=hf.to_below (Nat.le_trans hB h.be.size) (fun k e=>by omega)
 exact ⟨(H.fr hf (fun k q e=>e.elim (hN k q).2.1 (hN k q).2.2) (fun s v m=>m.fr hf h.two hbB)).mono (fun k _ q=>(hN k q).1),hs.fr hf h.two hbB,hb⟩
theorem put_none9 (a:Act) (v:Value):a.put none v=a:=rfl
def badT (now state:Int):Bool:=!tickB now || (decide (state≠0)&&decide (state≠1))
theorem badT_t {now state:Int} (h:badT now state=true) (c:Conf) (last:Int) (L:List SubP) (r:ReqP) (who watcher tag:T):begS c last L now r who watcher state tag=⟨last,L,noSub,1⟩:=by
 unfold badT at h
 unfold begS
 rw [if_pos]
 rcases Bool.or_eq_true _ _▸h with q|q
 .exact .inl (by simpa using q)
 .simp only [Bool.and_eq_true,decide_eq_true_eq] at q
  exact .inr q
theorem badT_f {now state:Int} (h:badT now state=false):tickB now=true/\(state=0\/state=1):=by
 unfold badT at h
 rw [Bool.or_eq_false_iff] at h
 refine ⟨by simpa using h.1,?_⟩
 have:=h.2
 simp only [Bool.and_eq_false_iff,decide_eq_false_iff_not] at this
 rcases this with q|q
 .exact .inl (by simpa using q)
 .exact .inr (by simpa using q)
set_option maxRecDepth 100000 in
set_option maxHeartbeats 16000000 in
theorem rtbegin_any {w:World} {N:Nat->Prop} {B:Nat} {L:List SubP} {v:Value} {c:Conf} {last now state:Int} {r:ReqP} {q:RqV} {who watcher tag:T} (H:RfL w N B L v) (hB:B<=w.heap.size) (hl:L.length<=1000) (hl0:0<=last) (hl1:last<=2000000) (hrc:rightB c=true) (h:ReqB w B r q) (hz:ReqZ r) (ht:tag.length<=9223372036854775807) :
 Calls Tryz.prog 51 #[.agg (rtV c last v),.int .i64 now,.agg (reqA r q),.string (str who),.string (str watcher),.int .i64 state,.string (str tag)] w (RbgPost N B c (begS c last L now r who watcher state tag).last (begS c last L now r who watcher state tag) w):=by
 obtain ⟨w0,hw0⟩:∃ w0,(((w.alloc (.cells (rtV c last v) 71)).alloc (.cells (reqA r q) 45)).alloc (.cells rt0 71)).alloc (.cells sub0 39)=w0:=⟨_,rfl⟩
 obtain ⟨hs0,hbx⟩:=rb_box hw0
 have HS0:=hid hs0
 have HBX:=hid hbx
 have HR:=hid H
 have HBZ:=hid hB
 have HL:=hid hl
 have HZ:=hid hz
 have HRQ:Hid (∀ W,Below w.heap.size w W->ReqB W B r q/\B<=W.heap.size):=hid (fun W hW=>⟨h.below (hW.mono hB),Nat.le_trans hB hW.size⟩)
 have HLA:Hid (0<=last/\last<=2000000):=hid ⟨hl0,hl1⟩
 have HSL:=hid (sec_lo hrc r.exp)
 have HBG:Hid (∀ W,Below w.heap.size w W->Calls Tryz.prog 94 #[.agg (reqA r q),.string (str tag)] W (RBgPost B r tag W)):=hid (fun W hW=>rBegin_any (HRQ.out W hW).2 (HRQ.out W hW).1 hz ht)
 have HSEC:Hid (∀ W,Calls Tryz.prog 18 #[.agg #[.string (str c.host),.int .i64 c.calls,.int .i64 c.pubs,.int .i64 c.subs,.int .i64 c.least,.int .i64 c.most,.int .i64 c.usual],.int .i64 r.exp] W fun e w'=>e=.returned (.tuple #[.int .i64 (secN c r.exp),.bool (secK c r.exp)])/\Below W.heap.size W w'):=hid (fun W=>rseconds_any c r.exp W)
 have HW:=hid (begS_ways c last L now r who watcher state tag)
 have HBD:=hid (fun h=>badT_t (now:=now) (state:=state) h c last L r who watcher tag)
 obtain ⟨xs,A,cp,hxs,rfl,hcp,hmx,hrd,hN,hsw⟩:=H
 have HXS:=hid hxs
 have HXL:Hid (xs.length=L.length):=hid (by rw [<-hxs,List.length_map])
 have HRD:Hid (∀ W,Below w0.heap.size w0 W->Rd W 39 34 xs.length A (rows subC xs)):=hid (fun W hW=>hrd.below (hbx W hW).be)
 have HSW:Hid (∀ W,Below w.heap.size w W->∀ x∈xs,SubW W B x.s x.v):=hid (fun W hW x hx=>(hsw x hx).below hW hB)
 have HONE:=hid (subs_oneW hsw)
 obtain ⟨A31,c31,hq31,_⟩:=h.ev
 have HEV:=hid hq31
 generalize hR:begS c last L now r who watcher state tag=R at *
 have HERR:Hid (∀ W wz e,Below w0.heap.size w0 W->Fr (fun k=>k=w.heap.size+1+1\/k=w.heap.size+1+1+1) W wz->R=⟨last,L,noSub,e⟩->RbgPost N B c R.last R w (.returned (.tuple #[.agg (rtV c last (.slice A xs.length cp)),.agg sub0,.int .i64 e])) wz):=hid (fun W wz e hW hf hR=>by
  have h9:=(HBX.out W hW).err HR.out HBZ.out hf hR
  rw [hR] at h9 ⊢
  exact h9)
 clear hrc hbx hs0 hB hl hz h ht hxs hcp hmx hrd hN hsw hl0 hl1 hR hq31
 unfold rt0 sub0 at hw0
 go_enter Tryz.func51,Tryz.ntmps51
 go_upto_region 1 with (fail)
 try rw [hw0]
 clear hw0
 go_upto_region 2 with (refine wpl_store rfl 39 (.tmp 17) (.tmp 23) rfl w0.heap.size 0 rfl sub0 rfl (sub_blk0 w0) (Nat.le_refl 34) sub0 rfl (by kernel_rfl) sub0_one ?_;intro w1 hk6 hf6)
 have b1:Below w0.heap.size w0 w1:=((Below.refl w0.heap.size w0).alloc (Nat.le_refl _) _).trans (hf6.to_below (by simp) (fun k e=>by omega))
 have HB1:=hid b1
 have HK6:Hid (∀ W,Below w1.heap.size w1 W->Blk W w0.heap.size 39 sub0):=hid (fun W hW=>hk6.fr (Fr.of_below (F:=fun _=>False) hW) (fun h=>h))
 have HB0:Hid (∀ W,Below w1.heap.size w1 W->Below w0.heap.size w0 W):=hid (fun W hW=>b1.trans (hW.mono b1.size))
 have HSE:Hid (∀ W W',Below w1.heap.size w1 W->Fr (fun k=>k=w.heap.size+1+1\/k=w.heap.size+1+1+1) W W'->W'.rangeAt w.heap.size 0 (rtV c last (.slice A xs.length cp)).toList/\W'.rangeAt w0.heap.size 0 sub0.toList):=hid (fun W W' hW hf=>⟨blk_range (off:=0) ((HBX.out _ (HB0.out _ hW)).t.fr hf (by omega)) rfl,blk_range (off:=0) ((HK6.out _ hW).fr hf (by have:=HS0.out;omega)) rfl⟩)
 clear b1 hk6 hf6
 rw [put_none9]
 go_cut [37] (fun v wx=>v=.bool (badT now state)/\w1=wx)
 case first =>
  by_cases n0:now<0
  .have HBT:Hid (badT now state=true):=hid (by unfold badT tickB;simp;omega)
   go_wp2_with fail
   go_meet
   exact ⟨by rw [HBT.out],rfl⟩
  .by_cases n1:now<=549755813888
   .have z2:decide (now > 549755813888)=false:=decide_eq_false (by omega)
    by_cases s0:state=0
    .have HBT:Hid (badT now state=false):=hid (by unfold badT tickB;simp;omega)
     subst s0
     clear n1
     go_wp2_with fail
     go_meet
     exact ⟨by rw [HBT.out],rfl⟩
    .by_cases s1:state=1
     .have HBT:Hid (badT now state=false):=hid (by unfold badT tickB;simp;omega)
      subst s1
      clear n1 s0
      go_wp2_with fail
      go_meet
      exact ⟨by rw [HBT.out],rfl⟩
     .have HBT:Hid (badT now state=true):=hid (by unfold badT tickB;simp;omega)
      have y0:(state != 0)=true:=by simpa using s0
      have y1:(state != 1)=true:=by simpa using s1
      clear s0 s1 n1
      go_wp2_with fail
      go_meet
      exact ⟨by rw [HBT.out],rfl⟩
   .have z2:decide (now > 549755813888)=true:=decide_eq_true (by omega)
    have HBT:Hid (badT now state=true):=hid (by unfold badT tickB;simp;omega)
    clear n1
    go_wp2_with fail
    go_meet
    exact ⟨by rw [HBT.out],rfl⟩
 case rest =>
  obtain ⟨rfl,rfl⟩:=hcut
  cases hbad:badT now state with
  | true =>
    have HE:=hid (HBD.out hbad)
    clear hbad
    go_upto_region 3 with (fail)
    have HXD:Hid (Below w1.heap.size w1 w1.drew):=hid (Below.refl w1.heap.size w1).drew
    refine wp_region_noPanic ?_
    refine wp_region_held_drew (S:=fun W=>W.rangeAt w.heap.size 0 (rtV c last (.slice A xs.length cp)).toList/\W.rangeAt w0.heap.size 0 sub0.toList) (by kernel_rfl) (HSE.out _ _ HXD.out (Fr.refl _ _)) (fun hHeld=>?_)
    refine tkm 0 (rtV c last (.slice A xs.length cp)) (w.heap.size) 0 (fun wq hSw=>hSw.1) Tryz.underlying71 ?_
    refine tkm 1 sub0 (w0.heap.size) 0 (fun wq hSw=>hSw.2) Tryz.underlying39 ?_
    refine rd1 2 fun K hK=>?_
    refine stg 71 (.tmp 14) (.tmp 38) (w.heap.size+1+1) (rtV c last (.slice A xs.length cp)) ((HBX.out _ (HB1.out.trans (HXD.out.mono HB1.out.size))).z) (rtV_one rfl) ?_
    intro ua hkz hf
    have HF_ua:=hid hf
    have HK_ua:=hid hkz
    clear hf hkz
    refine bk hK (HSE.out _ _ HXD.out (HF_ua.out.mono (fun k _ e=>.inl e))) fun hHeld=>?_
    clear hK K
    refine rd1 3 fun K hK=>?_
    refine stg 39 (.tmp 15) (.tmp 39) (w.heap.size+1+1+1) sub0 ((HBX.out _ (HB1.out.trans (HXD.out.mono HB1.out.size))).s.fr HF_ua.out (by omega)) sub0_one ?_
    intro ub hkz hf
    have HF_ub:=hid hf
    have HK_ub:=hid hkz
    clear hf hkz
    refine bk hK (HSE.out _ _ HXD.out ((HF_ua.out.mono (fun k _ e=>.inl e)).trans (G:=fun k=>k=w.heap.size+1+1+1) HF_ub.out (fun k _ e=>.inr e))) fun hHeld=>?_
    clear hK K
    refine tk 4 ?_
    refine dn9 (NoPanic.normal ?_)
    clear hHeld
    go_wp2_with fail
    refine ret_cell3 rfl rfl rfl rfl rfl (HK_ua.out.fr HF_ub.out (by omega)) HK_ub.out _ _ Tryz.underlying71 Tryz.underlying39 rfl rfl (by kernel_rfl) (by kernel_rfl) ?_
    exact HERR.out _ _ _ (HB0.out _ HXD.out) ((HF_ua.out.mono (fun k _ e=>.inl e)).trans (G:=fun k=>k=w.heap.size+1+1+1) HF_ub.out (fun k _ e=>.inr e)) HE.out
  | false =>
    obtain ⟨htk,hst⟩:=badT_f hbad
    have HTK:=hid htk
    have HST:=hid hst
    clear hbad htk hst
    have HRB:=hid (HBX.out _ HB1.out)
    have HD0:Hid (∀ d,(begR r tag).dlg=some d->(begR r tag).dlg.getD noDlg=d):=hid (fun d h=>by rw [h];rfl)
    have HNZ:Hid (∀ d,(begR r tag).dlg=some d->SubZ (newB last r who watcher state d)):=hid (fun d h=>newB_z HZ.out h)
    go_upto_region 5 with (first|(refine wpl_load rfl 45 (.tmp 9) rfl (w.heap.size+1) 0 rfl HRB.out.q (reqA r q).toList rfl _ Tryz.underlying45 rfl (by kernel_rfl) ?_)|(go_at_call 94;refine (HBG.out _ HRB.out.be).mono ?_;rintro e w2 ⟨dv,rfl,hdw,hb2⟩;have HDW:=hid hdw;have HB2:=hid hb2;clear hdw hb2)|(refine wpl_store rfl 37 (.tmp 18) (.tmp 44) rfl w2.heap.size 0 rfl (dlgA ((begR r tag).dlg.getD noDlg) dv) rfl (dlg_blk0 w2) (Nat.le_refl 26) (dlgA ((begR r tag).dlg.getD noDlg) dv) rfl (by kernel_rfl) (dlgA_one HDW.out.one) ?_;intro w3 hk3 hf3))
    have b3:Below w2.heap.size w2 w3:=((Below.refl w2.heap.size w2).alloc (Nat.le_refl _) _).trans (hf3.to_below (by simp) (fun k e=>by omega))
    have HX3:Hid (Below w1.heap.size w1 w3):=hid (HB2.out.trans (b3.mono HB2.out.size))
    have HK3:=hid hk3
    have HDW3:=hid (HDW.out.below b3 (Nat.le_trans (Nat.le_trans HBZ.out HRB.out.be.size) HB2.out.size))
    have HG2:Hid (w1.heap.size<=w2.heap.size):=hid HB2.out.size
    clear b3 hk3 hf3 HDW HBG
    generalize hD:(begR r tag).dlg.getD noDlg=D at *
    rcases HW.out with ⟨h1,_⟩|⟨_,h1,h2,_⟩|⟨_,_,h3,hE⟩|⟨_,_,h3,h4,hE⟩|⟨_,_,h3,h4,h5,hE⟩|⟨_,_,h3,h4,h5,d,hd,hE⟩
    .rw [HTK.out] at h1
     cases h1
    .exfalso
     rcases HST.out with h|h
     .exact h1 h
     .exact h2 h
    .have HE:=hid hE
     clear hE
     generalize (begR r tag).err=E at *
     have q1:(E != 0)=true:=by simpa using h3
     clear h3
     go_upto_region 6 with (fail)
     have HXD:Hid (Below w1.heap.size w1 (w3).drew):=hid (HX3.out.trans (Below.refl w1.heap.size w3).drew)
     refine wp_region_noPanic ?_
     refine wp_region_held_drew (S:=fun W=>W.rangeAt w.heap.size 0 (rtV c last (.slice A xs.length cp)).toList/\W.rangeAt w0.heap.size 0 sub0.toList) (by kernel_rfl) (HSE.out _ _ HXD.out (Fr.refl _ _)) (fun hHeld=>?_)
     refine tkm 0 (rtV c last (.slice A xs.length cp)) (w.heap.size) 0 (fun wq hSw=>hSw.1) Tryz.underlying71 ?_
     refine tkm 1 sub0 (w0.heap.size) 0 (fun wq hSw=>hSw.2) Tryz.underlying39 ?_
     refine tk 2 ?_
     refine rd1 3 fun K hK=>?_
     refine stg 71 (.tmp 14) (.tmp 48) (w.heap.size+1+1) (rtV c last (.slice A xs.length cp)) ((HBX.out _ (HB1.out.trans (HXD.out.mono HB1.out.size))).z) (rtV_one rfl) ?_
     intro ua hkz hf
     have HF_ua:=hid hf
     have HK_ua:=hid hkz
     clear hf hkz
     refine bk hK (HSE.out _ _ HXD.out (HF_ua.out.mono (fun k _ e=>.inl e))) fun hHeld=>?_
     clear hK K
     refine rd1 4 fun K hK=>?_
     refine stg 39 (.tmp 15) (.tmp 49) (w.heap.size+1+1+1) sub0 ((HBX.out _ (HB1.out.trans (HXD.out.mono HB1.out.size))).s.fr HF_ua.out (by omega)) sub0_one ?_
     intro ub hkz hf
     have HF_ub:=hid hf
     have HK_ub:=hid hkz
     clear hf hkz
     refine bk hK (HSE.out _ _ HXD.out ((HF_ua.out.mono (fun k _ e=>.inl e)).trans (G:=fun k=>k=w.heap.size+1+1+1) HF_ub.out (fun k _ e=>.inr e))) fun hHeld=>?_
     clear hK K
     refine tk 5 ?_
     refine dn9 (NoPanic.normal ?_)
     clear hHeld
     go_wp2_with fail
     refine ret_cell3 rfl rfl rfl rfl rfl (HK_ua.out.fr HF_ub.out (by omega)) HK_ub.out _ _ Tryz.underlying71 Tryz.underlying39 rfl rfl (by kernel_rfl) (by kernel_rfl) ?_
     exact HERR.out _ _ _ (HB0.out _ HXD.out) ((HF_ua.out.mono (fun k _ e=>.inl e)).trans (G:=fun k=>k=w.heap.size+1+1+1) HF_ub.out (fun k _ e=>.inr e)) HE.out
    .have h5:=True.intro
     rw [h3]
     rw [h4] at HSEC
     have HE:=hid hE
     have c29:w3.cell? ⟨w.heap.size+1,29,none⟩=some (.int .i64 r.exp):=(HBX.out _ (HB0.out _ HX3.out)).q.cell 29
     clear hE h3 h4
     go_upto_region 9 with (first|(refine wpl_load rfl 26 (.tmp 52) rfl w.heap.size 0 rfl (HBX.out _ (HB0.out _ HX3.out)).t [.string (str c.host),.int .i64 c.calls,.int .i64 c.pubs,.int .i64 c.subs,.int .i64 c.least,.int .i64 c.most,.int .i64 c.usual] rfl _ Tryz.underlying26 rfl (by kernel_rfl) ?_)|(go_at_call 18;refine (HSEC.out _).mono ?_;rintro e w4 ⟨rfl,hb4⟩;have HB4:=hid hb4;clear hb4))
     have HX4:Hid (Below w1.heap.size w1 w4):=hid (HX3.out.trans (HB4.out.mono HX3.out.size))
     have HXD:Hid (Below w1.heap.size w1 (w4).drew):=hid (HX4.out.trans (Below.refl w1.heap.size w4).drew)
     refine wp_region_noPanic ?_
     refine wp_region_held_drew (S:=fun W=>W.rangeAt w.heap.size 0 (rtV c last (.slice A xs.length cp)).toList/\W.rangeAt w0.heap.size 0 sub0.toList) (by kernel_rfl) (HSE.out _ _ HXD.out (Fr.refl _ _)) (fun hHeld=>?_)
     refine tkm 0 (rtV c last (.slice A xs.length cp)) (w.heap.size) 0 (fun wq hSw=>hSw.1) Tryz.underlying71 ?_
     refine tkm 1 sub0 (w0.heap.size) 0 (fun wq hSw=>hSw.2) Tryz.underlying39 ?_
     refine rd1 2 fun K hK=>?_
     refine stg 71 (.tmp 14) (.tmp 61) (w.heap.size+1+1) (rtV c last (.slice A xs.length cp)) ((HBX.out _ (HB1.out.trans (HXD.out.mono HB1.out.size))).z) (rtV_one rfl) ?_
     intro ua hkz hf
     have HF_ua:=hid hf
     have HK_ua:=hid hkz
     clear hf hkz
     refine bk hK (HSE.out _ _ HXD.out (HF_ua.out.mono (fun k _ e=>.inl e))) fun hHeld=>?_
     clear hK K
     refine rd1 3 fun K hK=>?_
     refine stg 39 (.tmp 15) (.tmp 62) (w.heap.size+1+1+1) sub0 ((HBX.out _ (HB1.out.trans (HXD.out.mono HB1.out.size))).s.fr HF_ua.out (by omega)) sub0_one ?_
     intro ub hkz hf
     have HF_ub:=hid hf
     have HK_ub:=hid hkz
     clear hf hkz
     refine bk hK (HSE.out _ _ HXD.out ((HF_ua.out.mono (fun k _ e=>.inl e)).trans (G:=fun k=>k=w.heap.size+1+1+1) HF_ub.out (fun k _ e=>.inr e))) fun hHeld=>?_
     clear hK K
     refine tk 4 ?_
     refine dn9 (NoPanic.normal ?_)
     clear hHeld
     go_wp2_with fail
     refine ret_cell3 rfl rfl rfl rfl rfl (HK_ua.out.fr HF_ub.out (by omega)) HK_ub.out _ _ Tryz.underlying71 Tryz.underlying39 rfl rfl (by kernel_rfl) (by kernel_rfl) ?_
     exact HERR.out _ _ _ (HB0.out _ HXD.out) ((HF_ua.out.mono (fun k _ e=>.inl e)).trans (G:=fun k=>k=w.heap.size+1+1+1) HF_ub.out (fun k _ e=>.inr e)) HE.out
    .have hfu:c.subs<=(xs.length:Int):=by have:=HXL.out;omega
     have z5:decide ((xs.length:Int)>=c.subs)=true:=decide_eq_true hfu
     clear h5
     rw [h3]
     rw [h4] at HSEC
     have HE:=hid hE
     have c29:w3.cell? ⟨w.heap.size+1,29,none⟩=some (.int .i64 r.exp):=(HBX.out _ (HB0.out _ HX3.out)).q.cell 29
     clear hE h3 h4
     clear hfu
     go_upto_region 10 with (first|(refine wpl_load rfl 26 (.tmp 52) rfl w.heap.size 0 rfl (HBX.out _ (HB0.out _ HX3.out)).t [.string (str c.host),.int .i64 c.calls,.int .i64 c.pubs,.int .i64 c.subs,.int .i64 c.least,.int .i64 c.most,.int .i64 c.usual] rfl _ Tryz.underlying26 rfl (by kernel_rfl) ?_)|(go_at_call 18;refine (HSEC.out _).mono ?_;rintro e w4 ⟨rfl,hb4⟩;have HB4:=hid hb4;clear hb4))
     have HX4:Hid (Below w1.heap.size w1 w4):=hid (HX3.out.trans (HB4.out.mono HX3.out.size))
     have p8:w4.cell? ⟨w.heap.size,8,none⟩=some (.slice A xs.length cp):=(HBX.out _ (HB0.out _ HX4.out)).t.cell 8
     have p3:w4.cell? ⟨w.heap.size,3,none⟩=some (.int .i64 c.subs):=(HBX.out _ (HB0.out _ HX4.out)).t.cell 3
     go_upto_region 11 with (fail)
     clear p8 p3 c29 z5
     have HXD:Hid (Below w1.heap.size w1 (w4).drew):=hid (HX4.out.trans (Below.refl w1.heap.size w4).drew)
     refine wp_region_noPanic ?_
     refine wp_region_held_drew (S:=fun W=>W.rangeAt w.heap.size 0 (rtV c last (.slice A xs.length cp)).toList/\W.rangeAt w0.heap.size 0 sub0.toList) (by kernel_rfl) (HSE.out _ _ HXD.out (Fr.refl _ _)) (fun hHeld=>?_)
     refine tkm 0 (rtV c last (.slice A xs.length cp)) (w.heap.size) 0 (fun wq hSw=>hSw.1) Tryz.underlying71 ?_
     refine tkm 1 sub0 (w0.heap.size) 0 (fun wq hSw=>hSw.2) Tryz.underlying39 ?_
     refine rd1 2 fun K hK=>?_
     refine stg 71 (.tmp 14) (.tmp 70) (w.heap.size+1+1) (rtV c last (.slice A xs.length cp)) ((HBX.out _ (HB1.out.trans (HXD.out.mono HB1.out.size))).z) (rtV_one rfl) ?_
     intro ua hkz hf
     have HF_ua:=hid hf
     have HK_ua:=hid hkz
     clear hf hkz
     refine bk hK (HSE.out _ _ HXD.out (HF_ua.out.mono (fun k _ e=>.inl e))) fun hHeld=>?_
     clear hK K
     refine rd1 3 fun K hK=>?_
     refine stg 39 (.tmp 15) (.tmp 71) (w.heap.size+1+1+1) sub0 ((HBX.out _ (HB1.out.trans (HXD.out.mono HB1.out.size))).s.fr HF_ua.out (by omega)) sub0_one ?_
     intro ub hkz hf
     have HF_ub:=hid hf
     have HK_ub:=hid hkz
     clear hf hkz
     refine bk hK (HSE.out _ _ HXD.out ((HF_ua.out.mono (fun k _ e=>.inl e)).trans (G:=fun k=>k=w.heap.size+1+1+1) HF_ub.out (fun k _ e=>.inr e))) fun hHeld=>?_
     clear hK K
     refine tk 4 ?_
     refine dn9 (NoPanic.normal ?_)
     clear hHeld
     go_wp2_with fail
     refine ret_cell3 rfl rfl rfl rfl rfl (HK_ua.out.fr HF_ub.out (by omega)) HK_ub.out _ _ Tryz.underlying71 Tryz.underlying39 rfl rfl (by kernel_rfl) (by kernel_rfl) ?_
     exact HERR.out _ _ _ (HB0.out _ HXD.out) ((HF_ua.out.mono (fun k _ e=>.inl e)).trans (G:=fun k=>k=w.heap.size+1+1+1) HF_ub.out (fun k _ e=>.inr e)) HE.out
    .have hfu:¬c.subs<=(xs.length:Int):=by have:=HXL.out;omega
     have z5:decide ((xs.length:Int)>=c.subs)=false:=decide_eq_false hfu
     have hdd:=HD0.out d hd
     subst hdd
     rename (Dlg)=>d
     have HZB:=hid (HNZ.out _ hd)
     clear h5
     rw [h3]
     rw [h4] at HSEC
     have HE:=hid hE
     have c29:w3.cell? ⟨w.heap.size+1,29,none⟩=some (.int .i64 r.exp):=(HBX.out _ (HB0.out _ HX3.out)).q.cell 29
     clear hE h3 h4
     clear hfu hd
     obtain ⟨e0,lp,lh,la,rp,rh,ra,tp,th,ro⟩:=dv
     obtain ⟨B1,k1,rfl⟩:=HDW3.out.lp.sl
     obtain ⟨B2,k2,rfl⟩:=HDW3.out.lh.sl
     obtain ⟨B3,k3,rfl⟩:=HDW3.out.la.sl
     obtain ⟨B4,k4,rfl⟩:=HDW3.out.rp.sl
     obtain ⟨B5,k5,rfl⟩:=HDW3.out.rh.sl
     obtain ⟨B6,k6,rfl⟩:=HDW3.out.ra.sl
     obtain ⟨B7,k7,rfl⟩:=HDW3.out.tp.sl
     obtain ⟨B8,k8,rfl⟩:=HDW3.out.th.sl
     obtain ⟨B9,k9,rfl⟩:=HDW3.out.ro.sl
     go_upto_region 10 with (first|(refine wpl_load rfl 26 (.tmp 52) rfl w.heap.size 0 rfl (HBX.out _ (HB0.out _ HX3.out)).t [.string (str c.host),.int .i64 c.calls,.int .i64 c.pubs,.int .i64 c.subs,.int .i64 c.least,.int .i64 c.most,.int .i64 c.usual] rfl _ Tryz.underlying26 rfl (by kernel_rfl) ?_)|(go_at_call 18;refine (HSEC.out _).mono ?_;rintro e w4 ⟨rfl,hb4⟩;have HB4:=hid hb4;clear hb4))
     have HX4:Hid (Below w1.heap.size w1 w4):=hid (HX3.out.trans (HB4.out.mono HX3.out.size))
     have p8:w4.cell? ⟨w.heap.size,8,none⟩=some (.slice A xs.length cp):=(HBX.out _ (HB0.out _ HX4.out)).t.cell 8
     have p3:w4.cell? ⟨w.heap.size,3,none⟩=some (.int .i64 c.subs):=(HBX.out _ (HB0.out _ HX4.out)).t.cell 3
     have hz0:(0:Int)<=last:=HLA.out.1
     have hz1:last<=2000000:=HLA.out.2
     have p7:w4.cell? ⟨w.heap.size,7,none⟩=some (.int .i64 last):=(HBX.out _ (HB0.out _ HX4.out)).t.cell 7
     have p30:w4.cell? ⟨w.heap.size+1,30,none⟩=some (.string (str r.ev.name)):=(HBX.out _ (HB0.out _ HX4.out)).q.cell 30
     have p31:w4.cell? ⟨w.heap.size+1,31,none⟩=some (.slice A31 r.ev.params.length c31):=((HBX.out _ (HB0.out _ HX4.out)).q.cell 31).trans (by rw [<-HEV.out];rfl)
     have HK4:=hid (HK3.out.fr (Fr.of_below (F:=fun _=>False) HB4.out) (fun h=>h))
     have HDW4:=hid (HDW3.out.below HB4.out (Nat.le_trans (Nat.le_trans HBZ.out HRB.out.be.size) HX3.out.size))
     have HLS:Hid (∀ W,Calls Tryz.prog 95 #[.agg (subA (newB last r who watcher state d) ⟨.slice A31 r.ev.params.length c31,.slice B1 d.loc.uri.params.length k1,.slice B2 d.loc.uri.headers.length k2,.slice B3 d.loc.params.length k3,.slice B4 d.rem.uri.params.length k4,.slice B5 d.rem.uri.headers.length k5,.slice B6 d.rem.params.length k6,.slice B7 d.tgt.params.length k7,.slice B8 d.tgt.headers.length k8,.slice B9 d.routes.length k9⟩),.int .i64 now,.int .i64 (secN c r.exp)] W (LtnPost (newB last r who watcher state d) ⟨.slice A31 r.ev.params.length c31,.slice B1 d.loc.uri.params.length k1,.slice B2 d.loc.uri.headers.length k2,.slice B3 d.loc.params.length k3,.slice B4 d.rem.uri.params.length k4,.slice B5 d.rem.uri.headers.length k5,.slice B6 d.rem.params.length k6,.slice B7 d.tgt.params.length k7,.slice B8 d.tgt.headers.length k8,.slice B9 d.routes.length k9⟩ now (secN c r.exp) W)):=hid (fun W=>by
      have h9:=HTK.out
      unfold tickB at h9
      simp only [Bool.and_eq_true,decide_eq_true_eq] at h9
      exact rlasting_any W rfl ⟨rfl,rfl,rfl,rfl,rfl,rfl,rfl,rfl,rfl⟩ h9.1 h9.2 HSL.out.1 HSL.out.2)
     unfold LtnPost at HLS
     clear c29
     go_upto_region 13 with (first|(refine wpl_load rfl 37 (.tmp 18) rfl w2.heap.size 0 rfl HK4.out [.string (str d.callid),.string (str d.loc.display),.string (str d.loc.uri.scheme),.string (str d.loc.uri.user),.string (str d.loc.uri.host),.int .i64 d.loc.uri.port,.slice B1 d.loc.uri.params.length k1,.slice B2 d.loc.uri.headers.length k2,.slice B3 d.loc.params.length k3,.string (str d.rem.display),.string (str d.rem.uri.scheme),.string (str d.rem.uri.user),.string (str d.rem.uri.host),.int .i64 d.rem.uri.port,.slice B4 d.rem.uri.params.length k4,.slice B5 d.rem.uri.headers.length k5,.slice B6 d.rem.params.length k6,.string (str d.tgt.scheme),.string (str d.tgt.user),.string (str d.tgt.host),.int .i64 d.tgt.port,.slice B7 d.tgt.params.length k7,.slice B8 d.tgt.headers.length k8,.slice B9 d.routes.length k9,.int .i64 d.lastIn,.int .i64 d.lastOut] rfl _ Tryz.underlying37 rfl (by kernel_rfl) ?_)|(go_at_call 95;refine (HLS.out _).mono ?_;rintro e w5 ⟨rfl,hb5⟩;have HB5:=hid hb5;clear hb5)|(refine wpl_store rfl 39 (.tmp 22) (.tmp 84) rfl w5.heap.size 0 rfl (subA (lastsS (newB last r who watcher state d) now (secN c r.exp)) ⟨.slice A31 r.ev.params.length c31,.slice B1 d.loc.uri.params.length k1,.slice B2 d.loc.uri.headers.length k2,.slice B3 d.loc.params.length k3,.slice B4 d.rem.uri.params.length k4,.slice B5 d.rem.uri.headers.length k5,.slice B6 d.rem.params.length k6,.slice B7 d.tgt.params.length k7,.slice B8 d.tgt.headers.length k8,.slice B9 d.routes.length k9⟩) rfl (sub_blk0 w5) (Nat.le_refl 34) (subA (lastsS (newB last r who watcher state d) now (secN c r.exp)) ⟨.slice A31 r.ev.params.length c31,.slice B1 d.loc.uri.params.length k1,.slice B2 d.loc.uri.headers.length k2,.slice B3 d.loc.params.length k3,.slice B4 d.rem.uri.params.length k4,.slice B5 d.rem.uri.headers.length k5,.slice B6 d.rem.params.length k6,.slice B7 d.tgt.params.length k7,.slice B8 d.tgt.headers.length k8,.slice B9 d.routes.length k9⟩) rfl (by kernel_rfl) (subA_one rfl ⟨rfl,rfl,rfl,rfl,rfl,rfl,rfl,rfl,rfl⟩) ?_;intro w6 hk6 hf6))
     have b6:Below w5.heap.size w5 w6:=((Below.refl w5.heap.size w5).alloc (Nat.le_refl _) _).trans (hf6.to_below (by simp) (fun k e=>by omega))
     have HX5:Hid (Below w1.heap.size w1 w5):=hid (HX4.out.trans (HB5.out.mono HX4.out.size))
     have HX6:Hid (Below w1.heap.size w1 w6):=hid (HX5.out.trans (b6.mono HX5.out.size))
     obtain ⟨sn,hsn⟩:∃ sn,lastsS (newB last r who watcher state d) now (secN c r.exp)=sn:=⟨_,rfl⟩
     have hk6':Blk w6 w5.heap.size 39 (subA sn ⟨.slice A31 r.ev.params.length c31,.slice B1 d.loc.uri.params.length k1,.slice B2 d.loc.uri.headers.length k2,.slice B3 d.loc.params.length k3,.slice B4 d.rem.uri.params.length k4,.slice B5 d.rem.uri.headers.length k5,.slice B6 d.rem.params.length k6,.slice B7 d.tgt.params.length k7,.slice B8 d.tgt.headers.length k8,.slice B9 d.routes.length k9⟩):=by rw [<-hsn];exact hk6
     have HE2:Hid (R=⟨last+1,L++[sn],sn,0⟩):=hid (by rw [HE.out,<-hsn];rfl)
     have HSN:Hid (SubW w6 B sn ⟨.slice A31 r.ev.params.length c31,.slice B1 d.loc.uri.params.length k1,.slice B2 d.loc.uri.headers.length k2,.slice B3 d.loc.params.length k3,.slice B4 d.rem.uri.params.length k4,.slice B5 d.rem.uri.headers.length k5,.slice B6 d.rem.params.length k6,.slice B7 d.tgt.params.length k7,.slice B8 d.tgt.headers.length k8,.slice B9 d.routes.length k9⟩):=hid (by
      have hbw:=(HBX.out _ (HB0.out _ HX6.out)).be
      have hev:=(HRQ.out _ hbw).1.ev
      have hd6:=HDW4.out.below (HB5.out.trans (b6.mono HB5.out.size)) (Nat.le_trans (Nat.le_trans HBZ.out HRB.out.be.size) HX4.out.size)
      have h9:SubW w6 B (newB last r who watcher state d) ⟨.slice A31 r.ev.params.length c31,.slice B1 d.loc.uri.params.length k1,.slice B2 d.loc.uri.headers.length k2,.slice B3 d.loc.params.length k3,.slice B4 d.rem.uri.params.length k4,.slice B5 d.rem.uri.headers.length k5,.slice B6 d.rem.params.length k6,.slice B7 d.tgt.params.length k7,.slice B8 d.tgt.headers.length k8,.slice B9 d.routes.length k9⟩:=⟨.inl (by have h8:=hev;rw [show q.ev=_ from HEV.out] at h8;exact h8),⟨hd6.lp,hd6.lh,hd6.la,hd6.rp,hd6.rh,hd6.ra,hd6.tp,hd6.th,hd6.ro⟩⟩
      rw [<-hsn]
      exact h9.lasts now (secN c r.exp))
     have HK6S:Hid (∀ W,Below w6.heap.size w6 W->Blk W w5.heap.size 39 (subA sn ⟨.slice A31 r.ev.params.length c31,.slice B1 d.loc.uri.params.length k1,.slice B2 d.loc.uri.headers.length k2,.slice B3 d.loc.params.length k3,.slice B4 d.rem.uri.params.length k4,.slice B5 d.rem.uri.headers.length k5,.slice B6 d.rem.params.length k6,.slice B7 d.tgt.params.length k7,.slice B8 d.tgt.headers.length k8,.slice B9 d.routes.length k9⟩)):=hid (fun W hW=>hk6'.fr (Fr.of_below (F:=fun _=>False) hW) (fun h=>h))
     have HBW6:Hid (∀ W,Below w6.heap.size w6 W->Below w0.heap.size w0 W):=hid (fun W hW=>HB0.out _ (HX6.out.trans (hW.mono HX6.out.size)))
     have HG:Hid (w0.heap.size<=w6.heap.size/\w0.heap.size<=w5.heap.size):=hid ⟨(HB0.out _ HX6.out).size,(HB0.out _ HX5.out).size⟩
     have HS:Hid (∀ W W',Below w6.heap.size w6 W->Fr (fun k=>k=w.heap.size+1+1\/k=w.heap.size+1+1+1) W W'->W'.rangeAt w.heap.size 0 [.string (str c.host),.int .i64 c.calls,.int .i64 c.pubs,.int .i64 c.subs,.int .i64 c.least,.int .i64 c.most,.int .i64 c.usual]/\W'.cell? ⟨w.heap.size,7,none⟩=some (.int .i64 last)/\W'.cell? ⟨w.heap.size,8,none⟩=some (.slice A xs.length cp)/\W'.rangeAt w5.heap.size 0 (subA sn ⟨.slice A31 r.ev.params.length c31,.slice B1 d.loc.uri.params.length k1,.slice B2 d.loc.uri.headers.length k2,.slice B3 d.loc.params.length k3,.slice B4 d.rem.uri.params.length k4,.slice B5 d.rem.uri.headers.length k5,.slice B6 d.rem.params.length k6,.slice B7 d.tgt.params.length k7,.slice B8 d.tgt.headers.length k8,.slice B9 d.routes.length k9⟩).toList):=hid (fun W W' hW hf=>by
      have hx:=HBX.out _ (HBW6.out _ hW)
      have hs0:=HS0.out
      have hg:=HG.out
      have ht:=hx.t.fr hf (by omega)
      exact ⟨blk_range (off:=0) ht rfl,ht.cell 7,ht.cell 8,blk_range (off:=0) ((HK6S.out W hW).fr hf (by omega)) rfl⟩)
     have HFINAL:Hid (∀ W wz g9 c9,Below w6.heap.size w6 W->W.ownsRow w6.heap.size 39 34 (.slice (some ⟨g9,0,none⟩) (xs.length+1) c9) (xs.length+1) (rows subC xs++subC ⟨sn,⟨.slice A31 r.ev.params.length c31,.slice B1 d.loc.uri.params.length k1,.slice B2 d.loc.uri.headers.length k2,.slice B3 d.loc.params.length k3,.slice B4 d.rem.uri.params.length k4,.slice B5 d.rem.uri.headers.length k5,.slice B6 d.rem.params.length k6,.slice B7 d.tgt.params.length k7,.slice B8 d.tgt.headers.length k8,.slice B9 d.routes.length k9⟩⟩)->Fr (fun k=>k=w.heap.size+1+1\/k=w.heap.size+1+1+1) W wz->RbgPost N B c R.last R w (.returned (.tuple #[.agg (rtV c (last+1) (.slice (some ⟨g9,0,none⟩) (xs.length+1) c9)),.agg (subA sn ⟨.slice A31 r.ev.params.length c31,.slice B1 d.loc.uri.params.length k1,.slice B2 d.loc.uri.headers.length k2,.slice B3 d.loc.params.length k3,.slice B4 d.rem.uri.params.length k4,.slice B5 d.rem.uri.headers.length k5,.slice B6 d.rem.params.length k6,.slice B7 d.tgt.params.length k7,.slice B8 d.tgt.headers.length k8,.slice B9 d.routes.length k9⟩),.int .i64 0])) wz):=hid (fun W wz g9 c9 hW ho hf=>by
      have hx:=HBX.out _ (HBW6.out _ hW)
      have hs0:=HS0.out
      have hg:=HG.out
      have hsw:=HSN.out.below hW (Nat.le_trans HBZ.out (HBX.out _ (HBW6.out _ (Below.refl _ _))).be.size)
      have h9:=rfl_own (N':=fun k=>w6.heap.size<=k) (B:=B) (xs:=xs++[⟨sn,⟨.slice A31 r.ev.params.length c31,.slice B1 d.loc.uri.params.length k1,.slice B2 d.loc.uri.headers.length k2,.slice B3 d.loc.params.length k3,.slice B4 d.rem.uri.params.length k4,.slice B5 d.rem.uri.headers.length k5,.slice B6 d.rem.params.length k6,.slice B7 d.tgt.params.length k7,.slice B8 d.tgt.headers.length k8,.slice B9 d.routes.length k9⟩⟩]) (by rw [rows_snoc,List.length_append];exact ho) (fun k hk=>hk) (fun x hx9=>by
       rcases List.mem_append.1 hx9 with q9|q9
       .exact HSW.out _ hx.be x q9
       .rw [List.mem_singleton] at q9
        subst q9
        exact hsw)
      rw [List.map_append,HXS.out] at h9
      obtain ⟨a,b,e⟩:=hx.ok (N:=N) h9 (fun k hk=>⟨.inr (by omega),by omega,by omega⟩) hsw HBZ.out hf
      rw [HE2.out]
      exact ⟨_,_,rfl,a,b,e⟩)
     have HONE1:Hid (∀ u∈subC ⟨sn,⟨.slice A31 r.ev.params.length c31,.slice B1 d.loc.uri.params.length k1,.slice B2 d.loc.uri.headers.length k2,.slice B3 d.loc.params.length k3,.slice B4 d.rem.uri.params.length k4,.slice B5 d.rem.uri.headers.length k5,.slice B6 d.rem.params.length k6,.slice B7 d.tgt.params.length k7,.slice B8 d.tgt.headers.length k8,.slice B9 d.routes.length k9⟩⟩,u.oneCell'=true):=hid (fun u hu=>sub_oneW (x:=⟨sn,⟨.slice A31 r.ev.params.length c31,.slice B1 d.loc.uri.params.length k1,.slice B2 d.loc.uri.headers.length k2,.slice B3 d.loc.params.length k3,.slice B4 d.rem.uri.params.length k4,.slice B5 d.rem.uri.headers.length k5,.slice B6 d.rem.params.length k6,.slice B7 d.tgt.params.length k7,.slice B8 d.tgt.headers.length k8,.slice B9 d.routes.length k9⟩⟩) HSN.out u hu)
     have HRX:Hid (∀ W,Below w6.heap.size w6 W->Rd W 39 34 xs.length A (rows subC xs)):=hid (fun W hW=>HRD.out _ (HBW6.out _ hW))
     have HNL:Hid (xs.length<=1000):=hid (by have:=HXL.out;have:=HL.out;omega)
     have HW6:Hid (Below w6.heap.size w6 w6.drew):=hid (Below.refl _ _).drew
     have HWR:Hid (IntKind.i64.wrap (last+1)=last+1):=hid (IntWalk.i64_in _ (by have:=HLA.out;omega))
     clear b6 hk6 hf6 hk6' hsn p7 p30 p31 p8 p3 z5
     refine wp_region_noPanic ?_
     refine wp_region_held_drew (S:=fun W=>W.rangeAt w.heap.size 0 [.string (str c.host),.int .i64 c.calls,.int .i64 c.pubs,.int .i64 c.subs,.int .i64 c.least,.int .i64 c.most,.int .i64 c.usual]/\W.cell? ⟨w.heap.size,7,none⟩=some (.int .i64 last)/\W.cell? ⟨w.heap.size,8,none⟩=some (.slice A xs.length cp)/\W.rangeAt w5.heap.size 0 (subA sn ⟨.slice A31 r.ev.params.length c31,.slice B1 d.loc.uri.params.length k1,.slice B2 d.loc.uri.headers.length k2,.slice B3 d.loc.params.length k3,.slice B4 d.rem.uri.params.length k4,.slice B5 d.rem.uri.headers.length k5,.slice B6 d.rem.params.length k6,.slice B7 d.tgt.params.length k7,.slice B8 d.tgt.headers.length k8,.slice B9 d.routes.length k9⟩).toList) (by kernel_rfl) (HS.out _ _ HW6.out (Fr.refl _ _)) (fun hHeld=>?_)
     refine tk 0 ?_
     refine tkm 1 #[.string (str c.host),.int .i64 c.calls,.int .i64 c.pubs,.int .i64 c.subs,.int .i64 c.least,.int .i64 c.most,.int .i64 c.usual] (w.heap.size) 0 (fun wq hSw=>hSw.1) Tryz.underlying26 ?_
     refine tk 2 ?_
     refine tk 3 ?_
     refine tkv 4 (.int .i64 (last+1)) ?_ ?_
     .refine Or.inl ⟨rfl,?_⟩;intro wq hSw;(try dsimp only at hSw);go_simp;exact HWR.out
     refine tk 6 ?_
     refine tk 7 ?_
     refine tkm 9 (subA sn ⟨.slice A31 r.ev.params.length c31,.slice B1 d.loc.uri.params.length k1,.slice B2 d.loc.uri.headers.length k2,.slice B3 d.loc.params.length k3,.slice B4 d.rem.uri.params.length k4,.slice B5 d.rem.uri.headers.length k5,.slice B6 d.rem.params.length k6,.slice B7 d.tgt.params.length k7,.slice B8 d.tgt.headers.length k8,.slice B9 d.routes.length k9⟩) (w5.heap.size) 0 (fun wq hSw=>hSw.2.2.2) Tryz.underlying39 ?_
     refine tkm 13 (subA sn ⟨.slice A31 r.ev.params.length c31,.slice B1 d.loc.uri.params.length k1,.slice B2 d.loc.uri.headers.length k2,.slice B3 d.loc.params.length k3,.slice B4 d.rem.uri.params.length k4,.slice B5 d.rem.uri.headers.length k5,.slice B6 d.rem.params.length k6,.slice B7 d.tgt.params.length k7,.slice B8 d.tgt.headers.length k8,.slice B9 d.routes.length k9⟩) (w5.heap.size) 0 (fun wq hSw=>hSw.2.2.2) Tryz.underlying39 ?_
     have HSZD:Hid (w6.heap.size<=w6.drew.heap.size):=hid (Nat.le_refl _)
     generalize w6.drew=wd at *
     refine wpAnyH_ready (rs:=[5,10]) (by kernel_rfl) (by simp) ?_
     refine rdc (fun K hK=>?_) ?_
     .go_simp
      have hb:Below w6.heap.size wd (wd.alloc (.cells #[] 39)):=(Below.refl _ _).alloc HW6.out.size _
      have hoe:(wd.alloc (.cells #[] 39)).ownsRow w6.heap.size 39 34 (.slice (some ⟨wd.heap.size,0,none⟩) 0 0) 0 []:=own_empty (Blk.new wd _ _) HW6.out.size
      obtain ⟨ue,hu⟩:∃ u,wd.alloc (.cells #[] 39)=u:=⟨_,rfl⟩
      rw [hu] at hb hoe ⊢
      clear hu
      have HOE:=hid hoe
      have HYE:Hid (Below w6.heap.size w6 ue):=hid (HW6.out.trans hb)
      clear hb hoe
      refine bk hK (HS.out _ _ HYE.out (Fr.refl _ _)) fun hHeld=>?_
      clear hK K
      refine wpAnyH_ready (rs:=[8,10]) (by kernel_rfl) (by simp) ?_
      refine rdc (fun K hK=>?_) ?_
      .refine step_app_rd rfl (.tmp 90) (.tmp 92) 61 rfl w6.heap.size 39 34 560 _ Tryz.underlying61 eS39i rfl (by omega) (.slice (some ⟨wd.heap.size,0,none⟩) 0 0) 0 [] rfl HOE.out _ _ _ _ rfl (HRX.out _ HYE.out) HONE.out (by have:=HNL.out;unfold maxLen;omega) (by have:=HNL.out;omega) HYE.out.size ?_
       intro v7 w7 hown7 hb7 hg7 hat7
       rw [Nat.zero_add,List.nil_append] at hown7
       have HOW:=hid hown7
       have HYA:Hid (Below w6.heap.size w6 w7):=hid (HYE.out.trans hb7)
       clear hown7 hb7 hg7 hat7
       refine bk hK (HS.out _ _ HYA.out (Fr.refl _ _)) fun hHeld=>?_
       clear hK K
       refine wpAnyH_ready (rs:=[10]) (by kernel_rfl) (by simp) ?_
       refine rdc (fun K hK=>?_) ?_
       .rw [if_pos (by rfl)]
        refine wp_buildSliceTo 61 39 1 #[(0,.tmp 94)] rfl Tryz.underlying61 (subA sn ⟨.slice A31 r.ev.params.length c31,.slice B1 d.loc.uri.params.length k1,.slice B2 d.loc.uri.headers.length k2,.slice B3 d.loc.params.length k3,.slice B4 d.rem.uri.params.length k4,.slice B5 d.rem.uri.headers.length k5,.slice B6 d.rem.params.length k6,.slice B7 d.tgt.params.length k7,.slice B8 d.tgt.headers.length k8,.slice B9 d.routes.length k9⟩) (by as_aux_lemma=>kernel_rfl) ?_
        have hb:Below w6.heap.size w7 (w7.alloc (.cells (subA sn ⟨.slice A31 r.ev.params.length c31,.slice B1 d.loc.uri.params.length k1,.slice B2 d.loc.uri.headers.length k2,.slice B3 d.loc.params.length k3,.slice B4 d.rem.uri.params.length k4,.slice B5 d.rem.uri.headers.length k5,.slice B6 d.rem.params.length k6,.slice B7 d.tgt.params.length k7,.slice B8 d.tgt.headers.length k8,.slice B9 d.routes.length k9⟩) 39)):=(Below.refl _ _).alloc HYA.out.size _
        have hbs:Blk (w7.alloc (.cells (subA sn ⟨.slice A31 r.ev.params.length c31,.slice B1 d.loc.uri.params.length k1,.slice B2 d.loc.uri.headers.length k2,.slice B3 d.loc.params.length k3,.slice B4 d.rem.uri.params.length k4,.slice B5 d.rem.uri.headers.length k5,.slice B6 d.rem.params.length k6,.slice B7 d.tgt.params.length k7,.slice B8 d.tgt.headers.length k8,.slice B9 d.routes.length k9⟩) 39)) w7.heap.size 39 (subC ⟨sn,⟨.slice A31 r.ev.params.length c31,.slice B1 d.loc.uri.params.length k1,.slice B2 d.loc.uri.headers.length k2,.slice B3 d.loc.params.length k3,.slice B4 d.rem.uri.params.length k4,.slice B5 d.rem.uri.headers.length k5,.slice B6 d.rem.params.length k6,.slice B7 d.tgt.params.length k7,.slice B8 d.tgt.headers.length k8,.slice B9 d.routes.length k9⟩⟩).toArray:=Blk.new w7 _ _
        have how:=own_fr HOW.out (Fr.of_below (F:=fun _=>False) ((Below.refl _ w7).alloc (Nat.le_refl _) (.cells (subA sn ⟨.slice A31 r.ev.params.length c31,.slice B1 d.loc.uri.params.length k1,.slice B2 d.loc.uri.headers.length k2,.slice B3 d.loc.params.length k3,.slice B4 d.rem.uri.params.length k4,.slice B5 d.rem.uri.headers.length k5,.slice B6 d.rem.params.length k6,.slice B7 d.tgt.params.length k7,.slice B8 d.tgt.headers.length k8,.slice B9 d.routes.length k9⟩) 39))) (fun _ _ h=>h)
        obtain ⟨us,hu⟩:∃ u,w7.alloc (.cells (subA sn ⟨.slice A31 r.ev.params.length c31,.slice B1 d.loc.uri.params.length k1,.slice B2 d.loc.uri.headers.length k2,.slice B3 d.loc.params.length k3,.slice B4 d.rem.uri.params.length k4,.slice B5 d.rem.uri.headers.length k5,.slice B6 d.rem.params.length k6,.slice B7 d.tgt.params.length k7,.slice B8 d.tgt.headers.length k8,.slice B9 d.routes.length k9⟩) 39)=u:=⟨_,rfl⟩
        rw [hu] at hb hbs how ⊢
        clear hu
        have HBS:=hid hbs
        have HBLT:Hid (w7.heap.size<us.heap.size):=hid hbs.lt
        have HYS:Hid (Below w6.heap.size w6 us):=hid (HYA.out.trans hb)
        have HOW:=hid how
        clear how
        clear hb hbs
        refine bk hK (HS.out _ _ HYS.out (Fr.refl _ _)) fun hHeld=>?_
        clear hK K
        refine wpAnyH_ready (rs:=[11]) (by kernel_rfl) (by simp) ?_
        refine rdc (fun K hK=>?_) ?_
        .refine step_app1 rfl (.tmp 93) (.tmp 95) 61 rfl w6.heap.size 39 34 560 _ Tryz.underlying61 eS39i rfl (by omega) v7 xs.length (rows subC xs) rfl HOW.out (subC ⟨sn,⟨.slice A31 r.ev.params.length c31,.slice B1 d.loc.uri.params.length k1,.slice B2 d.loc.uri.headers.length k2,.slice B3 d.loc.params.length k3,.slice B4 d.rem.uri.params.length k4,.slice B5 d.rem.uri.headers.length k5,.slice B6 d.rem.params.length k6,.slice B7 d.tgt.params.length k7,.slice B8 d.tgt.headers.length k8,.slice B9 d.routes.length k9⟩⟩) (w7.heap.size) rfl HBS.out rfl HONE1.out (by have:=HNL.out;unfold maxLen;omega) (by have:=HNL.out;omega) HYS.out.size ?_
         intro v9 w9 hown9 hb9 hg9 hat9
         obtain ⟨g9,c9,rfl⟩:=own_pos hown9 (by omega)
         have HOW9:=hid hown9
         have HY9:Hid (Below w6.heap.size w6 w9):=hid (HYS.out.trans hb9)
         clear hown9 hb9 hg9 hat9
         refine bk hK (HS.out _ _ HY9.out (Fr.refl _ _)) fun hHeld=>?_
         clear hK K
         refine tk 12 ?_
         refine rd1 14 fun K hK=>?_
         refine stg 71 (.tmp 14) (.tmp 97) (w.heap.size+1+1) (rtV c (last+1) (.slice (some ⟨g9,0,none⟩) (xs.length+1) c9)) ((HBX.out _ (HBW6.out _ HY9.out)).z) (rtV_one rfl) ?_
         intro ua hkz hf
         have HF_ua:=hid hf
         have HK_ua:=hid hkz
         clear hf hkz
         refine bk hK (HS.out _ _ HY9.out (HF_ua.out.mono (fun k _ e=>.inl e))) fun hHeld=>?_
         clear hK K
         refine rd1 15 fun K hK=>?_
         refine stg 39 (.tmp 15) (.tmp 98) (w.heap.size+1+1+1) (subA sn ⟨.slice A31 r.ev.params.length c31,.slice B1 d.loc.uri.params.length k1,.slice B2 d.loc.uri.headers.length k2,.slice B3 d.loc.params.length k3,.slice B4 d.rem.uri.params.length k4,.slice B5 d.rem.uri.headers.length k5,.slice B6 d.rem.params.length k6,.slice B7 d.tgt.params.length k7,.slice B8 d.tgt.headers.length k8,.slice B9 d.routes.length k9⟩) ((HBX.out _ (HBW6.out _ HY9.out)).s.fr HF_ua.out (by omega)) (subA_one rfl ⟨rfl,rfl,rfl,rfl,rfl,rfl,rfl,rfl,rfl⟩) ?_
         intro ub hkz hf
         have HF_ub:=hid hf
         have HK_ub:=hid hkz
         clear hf hkz
         refine bk hK (HS.out _ _ HY9.out ((HF_ua.out.mono (fun k _ e=>.inl e)).trans (G:=fun k=>k=w.heap.size+1+1+1) HF_ub.out (fun k _ e=>.inr e))) fun hHeld=>?_
         clear hK K
         refine tk 16 ?_
         refine dn9 (NoPanic.normal ?_)
         clear hHeld
         go_wp2_with fail
         refine ret_cell3 rfl rfl rfl rfl rfl (HK_ua.out.fr HF_ub.out (by omega)) HK_ub.out _ _ Tryz.underlying71 Tryz.underlying39 rfl rfl (by kernel_rfl) (by kernel_rfl) ?_
         exact HFINAL.out _ _ _ _ HY9.out HOW9.out ((HF_ua.out.mono (fun k _ e=>.inl e)).trans (G:=fun k=>k=w.heap.size+1+1+1) HF_ub.out (fun k _ e=>.inr e))
        exact AllReadyH.nil
       exact AllReadyH.nil
      refine rdc (fun K hK=>?_) ?_
      .rw [if_pos (by rfl)]
       refine wp_buildSliceTo 61 39 1 #[(0,.tmp 94)] rfl Tryz.underlying61 (subA sn ⟨.slice A31 r.ev.params.length c31,.slice B1 d.loc.uri.params.length k1,.slice B2 d.loc.uri.headers.length k2,.slice B3 d.loc.params.length k3,.slice B4 d.rem.uri.params.length k4,.slice B5 d.rem.uri.headers.length k5,.slice B6 d.rem.params.length k6,.slice B7 d.tgt.params.length k7,.slice B8 d.tgt.headers.length k8,.slice B9 d.routes.length k9⟩) (by as_aux_lemma=>kernel_rfl) ?_
       have hb:Below w6.heap.size ue (ue.alloc (.cells (subA sn ⟨.slice A31 r.ev.params.length c31,.slice B1 d.loc.uri.params.length k1,.slice B2 d.loc.uri.headers.length k2,.slice B3 d.loc.params.length k3,.slice B4 d.rem.uri.params.length k4,.slice B5 d.rem.uri.headers.length k5,.slice B6 d.rem.params.length k6,.slice B7 d.tgt.params.length k7,.slice B8 d.tgt.headers.length k8,.slice B9 d.routes.length k9⟩) 39)):=(Below.refl _ _).alloc HYE.out.size _
       have hbs:Blk (ue.alloc (.cells (subA sn ⟨.slice A31 r.ev.params.length c31,.slice B1 d.loc.uri.params.length k1,.slice B2 d.loc.uri.headers.length k2,.slice B3 d.loc.params.length k3,.slice B4 d.rem.uri.params.length k4,.slice B5 d.rem.uri.headers.length k5,.slice B6 d.rem.params.length k6,.slice B7 d.tgt.params.length k7,.slice B8 d.tgt.headers.length k8,.slice B9 d.routes.length k9⟩) 39)) ue.heap.size 39 (subC ⟨sn,⟨.slice A31 r.ev.params.length c31,.slice B1 d.loc.uri.params.length k1,.slice B2 d.loc.uri.headers.length k2,.slice B3 d.loc.params.length k3,.slice B4 d.rem.uri.params.length k4,.slice B5 d.rem.uri.headers.length k5,.slice B6 d.rem.params.length k6,.slice B7 d.tgt.params.length k7,.slice B8 d.tgt.headers.length k8,.slice B9 d.routes.length k9⟩⟩).toArray:=Blk.new ue _ _
       have how:=own_fr HOE.out (Fr.of_below (F:=fun _=>False) ((Below.refl _ ue).alloc (Nat.le_refl _) (.cells (subA sn ⟨.slice A31 r.ev.params.length c31,.slice B1 d.loc.uri.params.length k1,.slice B2 d.loc.uri.headers.length k2,.slice B3 d.loc.params.length k3,.slice B4 d.rem.uri.params.length k4,.slice B5 d.rem.uri.headers.length k5,.slice B6 d.rem.params.length k6,.slice B7 d.tgt.params.length k7,.slice B8 d.tgt.headers.length k8,.slice B9 d.routes.length k9⟩) 39))) (fun _ _ h=>h)
       have hlt9:wd.heap.size<ue.heap.size:=(HOE.out.lt _ rfl).2
       obtain ⟨us,hu⟩:∃ u,ue.alloc (.cells (subA sn ⟨.slice A31 r.ev.params.length c31,.slice B1 d.loc.uri.params.length k1,.slice B2 d.loc.uri.headers.length k2,.slice B3 d.loc.params.length k3,.slice B4 d.rem.uri.params.length k4,.slice B5 d.rem.uri.headers.length k5,.slice B6 d.rem.params.length k6,.slice B7 d.tgt.params.length k7,.slice B8 d.tgt.headers.length k8,.slice B9 d.routes.length k9⟩) 39)=u:=⟨_,rfl⟩
       rw [hu] at hb hbs how ⊢
       clear hu
       have HBS:=hid hbs
       have HBLT:Hid (ue.heap.size<us.heap.size):=hid hbs.lt
       have HYS:Hid (Below w6.heap.size w6 us):=hid (HYE.out.trans hb)
       have HOE:=hid how
       have HNE:Hid (ue.heap.size≠wd.heap.size):=hid (by omega)
       clear how hlt9
       clear hb hbs
       refine bk hK (HS.out _ _ HYS.out (Fr.refl _ _)) fun hHeld=>?_
       clear hK K
       refine wpAnyH_ready (rs:=[8]) (by kernel_rfl) (by simp) ?_
       refine rdc (fun K hK=>?_) ?_
       .refine step_app_rd rfl (.tmp 90) (.tmp 92) 61 rfl w6.heap.size 39 34 560 _ Tryz.underlying61 eS39i rfl (by omega) (.slice (some ⟨wd.heap.size,0,none⟩) 0 0) 0 [] rfl HOE.out _ _ _ _ rfl (HRX.out _ HYS.out) HONE.out (by have:=HNL.out;unfold maxLen;omega) (by have:=HNL.out;omega) HYS.out.size ?_
        intro v7 w7 hown7 hb7 hg7 hat7
        rw [Nat.zero_add,List.nil_append] at hown7
        have HOW:=hid hown7
        have HYA:Hid (Below w6.heap.size w6 w7):=hid (HYS.out.trans hb7)
        have HBS:=hid (Blk.of_grown hg7 HBS.out (by intro e9;injection e9 with e9;exact HNE.out e9.symm))
        clear hown7 hb7 hg7 hat7
        refine bk hK (HS.out _ _ HYA.out (Fr.refl _ _)) fun hHeld=>?_
        clear hK K
        refine wpAnyH_ready (rs:=[11]) (by kernel_rfl) (by simp) ?_
        refine rdc (fun K hK=>?_) ?_
        .refine step_app1 rfl (.tmp 93) (.tmp 95) 61 rfl w6.heap.size 39 34 560 _ Tryz.underlying61 eS39i rfl (by omega) v7 xs.length (rows subC xs) rfl HOW.out (subC ⟨sn,⟨.slice A31 r.ev.params.length c31,.slice B1 d.loc.uri.params.length k1,.slice B2 d.loc.uri.headers.length k2,.slice B3 d.loc.params.length k3,.slice B4 d.rem.uri.params.length k4,.slice B5 d.rem.uri.headers.length k5,.slice B6 d.rem.params.length k6,.slice B7 d.tgt.params.length k7,.slice B8 d.tgt.headers.length k8,.slice B9 d.routes.length k9⟩⟩) (ue.heap.size) rfl HBS.out rfl HONE1.out (by have:=HNL.out;unfold maxLen;omega) (by have:=HNL.out;omega) HYA.out.size ?_
         intro v9 w9 hown9 hb9 hg9 hat9
         obtain ⟨g9,c9,rfl⟩:=own_pos hown9 (by omega)
         have HOW9:=hid hown9
         have HY9:Hid (Below w6.heap.size w6 w9):=hid (HYA.out.trans hb9)
         clear hown9 hb9 hg9 hat9
         refine bk hK (HS.out _ _ HY9.out (Fr.refl _ _)) fun hHeld=>?_
         clear hK K
         refine tk 12 ?_
         refine rd1 14 fun K hK=>?_
         refine stg 71 (.tmp 14) (.tmp 97) (w.heap.size+1+1) (rtV c (last+1) (.slice (some ⟨g9,0,none⟩) (xs.length+1) c9)) ((HBX.out _ (HBW6.out _ HY9.out)).z) (rtV_one rfl) ?_
         intro ua hkz hf
         have HF_ua:=hid hf
         have HK_ua:=hid hkz
         clear hf hkz
         refine bk hK (HS.out _ _ HY9.out (HF_ua.out.mono (fun k _ e=>.inl e))) fun hHeld=>?_
         clear hK K
         refine rd1 15 fun K hK=>?_
         refine stg 39 (.tmp 15) (.tmp 98) (w.heap.size+1+1+1) (subA sn ⟨.slice A31 r.ev.params.length c31,.slice B1 d.loc.uri.params.length k1,.slice B2 d.loc.uri.headers.length k2,.slice B3 d.loc.params.length k3,.slice B4 d.rem.uri.params.length k4,.slice B5 d.rem.uri.headers.length k5,.slice B6 d.rem.params.length k6,.slice B7 d.tgt.params.length k7,.slice B8 d.tgt.headers.length k8,.slice B9 d.routes.length k9⟩) ((HBX.out _ (HBW6.out _ HY9.out)).s.fr HF_ua.out (by omega)) (subA_one rfl ⟨rfl,rfl,rfl,rfl,rfl,rfl,rfl,rfl,rfl⟩) ?_
         intro ub hkz hf
         have HF_ub:=hid hf
         have HK_ub:=hid hkz
         clear hf hkz
         refine bk hK (HS.out _ _ HY9.out ((HF_ua.out.mono (fun k _ e=>.inl e)).trans (G:=fun k=>k=w.heap.size+1+1+1) HF_ub.out (fun k _ e=>.inr e))) fun hHeld=>?_
         clear hK K
         refine tk 16 ?_
         refine dn9 (NoPanic.normal ?_)
         clear hHeld
         go_wp2_with fail
         refine ret_cell3 rfl rfl rfl rfl rfl (HK_ua.out.fr HF_ub.out (by omega)) HK_ub.out _ _ Tryz.underlying71 Tryz.underlying39 rfl rfl (by kernel_rfl) (by kernel_rfl) ?_
         exact HFINAL.out _ _ _ _ HY9.out HOW9.out ((HF_ua.out.mono (fun k _ e=>.inl e)).trans (G:=fun k=>k=w.heap.size+1+1+1) HF_ub.out (fun k _ e=>.inr e))
        exact AllReadyH.nil
       exact AllReadyH.nil
      exact AllReadyH.nil
     refine rdc (fun K hK=>?_) ?_
     .rw [if_pos (by rfl)]
      refine wp_buildSliceTo 61 39 1 #[(0,.tmp 94)] rfl Tryz.underlying61 (subA sn ⟨.slice A31 r.ev.params.length c31,.slice B1 d.loc.uri.params.length k1,.slice B2 d.loc.uri.headers.length k2,.slice B3 d.loc.params.length k3,.slice B4 d.rem.uri.params.length k4,.slice B5 d.rem.uri.headers.length k5,.slice B6 d.rem.params.length k6,.slice B7 d.tgt.params.length k7,.slice B8 d.tgt.headers.length k8,.slice B9 d.routes.length k9⟩) (by as_aux_lemma=>kernel_rfl) ?_
      have hb:Below w6.heap.size wd (wd.alloc (.cells (subA sn ⟨.slice A31 r.ev.params.length c31,.slice B1 d.loc.uri.params.length k1,.slice B2 d.loc.uri.headers.length k2,.slice B3 d.loc.params.length k3,.slice B4 d.rem.uri.params.length k4,.slice B5 d.rem.uri.headers.length k5,.slice B6 d.rem.params.length k6,.slice B7 d.tgt.params.length k7,.slice B8 d.tgt.headers.length k8,.slice B9 d.routes.length k9⟩) 39)):=(Below.refl _ _).alloc HW6.out.size _
      have hbs:Blk (wd.alloc (.cells (subA sn ⟨.slice A31 r.ev.params.length c31,.slice B1 d.loc.uri.params.length k1,.slice B2 d.loc.uri.headers.length k2,.slice B3 d.loc.params.length k3,.slice B4 d.rem.uri.params.length k4,.slice B5 d.rem.uri.headers.length k5,.slice B6 d.rem.params.length k6,.slice B7 d.tgt.params.length k7,.slice B8 d.tgt.headers.length k8,.slice B9 d.routes.length k9⟩) 39)) wd.heap.size 39 (subC ⟨sn,⟨.slice A31 r.ev.params.length c31,.slice B1 d.loc.uri.params.length k1,.slice B2 d.loc.uri.headers.length k2,.slice B3 d.loc.params.length k3,.slice B4 d.rem.uri.params.length k4,.slice B5 d.rem.uri.headers.length k5,.slice B6 d.rem.params.length k6,.slice B7 d.tgt.params.length k7,.slice B8 d.tgt.headers.length k8,.slice B9 d.routes.length k9⟩⟩).toArray:=Blk.new wd _ _
      obtain ⟨us,hu⟩:∃ u,wd.alloc (.cells (subA sn ⟨.slice A31 r.ev.params.length c31,.slice B1 d.loc.uri.params.length k1,.slice B2 d.loc.uri.headers.length k2,.slice B3 d.loc.params.length k3,.slice B4 d.rem.uri.params.length k4,.slice B5 d.rem.uri.headers.length k5,.slice B6 d.rem.params.length k6,.slice B7 d.tgt.params.length k7,.slice B8 d.tgt.headers.length k8,.slice B9 d.routes.length k9⟩) 39)=u:=⟨_,rfl⟩
      rw [hu] at hb hbs ⊢
      clear hu
      have HBS:=hid hbs
      have HBLT:Hid (wd.heap.size<us.heap.size):=hid hbs.lt
      have HYS:Hid (Below w6.heap.size w6 us):=hid (HW6.out.trans hb)
      clear hb hbs
      refine bk hK (HS.out _ _ HYS.out (Fr.refl _ _)) fun hHeld=>?_
      clear hK K
      refine wpAnyH_ready (rs:=[5]) (by kernel_rfl) (by simp) ?_
      refine rdc (fun K hK=>?_) ?_
      .go_simp
       have hb:Below w6.heap.size us (us.alloc (.cells #[] 39)):=(Below.refl _ _).alloc HYS.out.size _
       have hoe:(us.alloc (.cells #[] 39)).ownsRow w6.heap.size 39 34 (.slice (some ⟨us.heap.size,0,none⟩) 0 0) 0 []:=own_empty (Blk.new us _ _) HYS.out.size
       have hbs:=HBS.out.alloc (.cells #[] 39)
       obtain ⟨ue,hu⟩:∃ u,us.alloc (.cells #[] 39)=u:=⟨_,rfl⟩
       rw [hu] at hb hoe hbs ⊢
       clear hu
       have HOE:=hid hoe
       have HYE:Hid (Below w6.heap.size w6 ue):=hid (HYS.out.trans hb)
       have HBS:=hid hbs
       have HNE:Hid (wd.heap.size≠us.heap.size):=hid (by have:=HBLT.out;omega)
       clear hbs
       clear hb hoe
       refine bk hK (HS.out _ _ HYE.out (Fr.refl _ _)) fun hHeld=>?_
       clear hK K
       refine wpAnyH_ready (rs:=[8]) (by kernel_rfl) (by simp) ?_
       refine rdc (fun K hK=>?_) ?_
       .refine step_app_rd rfl (.tmp 90) (.tmp 92) 61 rfl w6.heap.size 39 34 560 _ Tryz.underlying61 eS39i rfl (by omega) (.slice (some ⟨us.heap.size,0,none⟩) 0 0) 0 [] rfl HOE.out _ _ _ _ rfl (HRX.out _ HYE.out) HONE.out (by have:=HNL.out;unfold maxLen;omega) (by have:=HNL.out;omega) HYE.out.size ?_
        intro v7 w7 hown7 hb7 hg7 hat7
        rw [Nat.zero_add,List.nil_append] at hown7
        have HOW:=hid hown7
        have HYA:Hid (Below w6.heap.size w6 w7):=hid (HYE.out.trans hb7)
        have HBS:=hid (Blk.of_grown hg7 HBS.out (by intro e9;injection e9 with e9;exact HNE.out e9.symm))
        clear hown7 hb7 hg7 hat7
        refine bk hK (HS.out _ _ HYA.out (Fr.refl _ _)) fun hHeld=>?_
        clear hK K
        refine wpAnyH_ready (rs:=[11]) (by kernel_rfl) (by simp) ?_
        refine rdc (fun K hK=>?_) ?_
        .refine step_app1 rfl (.tmp 93) (.tmp 95) 61 rfl w6.heap.size 39 34 560 _ Tryz.underlying61 eS39i rfl (by omega) v7 xs.length (rows subC xs) rfl HOW.out (subC ⟨sn,⟨.slice A31 r.ev.params.length c31,.slice B1 d.loc.uri.params.length k1,.slice B2 d.loc.uri.headers.length k2,.slice B3 d.loc.params.length k3,.slice B4 d.rem.uri.params.length k4,.slice B5 d.rem.uri.headers.length k5,.slice B6 d.rem.params.length k6,.slice B7 d.tgt.params.length k7,.slice B8 d.tgt.headers.length k8,.slice B9 d.routes.length k9⟩⟩) (wd.heap.size) rfl HBS.out rfl HONE1.out (by have:=HNL.out;unfold maxLen;omega) (by have:=HNL.out;omega) HYA.out.size ?_
         intro v9 w9 hown9 hb9 hg9 hat9
         obtain ⟨g9,c9,rfl⟩:=own_pos hown9 (by omega)
         have HOW9:=hid hown9
         have HY9:Hid (Below w6.heap.size w6 w9):=hid (HYA.out.trans hb9)
         clear hown9 hb9 hg9 hat9
         refine bk hK (HS.out _ _ HY9.out (Fr.refl _ _)) fun hHeld=>?_
         clear hK K
         refine tk 12 ?_
         refine rd1 14 fun K hK=>?_
         refine stg 71 (.tmp 14) (.tmp 97) (w.heap.size+1+1) (rtV c (last+1) (.slice (some ⟨g9,0,none⟩) (xs.length+1) c9)) ((HBX.out _ (HBW6.out _ HY9.out)).z) (rtV_one rfl) ?_
         intro ua hkz hf
         have HF_ua:=hid hf
         have HK_ua:=hid hkz
         clear hf hkz
         refine bk hK (HS.out _ _ HY9.out (HF_ua.out.mono (fun k _ e=>.inl e))) fun hHeld=>?_
         clear hK K
         refine rd1 15 fun K hK=>?_
         refine stg 39 (.tmp 15) (.tmp 98) (w.heap.size+1+1+1) (subA sn ⟨.slice A31 r.ev.params.length c31,.slice B1 d.loc.uri.params.length k1,.slice B2 d.loc.uri.headers.length k2,.slice B3 d.loc.params.length k3,.slice B4 d.rem.uri.params.length k4,.slice B5 d.rem.uri.headers.length k5,.slice B6 d.rem.params.length k6,.slice B7 d.tgt.params.length k7,.slice B8 d.tgt.headers.length k8,.slice B9 d.routes.length k9⟩) ((HBX.out _ (HBW6.out _ HY9.out)).s.fr HF_ua.out (by omega)) (subA_one rfl ⟨rfl,rfl,rfl,rfl,rfl,rfl,rfl,rfl,rfl⟩) ?_
         intro ub hkz hf
         have HF_ub:=hid hf
         have HK_ub:=hid hkz
         clear hf hkz
         refine bk hK (HS.out _ _ HY9.out ((HF_ua.out.mono (fun k _ e=>.inl e)).trans (G:=fun k=>k=w.heap.size+1+1+1) HF_ub.out (fun k _ e=>.inr e))) fun hHeld=>?_
         clear hK K
         refine tk 16 ?_
         refine dn9 (NoPanic.normal ?_)
         clear hHeld
         go_wp2_with fail
         refine ret_cell3 rfl rfl rfl rfl rfl (HK_ua.out.fr HF_ub.out (by omega)) HK_ub.out _ _ Tryz.underlying71 Tryz.underlying39 rfl rfl (by kernel_rfl) (by kernel_rfl) ?_
         exact HFINAL.out _ _ _ _ HY9.out HOW9.out ((HF_ua.out.mono (fun k _ e=>.inl e)).trans (G:=fun k=>k=w.heap.size+1+1+1) HF_ub.out (fun k _ e=>.inr e))
        exact AllReadyH.nil
       exact AllReadyH.nil
      exact AllReadyH.nil
     exact AllReadyH.nil
end Go.Proofs.YthkadehlclcggaaGreatDoor
