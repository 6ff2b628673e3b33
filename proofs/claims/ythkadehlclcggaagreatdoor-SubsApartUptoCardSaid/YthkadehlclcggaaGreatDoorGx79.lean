/- Chapter 19: a call of both, what it holds. Chapter 19: a call of both, kind 0. -/
import Derived.Test.YthkadehlclcggaaGreatDoorGx78
import Derived.Test.YthkadehlclcggaaGreatDoorGx76
import Derived.Test.YthkadehlclcggaaGreatDoorGx75
import Derived.Test.YthkadehlclcggaaGreatDoorGx74
import Derived.Test.YthkadehlclcggaaGreatDoorGx70
namespace Go.Proofs.YthkadehlclcggaaGreatDoor
set_option linter.unusedSimpArgs false
set_option linter.unusedVariables false
open Go.RowKit
open Go.Lib (hid)
structure Do9R where
 last:Int
 L:List SubP
def doS (c:Conf) (last:Int) (L:List SubP) (a:ActN):Do9R :=
 if a.kind=0 then ⟨(begS c last L a.now a.r abT a.text a.state a.text).last,(begS c last L a.now a.r abT a.text a.state a.text).L⟩
 else if a.kind=1 then ⟨last,(agaS c L a.now a.num a.r).L⟩
 else if a.kind=2 then ⟨last,(putS L a.num a.state a.text).L⟩
 else if a.kind=3 then ⟨last,(sentS L a.num a.state).L⟩
 else if a.kind=4 then ⟨last,dropS L a.num⟩
 else if a.kind=5 then ⟨last,expS L a.now⟩
 else ⟨last,L⟩
theorem doS0 {c:Conf} {last:Int} {L:List SubP} {a:ActN} (h:a.kind=0):doS c last L a=⟨(begS c last L a.now a.r abT a.text a.state a.text).last,(begS c last L a.now a.r abT a.text a.state a.text).L⟩:=by unfold doS;rw [if_pos h]
theorem doS1 {c:Conf} {last:Int} {L:List SubP} {a:ActN} (h:a.kind=1):doS c last L a=⟨last,(agaS c L a.now a.num a.r).L⟩:=by unfold doS;rw [if_neg (by omega),if_pos h]
theorem doS2 {c:Conf} {last:Int} {L:List SubP} {a:ActN} (h:a.kind=2):doS c last L a=⟨last,(putS L a.num a.state a.text).L⟩:=by unfold doS;rw [if_neg (by omega),if_neg (by omega),if_pos h]
theorem doS3 {c:Conf} {last:Int} {L:List SubP} {a:ActN} (h:a.kind=3):doS c last L a=⟨last,(sentS L a.num a.state).L⟩:=by unfold doS;rw [if_neg (by omega),if_neg (by omega),if_neg (by omega),if_pos h]
theorem doS4 {c:Conf} {last:Int} {L:List SubP} {a:ActN} (h:a.kind=4):doS c last L a=⟨last,dropS L a.num⟩:=by unfold doS;rw [if_neg (by omega),if_neg (by omega),if_neg (by omega),if_neg (by omega),if_pos h]
theorem doS5 {c:Conf} {last:Int} {L:List SubP} {a:ActN} (h:a.kind=5):doS c last L a=⟨last,expS L a.now⟩:=by unfold doS;rw [if_neg (by omega),if_neg (by omega),if_neg (by omega),if_neg (by omega),if_neg (by omega),if_pos h]
theorem doS6 {c:Conf} {last:Int} {L:List SubP} {a:ActN} (h0:a.kind≠0) (h1:a.kind≠1) (h2:a.kind≠2) (h3:a.kind≠3) (h4:a.kind≠4) (h5:a.kind≠5):doS c last L a=⟨last,L⟩:=by unfold doS;rw [if_neg h0,if_neg h1,if_neg h2,if_neg h3,if_neg h4,if_neg h5]
def XUp (X:Nat->Prop) (w W:World) (k:Nat):Prop:=X k\/(w.heap.size<=k/\k<W.heap.size)
theorem RfL.box {w W:World} {N:Nat->Prop} {B tb:Nat} {L:List SubP} {v:Value} {T:TypeId} {cs:Array Value} (h:RfL w N B L v) (hk:Blk w tb T cs) (hT:T≠39) (h1:T≠95) (h2:T≠9) (hB:B<=tb) (hf:Fr (fun k=>k=tb) w W):RfL W N B L v:=by
 have hm:∀ s sv,SubW w B s sv->SubW W B s sv:=fun s sv m=>m.fr hf (keepP_blk hk h1 h2) (hf.to_below (Nat.le_trans hB (Nat.le_of_lt hk.lt)) (fun k e=>by omega))
 obtain ⟨xs,A,c,h3,h4,h5,h6,h7,h8,h9⟩:=h
 refine ⟨xs,A,c,h3,h4,h5,h6,⟨h7.1,fun hn=>?_⟩,h8,fun x hx=>hm _ _ (h9 x hx)⟩
 obtain ⟨gb,off,cs9,fr,e,hb,hc⟩:=h7.2 hn
 have hlt:gb<w.heap.size:=(Array.getElem?_eq_some_iff.1 hb).1
 refine ⟨gb,off,cs9,fr,e,(hf.block gb hlt (fun e9=>?_)).trans hb,hc⟩
 subst e9
 have h10:w.heap[gb]?=some (.cells cs T (0,0)):=hk
 rw [hb] at h10
 injection h10 with h10
 injection h10 with _ h10 _
 exact hT h10.symm
section
variable {X X2:Nat->Prop} {w w' W W':World} {p g tb B:Nat} {c:Conf} {last last' lr lf:Int} {L L' Lr Lf:List SubP} {v vf:Value} {a:ActN} {q:RqV} {gv tv:Array Value} {s:SubP} {sv:SlV}
theorem TbX.up (h:TbX X w p c last L) (hb:Below w.heap.size w W):TbX (XUp X w W) W p c last L:=by
 obtain ⟨F,hs,hF⟩:=h.ex
 refine ⟨⟨F,hs.below hb,fun k hk q=>?_⟩,fun k hk=>?_⟩
 .rcases q with q|q
  .exact hF k hk q
  .have:=hs.lt hk;omega
 .rcases hk with q|q
  .exact Nat.lt_of_lt_of_le (h.lt k q) hb.size
  .exact q.2
theorem TbX.less (h:TbX X2 w p c last L) (hX:∀ k,X k->X2 k):TbX X w p c last L:=by
 obtain ⟨F,hs,hF⟩:=h.ex
 exact ⟨⟨F,hs,fun k hk q=>hF k hk (hX k q)⟩,fun k hk=>h.lt k (hX k hk)⟩
theorem TbX.sbq (h:TbX X w p c last L):∃ l,SbQ c last L l:=by
 obtain ⟨F,⟨xs,l,bm,pw,km,FW,rfl,_,q⟩,_⟩:=h.ex
 exact ⟨l,q⟩
theorem TbTo.prx {l:List Par} (t:TbTo X p c last L w W) (h:PrX w B l v) (hb:Below B w W):PrX W B l v:=h.imp (fun h=>h.below hb) (fun h=>t.prm h)
theorem TbTo.subw (t:TbTo X p c last L w W) (h:SubW w B s sv) (hX:∀ k,k<B->X k) (hB:B<=w.heap.size):SubW W B s sv:=by
 have hb:=below_out t.fr hX hB
 exact ⟨t.prx h.ev hb,⟨t.prx h.d.lp hb,t.prx h.d.lh hb,t.prx h.d.la hb,t.prx h.d.rp hb,t.prx h.d.rh hb,t.prx h.d.ra hb,t.prx h.d.tp hb,t.prx h.d.th hb,h.d.ro.imp (fun h=>h.below hb) (fun h=>t.txt h)⟩⟩
theorem TbTo.rfl_ (t:TbTo X p c last L w W) (h:RfL w X B L' v) (hX:∀ k,k<B->X k) (hB:B<=w.heap.size):RfL W X B L' v :=
 h.fr t.fr (fun k hk e=>e hk) (fun s sv m=>t.subw m hX hB)
structure Do9H (X:Nat->Prop) (w:World) (p g:Nat) (c:Conf) (last last':Int) (L L':List SubP) (B:Nat) (v:Value) (a:ActN) (q:RqV):Prop where
 tab:TbX X w p c last L
 box:Blk w g 71 (rtV c last' v)
 ref:RfL w X B L' v
 xg:X g
 xb:∀ k,k<B->X k
 hB:B<=w.heap.size
 hg:B<=g
 rq:ReqB w B a.r q
 rz:ReqZ a.r
 tx:a.text.length<=9223372036854775807
 la:last<=2000000
 la0:0<=last'
 la1:last'<=2000000
 ln:L'.length<=999
 nd:(L'.map (·.number)).Nodup
 zL:∀ s∈L',SubZ s
def Do9Post (X:Nat->Prop) (w:World) (p g:Nat) (c:Conf) (last last':Int) (L L':List SubP) (B:Nat) (a:ActN) (e:Ending) (w':World):Prop :=
 ∃ b X' v',e=.returned (.bool b)/\(last'=last->L'=L->b=true)/\(∀ k,X k->X' k)/\TbX X' w' p c (doS c last L a).last (doS c last L a).L/\Blk w' g 71 (rtV c (doS c last' L' a).last v')/\RfL w' X' B (doS c last' L' a).L v'/\Fr (fun k=>¬X k\/k=g) w w'
structure Do9Z (X:Nat->Prop) (w W:World) (X2:Nat->Prop) (p g:Nat) (c:Conf) (lr:Int) (Lr:List SubP) (B:Nat) (gv:Array Value) (tb:Nat) (tv:Array Value) (Lf:List SubP) (vf:Value) (a:ActN) (q:RqV):Prop where
 x:∀ k,X k->X2 k
 tab:TbX X2 W p c lr Lr
 bg:Blk W g 71 gv
 t:Blk W tb 71 tv
 act:Blk W w.heap.size 67 (actN a q)
 ref:RfL W X2 B Lf vf
 fr:Fr (fun k=>¬X k\/k=g) w W
 xt:X2 tb
 xa:X2 w.heap.size
 tge:w.heap.size<tb
 xg:X g
 xlt:∀ k,X k->k<w.heap.size
 xb:∀ k,k<B->X k
 hg:B<=g
 hB:B<=w.heap.size
theorem Do9Z.bw (h:Do9Z X w W X2 p g c lr Lr B gv tb tv Lf vf a q):Below B w W:=h.fr.to_below h.hB (fun k e=>by
 rcases e with e|e
 .exact Nat.le_of_not_lt fun hk=>e (h.xb k hk)
 .rw [e];exact h.hg)
theorem Do9Z.hBW (h:Do9Z X w W X2 p g c lr Lr B gv tb tv Lf vf a q):B<=W.heap.size:=Nat.le_trans h.hB h.fr.size
theorem Do9Z.x2b (h:Do9Z X w W X2 p g c lr Lr B gv tb tv Lf vf a q):∀ k,k<B->X2 k:=fun k hk=>h.x k (h.xb k hk)
theorem Do9Z.below (h:Do9Z X w W X2 p g c lr Lr B gv tb tv Lf vf a q) (hb:Below W.heap.size W W'):Do9Z X w W' X2 p g c lr Lr B gv tb tv Lf vf a q :=
 have f:Fr (fun _=>False) W W':=Fr.of_below hb
 ⟨h.x,h.tab.below hb,h.bg.fr f (fun e=>e),h.t.fr f (fun e=>e),h.act.fr f (fun e=>e),h.ref.below hb h.hBW,h.fr.trans (G:=fun _=>False) f (fun _ _ e=>e.elim),h.xt,h.xa,h.tge,h.xg,h.xlt,h.xb,h.hg,h.hB⟩
theorem Do9Z.up (h:Do9Z X w W X2 p g c lr Lr B gv tb tv Lf vf a q) (hb:Below W.heap.size W W'):Do9Z X w W' (XUp X2 W W') p g c lr Lr B gv tb tv Lf vf a q :=
 have h9:=h.below hb
 ⟨fun k hk=>.inl (h.x k hk),h.tab.up hb,h9.bg,h9.t,h9.act,h9.ref.mono (fun k _ q=>.inl q),h9.fr,.inl h.xt,.inl h.xa,h.tge,h.xg,h.xlt,h.xb,h.hg,h.hB⟩
theorem Do9Z.ref9 (h:Do9Z X w W X2 p g c lr Lr B gv tb tv Lf vf a q) {L9:List SubP} {v9:Value} (h9:RfL W X2 B L9 v9):Do9Z X w W X2 p g c lr Lr B gv tb tv L9 v9 a q :=
 ⟨h.x,h.tab,h.bg,h.t,h.act,h9,h.fr,h.xt,h.xa,h.tge,h.xg,h.xlt,h.xb,h.hg,h.hB⟩
theorem Do9Z.real (h:Do9Z X w W X2 p g c lr Lr B gv tb tv Lf vf a q) (t:TbTo X2 p c last L W W'):Do9Z X w W' X2 p g c last L B gv tb tv Lf vf a q :=
 ⟨h.x,t.tab,h.bg.out (h.x _ h.xg) t.fr,h.t.out h.xt t.fr,h.act.out h.xa t.fr,t.rfl_ h.ref h.x2b h.hBW,h.fr.trans (G:=Out X2) t.fr (fun k _ e=>.inl fun q=>e (h.x k q)),h.xt,h.xa,h.tge,h.xg,h.xlt,h.xb,h.hg,h.hB⟩
theorem Do9Z.fin (h:Do9Z X w W X2 p g c lr Lr B gv tb tv Lf vf a q) {gv9:Array Value} (hf:Fr (fun k=>k=g) W W') (hk:Blk W' g 71 gv9):(∀ k,X k->X2 k)/\TbX X2 W' p c lr Lr/\Blk W' g 71 gv9/\RfL W' X2 B Lf vf/\Fr (fun k=>¬X k\/k=g) w W' :=
 ⟨h.x,h.tab.set (h.x _ h.xg) h.bg (by decide) (by decide) hf,hk,h.ref.box h.bg (by decide) (by decide) (by decide) h.hg hf,h.fr.trans (G:=fun k=>k=g) hf (fun k _ e=>.inr e)⟩
theorem Do9Z.putT (h:Do9Z X w W X2 p g c lr Lr B gv tb tv Lf vf a q) {tv9:Array Value} (hf:Fr (fun k=>k=tb) W W') (hk:Blk W' tb 71 tv9):Do9Z X w W' X2 p g c lr Lr B gv tb tv9 Lf vf a q :=
 ⟨h.x,h.tab.set h.xt h.t (by decide) (by decide) hf,h.bg.fr hf (by have:=h.xlt _ h.xg;have:=h.tge;omega),hk,h.act.fr hf (by have:=h.tge;omega),h.ref.box h.t (by decide) (by decide) (by decide) (by have:=h.tge;have:=h.hB;omega) hf,h.fr.trans (G:=fun k=>k=tb) hf (fun k hk e=>by have:=h.tge;omega),h.xt,h.xa,h.tge,h.xg,h.xlt,h.xb,h.hg,h.hB⟩
end
theorem noSub_z:SubZ noSub:=⟨by decide,by decide,by decide,by decide,by decide,by decide,by decide,by decide,by decide,by decide,fun _ h=>(by cases h),fun _ h=>(by cases h),fun _ h=>(by cases h)⟩
theorem beg_sub_z {c:Conf} {last now state:Int} {L:List SubP} {r:ReqP} {who watcher tag:T} (hz:ReqZ r):SubZ (begS c last L now r who watcher state tag).sub:=by
 rcases begS_ways c last L now r who watcher state tag with ⟨_,h⟩|⟨_,_,_,h⟩|⟨_,_,_,h⟩|⟨_,_,_,_,h⟩|⟨_,_,_,_,_,h⟩|⟨_,_,_,_,_,d,hd,h⟩
 .rw [h];exact noSub_z
 .rw [h];exact noSub_z
 .rw [h];exact noSub_z
 .rw [h];exact noSub_z
 .rw [h];exact noSub_z
 .rw [h];exact (newB_z (last:=last) (who:=who) (watcher:=watcher) (state:=state) hz hd).lasts now (secN c r.exp)
theorem aga_sub_z {c:Conf} {now n:Int} {L:List SubP} {r:ReqP} (hz:ReqZ r) (hL:∀ s∈L,SubZ s):SubZ (agaS c L now n r).sub:=by
 unfold agaS
 split
 .exact noSub_z
 .split
  .exact noSub_z
  .next s hs =>
   have hm:=List.mem_of_find?_eq_some hs
   split
   .exact noSub_z
   .split
    .exact noSub_z
    .split
     .exact noSub_z
     .split
      .exact noSub_z
      .exact (aga_z (hL s hm) hz).lasts now (secN c r.exp)
theorem rt_blk0 (W:World):Blk (W.alloc (.cells rt0 71)) W.heap.size 71 rt0:=Blk.new W _ _
def NC (X:Nat->Prop) (lo hi:Nat) (k:Nat):Prop:=X k\/(lo<=k/\k<hi)
structure Cal (X:Nat->Prop) (lo hi B:Nat) (L:List SubP) (v:Value) (s:SubP) (sv:SlV) (W:World):Prop where
 r:RfL W (NC X lo hi) B L v
 s:SubW W B s sv
 hB:B<=W.heap.size
theorem Cal.of {X:Nat->Prop} {B:Nat} {L:List SubP} {v:Value} {s:SubP} {sv:SlV} {w W:World} (h:RfL W (fun k=>X k\/w.heap.size<=k) B L v) (hs:SubW W B s sv) (hB:B<=w.heap.size) (hb:Below w.heap.size w W):Cal X w.heap.size W.heap.size B L v s sv W :=
 ⟨h.mono (fun k hk q=>q.imp id (fun q=>⟨q,hk⟩)),hs,Nat.le_trans hB hb.size⟩
theorem Cal.below {X:Nat->Prop} {lo hi B:Nat} {L:List SubP} {v:Value} {s:SubP} {sv:SlV} {w W:World} (h:Cal X lo hi B L v s sv w) (hb:Below w.heap.size w W):Cal X lo hi B L v s sv W:=⟨h.r.below hb h.hB,h.s.below hb h.hB,Nat.le_trans h.hB hb.size⟩
theorem Cal.put {X:Nat->Prop} {lo hi B b:Nat} {L:List SubP} {v:Value} {s:SubP} {sv:SlV} {w W:World} {T:TypeId} {cs:Array Value} (h:Cal X lo hi B L v s sv w) (hf:Fr (fun k=>k=b) w W) (hk:Blk w b T cs) (h1:T≠95) (h2:T≠9) (hX:¬X b) (hb:b<lo\/hi<=b) (hB:B<=b):Cal X lo hi B L v s sv W :=
 have hbw:Below B w W:=hf.to_below h.hB (fun k e=>by omega)
 ⟨h.r.fr hf (fun k q e=>by subst e;rcases q with q|q;exact hX q;omega) (fun s sv m=>m.fr hf (keepP_blk hk h1 h2) hbw),h.s.fr hf (keepP_blk hk h1 h2) hbw,Nat.le_trans h.hB hf.size⟩
def Mid0 (X1:Nat->Prop) (w1:World) (B:Nat) (c:Conf) (lr:Int) (R:SbR) (p9 p10 e11:Value) (wx:World):Prop:=∃ b9 b10 v5 sv,p9=.pointer (some ⟨b9,0,none⟩)/\p10=.pointer (some ⟨b10,0,none⟩)/\e11=.int .i64 R.err/\Blk wx b9 71 (rtV c lr v5)/\Blk wx b10 39 (subA R.sub sv)/\w1.heap.size<=b9/\w1.heap.size<=b10/\RfL wx (XUp X1 w1 wx) B R.L v5/\SubW wx B R.sub sv/\Below w1.heap.size w1 wx
def Mid2 (E:Value->World->Prop) (X1:Nat->Prop) (w1:World) (B:Nat) (c:Conf) (lr:Int) (Lr:List SubP) (p9 e11:Value) (wx:World):Prop:=∃ b9 v5,p9=.pointer (some ⟨b9,0,none⟩)/\E e11 wx/\Blk wx b9 71 (rtV c lr v5)/\w1.heap.size<=b9/\RfL wx (XUp X1 w1 wx) B Lr v5/\Below w1.heap.size w1 wx
theorem RfL.one {w:World} {N:Nat->Prop} {B:Nat} {L:List SubP} {v:Value} (h:RfL w N B L v):v.oneCell'=true:=by
 obtain ⟨_,_,_,_,rfl,_⟩:=h
 rfl
theorem Do9H.start {X:Nat->Prop} {w w0 w1:World} {p g:Nat} {c:Conf} {last last':Int} {L L':List SubP} {B:Nat} {v:Value} {a:ActN} {q:RqV} (H:Do9H X w p g c last last' L L' B v a q) (h0:w.alloc (.cells (actN a q) 67)=w0) (hb:Below w0.heap.size w0 w1) (hk:Blk w1 w0.heap.size 71 (rtV c last' v)) :
 Do9Z X w w1 (XUp X w w1) p g c last L B (rtV c last' v) w0.heap.size (rtV c last' v) L' v a q:=by
 have b0:Below w.heap.size w w0:=h0▸(Below.refl _ _).alloc (Nat.le_refl _) _
 have b1:Below w.heap.size w w1:=b0.trans (hb.mono b0.size)
 have f1:Fr (fun _=>False) w w1:=Fr.of_below b1
 have ka:Blk w0 w.heap.size 67 (actN a q):=h0▸Blk.new w _ _
 have ka1:=ka.fr (Fr.of_below (F:=fun _=>False) hb) (fun e=>e)
 exact ⟨fun k hk=>.inl hk,H.tab.up b1,H.box.fr f1 (fun e=>e),hk,ka1,(H.ref.below b1 H.hB).mono (fun k _ q=>.inl q),f1.mono (fun _ _ e=>e.elim),.inr ⟨b0.size,hk.lt⟩,.inr ⟨Nat.le_refl _,ka1.lt⟩,ka.lt,H.xg,H.tab.lt,H.xb,H.hg,H.hB⟩
theorem expire_xi {X:Nat->Prop} {w:World} {p:Nat} {c:Conf} {last now:Int} {L:List SubP} (H:TbX X w p c last L):Calls Tryz.prog 19 #[.pointer (some ⟨p,0,none⟩),.int .i64 now] w fun e w'=>(∃ A k,e=.returned (.slice A (goneS L now).length k)/\RdV w' 3 1 (goneS L now).length (.slice A (goneS L now).length k) ((goneS L now).map (.int .i64)))/\TbTo X p c last (expS L now) w w'/\∀ n u xs,RdV w 3 1 n u xs->RdV w' 3 1 n u xs:=by
 obtain ⟨F,hs,hF⟩:=H.ex
 refine (ssexpire_any hs).mono ?_
 rintro e w' ⟨v,rfl,ho,ht⟩
 have h9:=RdV.of_own ho
 obtain ⟨A,k,rfl,hq⟩:=id h9
 refine ⟨⟨A,k,rfl,h9⟩,ht.x hs hF H.lt,fun n u xs hr=>?_⟩
 obtain ⟨F',_,hf,_⟩:=ht
 exact hr.fr hf (fun b ds fr hb=>hs.notT hb (by decide) (by decide) (by decide) (by decide) (by decide))
set_option maxRecDepth 100000 in
set_option maxHeartbeats 16000000 in
theorem does0_any {X:Nat->Prop} {w:World} {p g:Nat} {c:Conf} {last last':Int} {L L':List SubP} {B:Nat} {v:Value} {a:ActN} {q:RqV} (H:Do9H X w p g c last last' L L' B v a q) (hk:a.kind=0) :
 Calls Tryz.prog 23 #[.pointer (some ⟨p,0,none⟩),.pointer (some ⟨g,0,none⟩),.agg (actN a q)] w (Do9Post X w p g c last last' L L' B a):=by
 obtain ⟨w0,hw0⟩:∃ w0,w.alloc (.cells (actN a q) 67)=w0:=⟨_,rfl⟩
 have hb0:Below w.heap.size w w0:=hw0▸(Below.refl _ _).alloc (Nat.le_refl _) _
 obtain ⟨A,nv,cp,rfl⟩:∃ A nv cp,v=.slice A nv cp:=by
  obtain ⟨xs,A,cp,_,e,_⟩:=H.ref
  exact ⟨A,xs.length,cp,e⟩
 have HH:=hid H
 have HRC:Hid (rightB c=true):=hid (by obtain ⟨l,Q⟩:=H.tab.sbq;exact Q.right)
 have HZR:Hid (∀ s∈L,SubZ s):=hid (by obtain ⟨l,Q⟩:=H.tab.sbq;exact Q.z)
 have HK0:=hid (H.box.fr (Fr.of_below (F:=fun _=>False) hb0) (fun e=>e))
 have HST:=hid (fun w1 hb hk=>H.start (w1:=w1) hw0 hb hk)
 have HS0:Hid (w.heap.size<w0.heap.size):=hid (by rw [<-hw0];simp)
 clear hb0 H
 go_enter Tryz.func23,Tryz.ntmps23
 go_upto_region 1 with (fail)
 try rw [hw0]
 clear hw0
 generalize hq0:Value.agg (actN a q)=q0
 clear hq0
 go_upto_region 2 with (first|(refine wpl_load rfl 71 (.tmp 28) rfl g 0 rfl HK0.out (rtV c last' (.slice A nv cp)).toList rfl _ Tryz.underlying71 rfl (by kernel_rfl) ?_)|(refine wpl_store rfl 71 (.tmp 7) (.tmp 29) rfl w0.heap.size 0 rfl (rtV c last' (.slice A nv cp)) rfl (rt_blk0 w0) (Nat.le_refl 9) (rtV c last' (.slice A nv cp)) rfl (by kernel_rfl) (rtV_one rfl) ?_;intro w1 hk1 hf1))
 have b1:Below w0.heap.size w0 w1:=((Below.refl w0.heap.size w0).alloc (Nat.le_refl _) _).trans (hf1.to_below (by simp) (fun k e=>by omega))
 have HZ1:=hid (HST.out w1 b1 hk1)
 have c0:w1.cell? ⟨w.heap.size,0,none⟩=some (.int .i64 a.kind):=HZ1.out.act.cell 0
 clear b1 hk1 hf1 HK0 HST
 have HEK:Hid (∀ last L,doS c last L a=_):=hid (fun last L=>doS0 (c:=c) (last:=last) (L:=L) hk)
 rw [hk] at c0
 clear hk
 go_upto_region 5 with (fail)
 have HS:Hid (∀ W,Below w1.heap.size w1 W->W.rangeAt g 0 (rtV c last' (.slice A nv cp)).toList/\W.rangeAt w.heap.size 5 (reqA a.r q).toList/\W.cell? ⟨w.heap.size,1,none⟩=some (.int .i64 a.now)/\W.cell? ⟨w.heap.size,4,none⟩=some (.string (str a.text))/\W.cell? ⟨w.heap.size,3,none⟩=some (.int .i64 a.state)):=hid (fun W hW=>by have h9:=HZ1.out.below hW;exact ⟨blk_range (off:=0) h9.bg rfl,blk_range (off:=5) h9.act rfl,h9.act.cell 1,h9.act.cell 4,h9.act.cell 3⟩)
 have HC:Hid (∀ W,Below w1.heap.size w1 W->Calls Tryz.prog 51 #[.agg (rtV c last' (.slice A nv cp)),.int .i64 a.now,.agg (reqA a.r q),.string ⟨#[97,64,98]⟩,.string (str a.text),.int .i64 a.state,.string (str a.text)] W (RbgPost (XUp X w w1) B c (begS c last' L' a.now a.r abT a.text a.state a.text).last (begS c last' L' a.now a.r abT a.text a.state a.text) W)):=hid (fun W hW=>by
  have h9:=HZ1.out.below hW
  exact rtbegin_any h9.ref h9.hBW (by have:=HH.out.ln;omega) HH.out.la0 HH.out.la1 HRC.out (HH.out.rq.below h9.bw) HH.out.rz HH.out.tx)
 unfold RbgPost at HC
 have HW1:Hid (Below w1.heap.size w1 w1.drew):=hid (Below.refl _ _).drew
 clear c0
 go_cut [9,10,11] (fun p9 p10 p11 wx=>Mid0 (XUp X w w1) w1 B c (begS c last' L' a.now a.r abT a.text a.state a.text).last (begS c last' L' a.now a.r abT a.text a.state a.text) p9 p10 p11 wx)
 case first =>
  refine wp_region_noPanic (rgn HS.out HW1.out fun hHeld=>?_)
  refine tk 0 ?_
  refine tk 1 ?_
  refine tkm 2 (rtV c last' (.slice A nv cp)) (g) 0 (fun wq hSw=>hSw.1) Tryz.underlying71 ?_
  refine tk 3 ?_
  refine tk 4 ?_
  refine tk 5 ?_
  refine tkm 6 (reqA a.r q) (w.heap.size) 5 (fun wq hSw=>hSw.2.1) Tryz.underlying45 ?_
  refine tk 7 ?_
  refine tk 8 ?_
  refine tk 9 ?_
  refine tk 10 ?_
  refine tk 11 ?_
  refine tk 12 ?_
  have HSZD:Hid (w1.heap.size<=w1.drew.heap.size):=hid (Nat.le_refl _)
  generalize w1.drew=wd at *
  refine wpAnyH_ready (rs:=[13,18,19]) (by kernel_rfl) (by simp) ?_
  refine rdc (fun K hK=>?_) ?_
  .go_simp
   refine (HC.out _ HW1.out).mono ?_
   rintro e wc ⟨v5,sv,rfl,hr,hs,hb⟩
   have HYC:Hid (Below w1.heap.size w1 wc):=hid (HW1.out.trans (hb.mono HW1.out.size))
   have HCA:Hid (Cal (XUp X w w1) wd.heap.size wc.heap.size B (begS c last' L' a.now a.r abT a.text a.state a.text).L v5 (begS c last' L' a.now a.r abT a.text a.state a.text).sub sv wc):=hid (Cal.of hr hs (HZ1.out.below HW1.out).hBW hb)
   have HLO:Hid (w1.heap.size<=wd.heap.size/\wd.heap.size<=wc.heap.size):=hid ⟨HW1.out.size,hb.size⟩
   have HHI:Hid (wc.heap.size<=wc.heap.size):=hid (Nat.le_refl _)
   have HO5:Hid (v5.oneCell'=true):=hid hr.one
   clear hr hb hs
   go_wp2_with fail
   refine bk hK (HS.out _ HYC.out) fun hHeld=>?_
   clear hK K
   refine tk 14 ?_
   refine tk 15 ?_
   refine tk 16 ?_
   refine tk 17 ?_
   refine wpAnyH_ready (rs:=[18,19]) (by kernel_rfl) (by simp) ?_
   refine rdc (fun K hK=>?_) ?_
   .go_simp
    have hb:Below wc.heap.size wc (wc.alloc (.cells rt0 71)):=(Below.refl _ _).alloc (Nat.le_refl _) _
    have hz:Blk (wc.alloc (.cells rt0 71)) wc.heap.size 71 rt0:=rt_blk0 wc
    obtain ⟨ub0,hu⟩:∃ u,wc.alloc (.cells rt0 71)=u:=⟨_,rfl⟩
    rw [hu] at hb hz
    unfold rt0 at hu
    rw [hu]
    clear hu
    obtain ⟨b0,hb0⟩:∃ b,wc.heap.size=b:=⟨_,rfl⟩
    have HBB0:=hid hb0
    rw [hb0] at hz ⊢
    have H0:=hid hz
    have HL0:Hid (w1.heap.size<=b0):=hid (by rw [<-hb0];exact HYC.out.size)
    have HYA0:Hid (Below w1.heap.size w1 ub0):=hid (HYC.out.trans (hb.mono HYC.out.size))
    have HO0:Hid (b0<wd.heap.size\/wc.heap.size<=b0):=hid (.inr (by rw [<-hb0];exact HHI.out))
    have HHI:Hid (wc.heap.size<=ub0.heap.size):=hid (Nat.le_trans HHI.out hb.size)
    have HCA:=hid (HCA.out.below hb)
    clear hb hz hb0
    refine bk hK (HS.out _ HYA0.out) fun hHeld=>?_
    clear hK K
    refine wpAnyH_ready (rs:=[19]) (by kernel_rfl) (by simp) ?_
    refine rdc (fun K hK=>?_) ?_
    .go_simp
     have hb:Below ub0.heap.size ub0 (ub0.alloc (.cells sub0 39)):=(Below.refl _ _).alloc (Nat.le_refl _) _
     have hz:Blk (ub0.alloc (.cells sub0 39)) ub0.heap.size 39 sub0:=sub_blk0 ub0
     obtain ⟨ub1,hu⟩:∃ u,ub0.alloc (.cells sub0 39)=u:=⟨_,rfl⟩
     rw [hu] at hb hz
     unfold sub0 at hu
     rw [hu]
     clear hu
     obtain ⟨b1,hb1⟩:∃ b,ub0.heap.size=b:=⟨_,rfl⟩
     have HBB1:=hid hb1
     rw [hb1] at hz ⊢
     have H1:=hid hz
     have HL1:Hid (w1.heap.size<=b1):=hid (by rw [<-hb1];exact HYA0.out.size)
     have HYA1:Hid (Below w1.heap.size w1 ub1):=hid (HYA0.out.trans (hb.mono HYA0.out.size))
     have HNE:Hid (b0≠b1):=hid (by have h9:=H0.out.lt;rw [hb1] at h9;omega)
     have H0:=hid (H0.out.fr (Fr.of_below (F:=fun _=>False) hb) (fun e=>e))
     have HO1:Hid (b1<wd.heap.size\/wc.heap.size<=b1):=hid (.inr (by rw [<-hb1];exact HHI.out))
     have HHI:Hid (wc.heap.size<=ub1.heap.size):=hid (Nat.le_trans HHI.out hb.size)
     have HCA:=hid (HCA.out.below hb)
     clear hb hz hb1
     refine bk hK (HS.out _ HYA1.out) fun hHeld=>?_
     clear hK K
     refine rd1 20 fun K hK=>?_
     refine stg 71 (.tmp 9) (.tmp 49) (b0) (rtV c (begS c last' L' a.now a.r abT a.text a.state a.text).last v5) (H0.out) (rtV_one HO5.out) ?_
     intro ua hkz hf
     have HF_ua:=hid hf
     have HK_ua:=hid hkz
     clear hf hkz
     have HYU:Hid (Below w1.heap.size w1 ua):=hid (HYA1.out.trans (HF_ua.out.to_below HYA1.out.size (fun k e=>by have:=HL0.out;omega)))
     have HCB:=hid (HCA.out.put HF_ua.out H0.out (by decide) (by decide) (by have:=HL0.out;have:=HZ1.out.tab.lt;intro e;have:=this _ e;omega) HO0.out (by have:=HL0.out;have:=HZ1.out.hBW;omega))
     have H1:=hid (H1.out.fr HF_ua.out (fun e=>HNE.out e.symm))
     refine bk hK (HS.out _ HYU.out) fun hHeld=>?_
     clear hK K
     refine rd1 21 fun K hK=>?_
     refine stg 39 (.tmp 10) (.tmp 50) (b1) (subA (begS c last' L' a.now a.r abT a.text a.state a.text).sub sv) (H1.out) (subA_one HCA.out.s.ev.one HCA.out.s.d.one) ?_
     intro uv hkz hf
     have HF_uv:=hid hf
     have HK_uv:=hid hkz
     clear hf hkz
     have HYV:Hid (Below w1.heap.size w1 uv):=hid (HYU.out.trans (HF_uv.out.to_below HYU.out.size (fun k e=>by have:=HL1.out;omega)))
     have HCD:=hid (HCB.out.put HF_uv.out H1.out (by decide) (by decide) (by have:=HL1.out;have:=HZ1.out.tab.lt;intro e;have:=this _ e;omega) HO1.out (by have:=HL1.out;have:=HZ1.out.hBW;omega))
     refine bk hK (HS.out _ HYV.out) fun hHeld=>?_
     clear hK K
     refine tk 22 ?_
     refine dn9 (NoPanic.normal ?_)
     clear hHeld
     go_wp2_with fail
     go_meet
     exact ⟨b0,b1,v5,sv,rfl,rfl,rfl,HK_ua.out.fr HF_uv.out (fun e=>HNE.out e),HK_uv.out,HL0.out,HL1.out,HCD.out.r.mono (fun k hk q=>q.imp id (fun q=>⟨by have:=HLO.out;omega,hk⟩)),HCD.out.s,HYV.out⟩
    exact AllReadyH.nil
   refine rdc (fun K hK=>?_) ?_
   .go_simp
    have hb:Below wc.heap.size wc (wc.alloc (.cells sub0 39)):=(Below.refl _ _).alloc (Nat.le_refl _) _
    have hz:Blk (wc.alloc (.cells sub0 39)) wc.heap.size 39 sub0:=sub_blk0 wc
    obtain ⟨ub1,hu⟩:∃ u,wc.alloc (.cells sub0 39)=u:=⟨_,rfl⟩
    rw [hu] at hb hz
    unfold sub0 at hu
    rw [hu]
    clear hu
    obtain ⟨b1,hb1⟩:∃ b,wc.heap.size=b:=⟨_,rfl⟩
    have HBB1:=hid hb1
    rw [hb1] at hz ⊢
    have H1:=hid hz
    have HL1:Hid (w1.heap.size<=b1):=hid (by rw [<-hb1];exact HYC.out.size)
    have HYA1:Hid (Below w1.heap.size w1 ub1):=hid (HYC.out.trans (hb.mono HYC.out.size))
    have HO1:Hid (b1<wd.heap.size\/wc.heap.size<=b1):=hid (.inr (by rw [<-hb1];exact HHI.out))
    have HHI:Hid (wc.heap.size<=ub1.heap.size):=hid (Nat.le_trans HHI.out hb.size)
    have HCA:=hid (HCA.out.below hb)
    clear hb hz hb1
    refine bk hK (HS.out _ HYA1.out) fun hHeld=>?_
    clear hK K
    refine wpAnyH_ready (rs:=[18]) (by kernel_rfl) (by simp) ?_
    refine rdc (fun K hK=>?_) ?_
    .go_simp
     have hb:Below ub1.heap.size ub1 (ub1.alloc (.cells rt0 71)):=(Below.refl _ _).alloc (Nat.le_refl _) _
     have hz:Blk (ub1.alloc (.cells rt0 71)) ub1.heap.size 71 rt0:=rt_blk0 ub1
     obtain ⟨ub0,hu⟩:∃ u,ub1.alloc (.cells rt0 71)=u:=⟨_,rfl⟩
     rw [hu] at hb hz
     unfold rt0 at hu
     rw [hu]
     clear hu
     obtain ⟨b0,hb0⟩:∃ b,ub1.heap.size=b:=⟨_,rfl⟩
     have HBB0:=hid hb0
     rw [hb0] at hz ⊢
     have H0:=hid hz
     have HL0:Hid (w1.heap.size<=b0):=hid (by rw [<-hb0];exact HYA1.out.size)
     have HYA0:Hid (Below w1.heap.size w1 ub0):=hid (HYA1.out.trans (hb.mono HYA1.out.size))
     have HNE:Hid (b0≠b1):=hid (by have h9:=H1.out.lt;rw [hb0] at h9;omega)
     have H1:=hid (H1.out.fr (Fr.of_below (F:=fun _=>False) hb) (fun e=>e))
     have HO0:Hid (b0<wd.heap.size\/wc.heap.size<=b0):=hid (.inr (by rw [<-hb0];exact HHI.out))
     have HHI:Hid (wc.heap.size<=ub0.heap.size):=hid (Nat.le_trans HHI.out hb.size)
     have HCA:=hid (HCA.out.below hb)
     clear hb hz hb0
     refine bk hK (HS.out _ HYA0.out) fun hHeld=>?_
     clear hK K
     refine rd1 20 fun K hK=>?_
     refine stg 71 (.tmp 9) (.tmp 49) (b0) (rtV c (begS c last' L' a.now a.r abT a.text a.state a.text).last v5) (H0.out) (rtV_one HO5.out) ?_
     intro ua hkz hf
     have HF_ua:=hid hf
     have HK_ua:=hid hkz
     clear hf hkz
     have HYU:Hid (Below w1.heap.size w1 ua):=hid (HYA0.out.trans (HF_ua.out.to_below HYA0.out.size (fun k e=>by have:=HL0.out;omega)))
     have HCB:=hid (HCA.out.put HF_ua.out H0.out (by decide) (by decide) (by have:=HL0.out;have:=HZ1.out.tab.lt;intro e;have:=this _ e;omega) HO0.out (by have:=HL0.out;have:=HZ1.out.hBW;omega))
     have H1:=hid (H1.out.fr HF_ua.out (fun e=>HNE.out e.symm))
     refine bk hK (HS.out _ HYU.out) fun hHeld=>?_
     clear hK K
     refine rd1 21 fun K hK=>?_
     refine stg 39 (.tmp 10) (.tmp 50) (b1) (subA (begS c last' L' a.now a.r abT a.text a.state a.text).sub sv) (H1.out) (subA_one HCA.out.s.ev.one HCA.out.s.d.one) ?_
     intro uv hkz hf
     have HF_uv:=hid hf
     have HK_uv:=hid hkz
     clear hf hkz
     have HYV:Hid (Below w1.heap.size w1 uv):=hid (HYU.out.trans (HF_uv.out.to_below HYU.out.size (fun k e=>by have:=HL1.out;omega)))
     have HCD:=hid (HCB.out.put HF_uv.out H1.out (by decide) (by decide) (by have:=HL1.out;have:=HZ1.out.tab.lt;intro e;have:=this _ e;omega) HO1.out (by have:=HL1.out;have:=HZ1.out.hBW;omega))
     refine bk hK (HS.out _ HYV.out) fun hHeld=>?_
     clear hK K
     refine tk 22 ?_
     refine dn9 (NoPanic.normal ?_)
     clear hHeld
     go_wp2_with fail
     go_meet
     exact ⟨b0,b1,v5,sv,rfl,rfl,rfl,HK_ua.out.fr HF_uv.out (fun e=>HNE.out e),HK_uv.out,HL0.out,HL1.out,HCD.out.r.mono (fun k hk q=>q.imp id (fun q=>⟨by have:=HLO.out;omega,hk⟩)),HCD.out.s,HYV.out⟩
    exact AllReadyH.nil
   exact AllReadyH.nil
  refine rdc (fun K hK=>?_) ?_
  .go_simp
   have hb:Below wd.heap.size wd (wd.alloc (.cells rt0 71)):=(Below.refl _ _).alloc (Nat.le_refl _) _
   have hz:Blk (wd.alloc (.cells rt0 71)) wd.heap.size 71 rt0:=rt_blk0 wd
   obtain ⟨ub0,hu⟩:∃ u,wd.alloc (.cells rt0 71)=u:=⟨_,rfl⟩
   rw [hu] at hb hz
   unfold rt0 at hu
   rw [hu]
   clear hu
   obtain ⟨b0,hb0⟩:∃ b,wd.heap.size=b:=⟨_,rfl⟩
   have HBB0:=hid hb0
   rw [hb0] at hz ⊢
   have H0:=hid hz
   have HL0:Hid (w1.heap.size<=b0):=hid (by rw [<-hb0];exact HW1.out.size)
   have HYA0:Hid (Below w1.heap.size w1 ub0):=hid (HW1.out.trans (hb.mono HW1.out.size))
   clear hb hz hb0
   refine bk hK (HS.out _ HYA0.out) fun hHeld=>?_
   clear hK K
   refine wpAnyH_ready (rs:=[13,19]) (by kernel_rfl) (by simp) ?_
   refine rdc (fun K hK=>?_) ?_
   .go_simp
    refine (HC.out _ HYA0.out).mono ?_
    rintro e wc ⟨v5,sv,rfl,hr,hs,hb⟩
    have HYC:Hid (Below w1.heap.size w1 wc):=hid (HYA0.out.trans (hb.mono HYA0.out.size))
    have HCA:Hid (Cal (XUp X w w1) ub0.heap.size wc.heap.size B (begS c last' L' a.now a.r abT a.text a.state a.text).L v5 (begS c last' L' a.now a.r abT a.text a.state a.text).sub sv wc):=hid (Cal.of hr hs (HZ1.out.below HYA0.out).hBW hb)
    have HLO:Hid (w1.heap.size<=ub0.heap.size/\ub0.heap.size<=wc.heap.size):=hid ⟨HYA0.out.size,hb.size⟩
    have HHI:Hid (wc.heap.size<=wc.heap.size):=hid (Nat.le_refl _)
    have HO5:Hid (v5.oneCell'=true):=hid hr.one
    have HO0:Hid (b0<ub0.heap.size\/wc.heap.size<=b0):=hid (.inl H0.out.lt)
    have H0:=hid (H0.out.fr (Fr.of_below (F:=fun _=>False) hb) (fun e=>e))
    clear hr hb hs
    go_wp2_with fail
    refine bk hK (HS.out _ HYC.out) fun hHeld=>?_
    clear hK K
    refine tk 14 ?_
    refine tk 15 ?_
    refine tk 16 ?_
    refine tk 17 ?_
    refine wpAnyH_ready (rs:=[19]) (by kernel_rfl) (by simp) ?_
    refine rdc (fun K hK=>?_) ?_
    .go_simp
     have hb:Below wc.heap.size wc (wc.alloc (.cells sub0 39)):=(Below.refl _ _).alloc (Nat.le_refl _) _
     have hz:Blk (wc.alloc (.cells sub0 39)) wc.heap.size 39 sub0:=sub_blk0 wc
     obtain ⟨ub1,hu⟩:∃ u,wc.alloc (.cells sub0 39)=u:=⟨_,rfl⟩
     rw [hu] at hb hz
     unfold sub0 at hu
     rw [hu]
     clear hu
     obtain ⟨b1,hb1⟩:∃ b,wc.heap.size=b:=⟨_,rfl⟩
     have HBB1:=hid hb1
     rw [hb1] at hz ⊢
     have H1:=hid hz
     have HL1:Hid (w1.heap.size<=b1):=hid (by rw [<-hb1];exact HYC.out.size)
     have HYA1:Hid (Below w1.heap.size w1 ub1):=hid (HYC.out.trans (hb.mono HYC.out.size))
     have HNE:Hid (b0≠b1):=hid (by have h9:=H0.out.lt;rw [hb1] at h9;omega)
     have H0:=hid (H0.out.fr (Fr.of_below (F:=fun _=>False) hb) (fun e=>e))
     have HO1:Hid (b1<ub0.heap.size\/wc.heap.size<=b1):=hid (.inr (by rw [<-hb1];exact HHI.out))
     have HHI:Hid (wc.heap.size<=ub1.heap.size):=hid (Nat.le_trans HHI.out hb.size)
     have HCA:=hid (HCA.out.below hb)
     clear hb hz hb1
     refine bk hK (HS.out _ HYA1.out) fun hHeld=>?_
     clear hK K
     refine rd1 20 fun K hK=>?_
     refine stg 71 (.tmp 9) (.tmp 49) (b0) (rtV c (begS c last' L' a.now a.r abT a.text a.state a.text).last v5) (H0.out) (rtV_one HO5.out) ?_
     intro ua hkz hf
     have HF_ua:=hid hf
     have HK_ua:=hid hkz
     clear hf hkz
     have HYU:Hid (Below w1.heap.size w1 ua):=hid (HYA1.out.trans (HF_ua.out.to_below HYA1.out.size (fun k e=>by have:=HL0.out;omega)))
     have HCB:=hid (HCA.out.put HF_ua.out H0.out (by decide) (by decide) (by have:=HL0.out;have:=HZ1.out.tab.lt;intro e;have:=this _ e;omega) HO0.out (by have:=HL0.out;have:=HZ1.out.hBW;omega))
     have H1:=hid (H1.out.fr HF_ua.out (fun e=>HNE.out e.symm))
     refine bk hK (HS.out _ HYU.out) fun hHeld=>?_
     clear hK K
     refine rd1 21 fun K hK=>?_
     refine stg 39 (.tmp 10) (.tmp 50) (b1) (subA (begS c last' L' a.now a.r abT a.text a.state a.text).sub sv) (H1.out) (subA_one HCA.out.s.ev.one HCA.out.s.d.one) ?_
     intro uv hkz hf
     have HF_uv:=hid hf
     have HK_uv:=hid hkz
     clear hf hkz
     have HYV:Hid (Below w1.heap.size w1 uv):=hid (HYU.out.trans (HF_uv.out.to_below HYU.out.size (fun k e=>by have:=HL1.out;omega)))
     have HCD:=hid (HCB.out.put HF_uv.out H1.out (by decide) (by decide) (by have:=HL1.out;have:=HZ1.out.tab.lt;intro e;have:=this _ e;omega) HO1.out (by have:=HL1.out;have:=HZ1.out.hBW;omega))
     refine bk hK (HS.out _ HYV.out) fun hHeld=>?_
     clear hK K
     refine tk 22 ?_
     refine dn9 (NoPanic.normal ?_)
     clear hHeld
     go_wp2_with fail
     go_meet
     exact ⟨b0,b1,v5,sv,rfl,rfl,rfl,HK_ua.out.fr HF_uv.out (fun e=>HNE.out e),HK_uv.out,HL0.out,HL1.out,HCD.out.r.mono (fun k hk q=>q.imp id (fun q=>⟨by have:=HLO.out;omega,hk⟩)),HCD.out.s,HYV.out⟩
    exact AllReadyH.nil
   refine rdc (fun K hK=>?_) ?_
   .go_simp
    have hb:Below ub0.heap.size ub0 (ub0.alloc (.cells sub0 39)):=(Below.refl _ _).alloc (Nat.le_refl _) _
    have hz:Blk (ub0.alloc (.cells sub0 39)) ub0.heap.size 39 sub0:=sub_blk0 ub0
    obtain ⟨ub1,hu⟩:∃ u,ub0.alloc (.cells sub0 39)=u:=⟨_,rfl⟩
    rw [hu] at hb hz
    unfold sub0 at hu
    rw [hu]
    clear hu
    obtain ⟨b1,hb1⟩:∃ b,ub0.heap.size=b:=⟨_,rfl⟩
    have HBB1:=hid hb1
    rw [hb1] at hz ⊢
    have H1:=hid hz
    have HL1:Hid (w1.heap.size<=b1):=hid (by rw [<-hb1];exact HYA0.out.size)
    have HYA1:Hid (Below w1.heap.size w1 ub1):=hid (HYA0.out.trans (hb.mono HYA0.out.size))
    have HNE:Hid (b0≠b1):=hid (by have h9:=H0.out.lt;rw [hb1] at h9;omega)
    have H0:=hid (H0.out.fr (Fr.of_below (F:=fun _=>False) hb) (fun e=>e))
    clear hb hz hb1
    refine bk hK (HS.out _ HYA1.out) fun hHeld=>?_
    clear hK K
    refine wpAnyH_ready (rs:=[13]) (by kernel_rfl) (by simp) ?_
    refine rdc (fun K hK=>?_) ?_
    .go_simp
     refine (HC.out _ HYA1.out).mono ?_
     rintro e wc ⟨v5,sv,rfl,hr,hs,hb⟩
     have HYC:Hid (Below w1.heap.size w1 wc):=hid (HYA1.out.trans (hb.mono HYA1.out.size))
     have HCA:Hid (Cal (XUp X w w1) ub1.heap.size wc.heap.size B (begS c last' L' a.now a.r abT a.text a.state a.text).L v5 (begS c last' L' a.now a.r abT a.text a.state a.text).sub sv wc):=hid (Cal.of hr hs (HZ1.out.below HYA1.out).hBW hb)
     have HLO:Hid (w1.heap.size<=ub1.heap.size/\ub1.heap.size<=wc.heap.size):=hid ⟨HYA1.out.size,hb.size⟩
     have HHI:Hid (wc.heap.size<=wc.heap.size):=hid (Nat.le_refl _)
     have HO5:Hid (v5.oneCell'=true):=hid hr.one
     have HO0:Hid (b0<ub1.heap.size\/wc.heap.size<=b0):=hid (.inl H0.out.lt)
     have H0:=hid (H0.out.fr (Fr.of_below (F:=fun _=>False) hb) (fun e=>e))
     have HO1:Hid (b1<ub1.heap.size\/wc.heap.size<=b1):=hid (.inl H1.out.lt)
     have H1:=hid (H1.out.fr (Fr.of_below (F:=fun _=>False) hb) (fun e=>e))
     clear hr hb hs
     go_wp2_with fail
     refine bk hK (HS.out _ HYC.out) fun hHeld=>?_
     clear hK K
     refine tk 14 ?_
     refine tk 15 ?_
     refine tk 16 ?_
     refine tk 17 ?_
     refine rd1 20 fun K hK=>?_
     refine stg 71 (.tmp 9) (.tmp 49) (b0) (rtV c (begS c last' L' a.now a.r abT a.text a.state a.text).last v5) (H0.out) (rtV_one HO5.out) ?_
     intro ua hkz hf
     have HF_ua:=hid hf
     have HK_ua:=hid hkz
     clear hf hkz
     have HYU:Hid (Below w1.heap.size w1 ua):=hid (HYC.out.trans (HF_ua.out.to_below HYC.out.size (fun k e=>by have:=HL0.out;omega)))
     have HCB:=hid (HCA.out.put HF_ua.out H0.out (by decide) (by decide) (by have:=HL0.out;have:=HZ1.out.tab.lt;intro e;have:=this _ e;omega) HO0.out (by have:=HL0.out;have:=HZ1.out.hBW;omega))
     have H1:=hid (H1.out.fr HF_ua.out (fun e=>HNE.out e.symm))
     refine bk hK (HS.out _ HYU.out) fun hHeld=>?_
     clear hK K
     refine rd1 21 fun K hK=>?_
     refine stg 39 (.tmp 10) (.tmp 50) (b1) (subA (begS c last' L' a.now a.r abT a.text a.state a.text).sub sv) (H1.out) (subA_one HCA.out.s.ev.one HCA.out.s.d.one) ?_
     intro uv hkz hf
     have HF_uv:=hid hf
     have HK_uv:=hid hkz
     clear hf hkz
     have HYV:Hid (Below w1.heap.size w1 uv):=hid (HYU.out.trans (HF_uv.out.to_below HYU.out.size (fun k e=>by have:=HL1.out;omega)))
     have HCD:=hid (HCB.out.put HF_uv.out H1.out (by decide) (by decide) (by have:=HL1.out;have:=HZ1.out.tab.lt;intro e;have:=this _ e;omega) HO1.out (by have:=HL1.out;have:=HZ1.out.hBW;omega))
     refine bk hK (HS.out _ HYV.out) fun hHeld=>?_
     clear hK K
     refine tk 22 ?_
     refine dn9 (NoPanic.normal ?_)
     clear hHeld
     go_wp2_with fail
     go_meet
     exact ⟨b0,b1,v5,sv,rfl,rfl,rfl,HK_ua.out.fr HF_uv.out (fun e=>HNE.out e),HK_uv.out,HL0.out,HL1.out,HCD.out.r.mono (fun k hk q=>q.imp id (fun q=>⟨by have:=HLO.out;omega,hk⟩)),HCD.out.s,HYV.out⟩
    exact AllReadyH.nil
   exact AllReadyH.nil
  refine rdc (fun K hK=>?_) ?_
  .go_simp
   have hb:Below wd.heap.size wd (wd.alloc (.cells sub0 39)):=(Below.refl _ _).alloc (Nat.le_refl _) _
   have hz:Blk (wd.alloc (.cells sub0 39)) wd.heap.size 39 sub0:=sub_blk0 wd
   obtain ⟨ub1,hu⟩:∃ u,wd.alloc (.cells sub0 39)=u:=⟨_,rfl⟩
   rw [hu] at hb hz
   unfold sub0 at hu
   rw [hu]
   clear hu
   obtain ⟨b1,hb1⟩:∃ b,wd.heap.size=b:=⟨_,rfl⟩
   have HBB1:=hid hb1
   rw [hb1] at hz ⊢
   have H1:=hid hz
   have HL1:Hid (w1.heap.size<=b1):=hid (by rw [<-hb1];exact HW1.out.size)
   have HYA1:Hid (Below w1.heap.size w1 ub1):=hid (HW1.out.trans (hb.mono HW1.out.size))
   clear hb hz hb1
   refine bk hK (HS.out _ HYA1.out) fun hHeld=>?_
   clear hK K
   refine wpAnyH_ready (rs:=[13,18]) (by kernel_rfl) (by simp) ?_
   refine rdc (fun K hK=>?_) ?_
   .go_simp
    refine (HC.out _ HYA1.out).mono ?_
    rintro e wc ⟨v5,sv,rfl,hr,hs,hb⟩
    have HYC:Hid (Below w1.heap.size w1 wc):=hid (HYA1.out.trans (hb.mono HYA1.out.size))
    have HCA:Hid (Cal (XUp X w w1) ub1.heap.size wc.heap.size B (begS c last' L' a.now a.r abT a.text a.state a.text).L v5 (begS c last' L' a.now a.r abT a.text a.state a.text).sub sv wc):=hid (Cal.of hr hs (HZ1.out.below HYA1.out).hBW hb)
    have HLO:Hid (w1.heap.size<=ub1.heap.size/\ub1.heap.size<=wc.heap.size):=hid ⟨HYA1.out.size,hb.size⟩
    have HHI:Hid (wc.heap.size<=wc.heap.size):=hid (Nat.le_refl _)
    have HO5:Hid (v5.oneCell'=true):=hid hr.one
    have HO1:Hid (b1<ub1.heap.size\/wc.heap.size<=b1):=hid (.inl H1.out.lt)
    have H1:=hid (H1.out.fr (Fr.of_below (F:=fun _=>False) hb) (fun e=>e))
    clear hr hb hs
    go_wp2_with fail
    refine bk hK (HS.out _ HYC.out) fun hHeld=>?_
    clear hK K
    refine tk 14 ?_
    refine tk 15 ?_
    refine tk 16 ?_
    refine tk 17 ?_
    refine wpAnyH_ready (rs:=[18]) (by kernel_rfl) (by simp) ?_
    refine rdc (fun K hK=>?_) ?_
    .go_simp
     have hb:Below wc.heap.size wc (wc.alloc (.cells rt0 71)):=(Below.refl _ _).alloc (Nat.le_refl _) _
     have hz:Blk (wc.alloc (.cells rt0 71)) wc.heap.size 71 rt0:=rt_blk0 wc
     obtain ⟨ub0,hu⟩:∃ u,wc.alloc (.cells rt0 71)=u:=⟨_,rfl⟩
     rw [hu] at hb hz
     unfold rt0 at hu
     rw [hu]
     clear hu
     obtain ⟨b0,hb0⟩:∃ b,wc.heap.size=b:=⟨_,rfl⟩
     have HBB0:=hid hb0
     rw [hb0] at hz ⊢
     have H0:=hid hz
     have HL0:Hid (w1.heap.size<=b0):=hid (by rw [<-hb0];exact HYC.out.size)
     have HYA0:Hid (Below w1.heap.size w1 ub0):=hid (HYC.out.trans (hb.mono HYC.out.size))
     have HNE:Hid (b0≠b1):=hid (by have h9:=H1.out.lt;rw [hb0] at h9;omega)
     have H1:=hid (H1.out.fr (Fr.of_below (F:=fun _=>False) hb) (fun e=>e))
     have HO0:Hid (b0<ub1.heap.size\/wc.heap.size<=b0):=hid (.inr (by rw [<-hb0];exact HHI.out))
     have HHI:Hid (wc.heap.size<=ub0.heap.size):=hid (Nat.le_trans HHI.out hb.size)
     have HCA:=hid (HCA.out.below hb)
     clear hb hz hb0
     refine bk hK (HS.out _ HYA0.out) fun hHeld=>?_
     clear hK K
     refine rd1 20 fun K hK=>?_
     refine stg 71 (.tmp 9) (.tmp 49) (b0) (rtV c (begS c last' L' a.now a.r abT a.text a.state a.text).last v5) (H0.out) (rtV_one HO5.out) ?_
     intro ua hkz hf
     have HF_ua:=hid hf
     have HK_ua:=hid hkz
     clear hf hkz
     have HYU:Hid (Below w1.heap.size w1 ua):=hid (HYA0.out.trans (HF_ua.out.to_below HYA0.out.size (fun k e=>by have:=HL0.out;omega)))
     have HCB:=hid (HCA.out.put HF_ua.out H0.out (by decide) (by decide) (by have:=HL0.out;have:=HZ1.out.tab.lt;intro e;have:=this _ e;omega) HO0.out (by have:=HL0.out;have:=HZ1.out.hBW;omega))
     have H1:=hid (H1.out.fr HF_ua.out (fun e=>HNE.out e.symm))
     refine bk hK (HS.out _ HYU.out) fun hHeld=>?_
     clear hK K
     refine rd1 21 fun K hK=>?_
     refine stg 39 (.tmp 10) (.tmp 50) (b1) (subA (begS c last' L' a.now a.r abT a.text a.state a.text).sub sv) (H1.out) (subA_one HCA.out.s.ev.one HCA.out.s.d.one) ?_
     intro uv hkz hf
     have HF_uv:=hid hf
     have HK_uv:=hid hkz
     clear hf hkz
     have HYV:Hid (Below w1.heap.size w1 uv):=hid (HYU.out.trans (HF_uv.out.to_below HYU.out.size (fun k e=>by have:=HL1.out;omega)))
     have HCD:=hid (HCB.out.put HF_uv.out H1.out (by decide) (by decide) (by have:=HL1.out;have:=HZ1.out.tab.lt;intro e;have:=this _ e;omega) HO1.out (by have:=HL1.out;have:=HZ1.out.hBW;omega))
     refine bk hK (HS.out _ HYV.out) fun hHeld=>?_
     clear hK K
     refine tk 22 ?_
     refine dn9 (NoPanic.normal ?_)
     clear hHeld
     go_wp2_with fail
     go_meet
     exact ⟨b0,b1,v5,sv,rfl,rfl,rfl,HK_ua.out.fr HF_uv.out (fun e=>HNE.out e),HK_uv.out,HL0.out,HL1.out,HCD.out.r.mono (fun k hk q=>q.imp id (fun q=>⟨by have:=HLO.out;omega,hk⟩)),HCD.out.s,HYV.out⟩
    exact AllReadyH.nil
   refine rdc (fun K hK=>?_) ?_
   .go_simp
    have hb:Below ub1.heap.size ub1 (ub1.alloc (.cells rt0 71)):=(Below.refl _ _).alloc (Nat.le_refl _) _
    have hz:Blk (ub1.alloc (.cells rt0 71)) ub1.heap.size 71 rt0:=rt_blk0 ub1
    obtain ⟨ub0,hu⟩:∃ u,ub1.alloc (.cells rt0 71)=u:=⟨_,rfl⟩
    rw [hu] at hb hz
    unfold rt0 at hu
    rw [hu]
    clear hu
    obtain ⟨b0,hb0⟩:∃ b,ub1.heap.size=b:=⟨_,rfl⟩
    have HBB0:=hid hb0
    rw [hb0] at hz ⊢
    have H0:=hid hz
    have HL0:Hid (w1.heap.size<=b0):=hid (by rw [<-hb0];exact HYA1.out.size)
    have HYA0:Hid (Below w1.heap.size w1 ub0):=hid (HYA1.out.trans (hb.mono HYA1.out.size))
    have HNE:Hid (b0≠b1):=hid (by have h9:=H1.out.lt;rw [hb0] at h9;omega)
    have H1:=hid (H1.out.fr (Fr.of_below (F:=fun _=>False) hb) (fun e=>e))
    clear hb hz hb0
    refine bk hK (HS.out _ HYA0.out) fun hHeld=>?_
    clear hK K
    refine wpAnyH_ready (rs:=[13]) (by kernel_rfl) (by simp) ?_
    refine rdc (fun K hK=>?_) ?_
    .go_simp
     refine (HC.out _ HYA0.out).mono ?_
     rintro e wc ⟨v5,sv,rfl,hr,hs,hb⟩
     have HYC:Hid (Below w1.heap.size w1 wc):=hid (HYA0.out.trans (hb.mono HYA0.out.size))
     have HCA:Hid (Cal (XUp X w w1) ub0.heap.size wc.heap.size B (begS c last' L' a.now a.r abT a.text a.state a.text).L v5 (begS c last' L' a.now a.r abT a.text a.state a.text).sub sv wc):=hid (Cal.of hr hs (HZ1.out.below HYA0.out).hBW hb)
     have HLO:Hid (w1.heap.size<=ub0.heap.size/\ub0.heap.size<=wc.heap.size):=hid ⟨HYA0.out.size,hb.size⟩
     have HHI:Hid (wc.heap.size<=wc.heap.size):=hid (Nat.le_refl _)
     have HO5:Hid (v5.oneCell'=true):=hid hr.one
     have HO1:Hid (b1<ub0.heap.size\/wc.heap.size<=b1):=hid (.inl H1.out.lt)
     have H1:=hid (H1.out.fr (Fr.of_below (F:=fun _=>False) hb) (fun e=>e))
     have HO0:Hid (b0<ub0.heap.size\/wc.heap.size<=b0):=hid (.inl H0.out.lt)
     have H0:=hid (H0.out.fr (Fr.of_below (F:=fun _=>False) hb) (fun e=>e))
     clear hr hb hs
     go_wp2_with fail
     refine bk hK (HS.out _ HYC.out) fun hHeld=>?_
     clear hK K
     refine tk 14 ?_
     refine tk 15 ?_
     refine tk 16 ?_
     refine tk 17 ?_
     refine rd1 20 fun K hK=>?_
     refine stg 71 (.tmp 9) (.tmp 49) (b0) (rtV c (begS c last' L' a.now a.r abT a.text a.state a.text).last v5) (H0.out) (rtV_one HO5.out) ?_
     intro ua hkz hf
     have HF_ua:=hid hf
     have HK_ua:=hid hkz
     clear hf hkz
     have HYU:Hid (Below w1.heap.size w1 ua):=hid (HYC.out.trans (HF_ua.out.to_below HYC.out.size (fun k e=>by have:=HL0.out;omega)))
     have HCB:=hid (HCA.out.put HF_ua.out H0.out (by decide) (by decide) (by have:=HL0.out;have:=HZ1.out.tab.lt;intro e;have:=this _ e;omega) HO0.out (by have:=HL0.out;have:=HZ1.out.hBW;omega))
     have H1:=hid (H1.out.fr HF_ua.out (fun e=>HNE.out e.symm))
     refine bk hK (HS.out _ HYU.out) fun hHeld=>?_
     clear hK K
     refine rd1 21 fun K hK=>?_
     refine stg 39 (.tmp 10) (.tmp 50) (b1) (subA (begS c last' L' a.now a.r abT a.text a.state a.text).sub sv) (H1.out) (subA_one HCA.out.s.ev.one HCA.out.s.d.one) ?_
     intro uv hkz hf
     have HF_uv:=hid hf
     have HK_uv:=hid hkz
     clear hf hkz
     have HYV:Hid (Below w1.heap.size w1 uv):=hid (HYU.out.trans (HF_uv.out.to_below HYU.out.size (fun k e=>by have:=HL1.out;omega)))
     have HCD:=hid (HCB.out.put HF_uv.out H1.out (by decide) (by decide) (by have:=HL1.out;have:=HZ1.out.tab.lt;intro e;have:=this _ e;omega) HO1.out (by have:=HL1.out;have:=HZ1.out.hBW;omega))
     refine bk hK (HS.out _ HYV.out) fun hHeld=>?_
     clear hK K
     refine tk 22 ?_
     refine dn9 (NoPanic.normal ?_)
     clear hHeld
     go_wp2_with fail
     go_meet
     exact ⟨b0,b1,v5,sv,rfl,rfl,rfl,HK_ua.out.fr HF_uv.out (fun e=>HNE.out e),HK_uv.out,HL0.out,HL1.out,HCD.out.r.mono (fun k hk q=>q.imp id (fun q=>⟨by have:=HLO.out;omega,hk⟩)),HCD.out.s,HYV.out⟩
    exact AllReadyH.nil
   exact AllReadyH.nil
  exact AllReadyH.nil
 case rest =>
  obtain ⟨wx,rfl⟩:∃ wx,wx=wc:=⟨_,rfl⟩
  obtain ⟨b9,b10,v5,sv,rfl,rfl,rfl,h9,h10,l9,l10,hr,hs,hb⟩:=hcut
  have HO5:Hid (v5.oneCell'=true):=hid hr.one
  have HZ2:=hid ((HZ1.out.up hb).ref9 hr)
  have x9:XUp (XUp X w w1) w1 wx b9:=.inr ⟨l9,h9.lt⟩
  have X9:=hid x9
  have H9:=hid h9
  have X10:Hid (XUp (XUp X w w1) w1 wx b10):=hid (.inr ⟨l10,h10.lt⟩)
  have H10:=hid h10
  have HSW:=hid hs
  have hgb:w0.heap.size≠b9:=by have:=HZ1.out.t.lt;omega
  have HGB:=hid hgb
  have HG10:Hid (w0.heap.size≠b10):=hid (by have:=HZ1.out.t.lt;omega)
  clear HS HC h9 l9 hr hb x9 hgb h10 l10 hs
  generalize XUp (XUp X w w1) w1 wx=X2 at *
  have p1:wx.cell? ⟨w.heap.size,1,none⟩=some (.int .i64 a.now):=HZ2.out.act.cell 1
  have p4:wx.cell? ⟨w.heap.size,4,none⟩=some (.string (str a.text)):=HZ2.out.act.cell 4
  have p3:wx.cell? ⟨w.heap.size,3,none⟩=some (.int .i64 a.state):=HZ2.out.act.cell 3
  have HREAL:Hid (Calls Tryz.prog 12 #[.pointer (some ⟨p,0,none⟩),.int .i64 a.now,.agg (reqA a.r q),.string ⟨#[97,64,98]⟩,.string (str a.text),.int .i64 a.state,.string (str a.text)] wx (SubX X2 p c (begS c last L a.now a.r abT a.text a.state a.text).last (begS c last L a.now a.r abT a.text a.state a.text) wx)):=hid (begin_x HZ2.out.tab HH.out.la HZ2.out.hBW (HH.out.rq.below HZ2.out.bw) HH.out.rz HH.out.tx)
  unfold SubX at HREAL
  have HCOND:Hid (last'=last->L'=L->begS c last' L' a.now a.r abT a.text a.state a.text=begS c last L a.now a.r abT a.text a.state a.text):=hid (fun h1 h2=>by rw [h2];rw [h1])
  have HZA:Hid (SubZ (begS c last' L' a.now a.r abT a.text a.state a.text).sub/\SubZ (begS c last L a.now a.r abT a.text a.state a.text).sub):=hid ⟨beg_sub_z HH.out.rz,beg_sub_z HH.out.rz⟩
  obtain ⟨R,hR⟩:∃ R,begS c last' L' a.now a.r abT a.text a.state a.text=R:=⟨_,rfl⟩
  obtain ⟨S,hS⟩:∃ S,begS c last L a.now a.r abT a.text a.state a.text=S:=⟨_,rfl⟩
  rw [hR] at HCOND HZA HZ2 H9 H10 HSW
  rw [hS] at HCOND HZA HREAL
  try rw [hR]
  have HR0:=hid hR
  have HRR:=hid hS
  clear hR hS
  go_upto_region 7 with (first|(refine wpl_load rfl 45 (.tmp 56) rfl w.heap.size 5 rfl HZ2.out.act (reqA a.r q).toList rfl _ Tryz.underlying45 rfl (by kernel_rfl) ?_)|(go_at_call 12;refine (HREAL.out).mono ?_;rintro e wy ⟨v7,rfl,hm,ht⟩;have HM7:=hid hm;have HTT:=hid ht;have HZ3:=hid (HZ2.out.real ht);clear hm ht)|(refine wpl_store rfl 39 (.tmp 12) (.tmp 65) rfl wy.heap.size 0 rfl (subA S.sub v7) rfl (sub_blk0 wy) (Nat.le_refl 34) (subA S.sub v7) rfl (by kernel_rfl) (subA_one HM7.out.ev.one ⟨HM7.out.lp.one,HM7.out.lh.one,HM7.out.la.one,HM7.out.rp.one,HM7.out.rh.one,HM7.out.ra.one,HM7.out.tp.one,HM7.out.th.one,by obtain ⟨_,_,e,_⟩:=HM7.out.ro;rw [e];rfl⟩) ?_;intro wz hkz hfz))
  have bz:Below wy.heap.size wy wz:=((Below.refl wy.heap.size wy).alloc (Nat.le_refl _) _).trans (hfz.to_below (by simp) (fun k e=>by omega))
  have fz:Fr (fun _=>False) wy wz:=Fr.of_below bz
  have HZ4:=hid (HZ3.out.below bz)
  have H9Z:=hid ((H9.out.out X9.out HTT.out.fr).fr fz (fun e=>e))
  have H10Z:=hid ((H10.out.out X10.out HTT.out.fr).fr fz (fun e=>e))
  have HSWZ:=hid ((HTT.out.subw HSW.out HZ2.out.x2b HZ2.out.hBW).below bz HZ3.out.hBW)
  have HM7Z:=hid (HM7.out.below bz)
  have HKZ:=hid hkz
  have hgy:w0.heap.size<wy.heap.size:=HZ3.out.t.lt
  have HGY:=hid hgy
  clear bz fz hkz hfz hgy p1 p4 p3 HREAL
  have HSM:Hid (∀ W,Below wz.heap.size wz W->Calls Tryz.prog 16 #[.agg (subA R.sub sv),.agg (subA S.sub v7)] W (BlPost (sbsB R.sub S.sub) W)):=hid (fun W hW=>sbSameY ((HSWZ.out.below hW HZ4.out.hBW).y (HZ4.out.below hW).hBW) (HM7Z.out.below hW).y HZA.out.1 HZA.out.2)
  unfold BlPost at HSM
  have HS7:Hid (∀ W,Below wz.heap.size wz W->W.rangeAt b9 0 (rtV c R.last v5).toList/\W.rangeAt b10 0 (subA R.sub sv).toList/\W.rangeAt wy.heap.size 0 (subA S.sub v7).toList):=hid (fun W hW=>by
   have f:Fr (fun _=>False) wz W:=Fr.of_below hW
   exact ⟨blk_range (off:=0) (H9Z.out.fr f (fun e=>e)) rfl,blk_range (off:=0) (H10Z.out.fr f (fun e=>e)) rfl,blk_range (off:=0) (HKZ.out.fr f (fun e=>e)) rfl⟩)
  have HWZ:Hid (Below wz.heap.size wz wz.drew):=hid (Below.refl _ _).drew
  cases hsb:sbsB R.sub S.sub with
  | true =>
    rw [hsb] at HSM
    have HSB:=hid hsb
    clear hsb
    refine wp_region_noPanic (rgn HS7.out HWZ.out fun hHeld=>?_)
    refine tkm 0 (rtV c R.last v5) (b9) 0 (fun wq hSw=>hSw.1) Tryz.underlying71 ?_
    refine tkm 1 (subA R.sub sv) (b10) 0 (fun wq hSw=>hSw.2.1) Tryz.underlying39 ?_
    refine tkm 2 (subA S.sub v7) (wy.heap.size) 0 (fun wq hSw=>hSw.2.2) Tryz.underlying39 ?_
    refine rd1 3 fun K hK=>?_
    go_simp
    refine (HSM.out _ HWZ.out).mono ?_
    rintro e ws ⟨rfl,hbs⟩
    have HWS:Hid (Below wz.heap.size wz ws):=hid (HWZ.out.trans hbs)
    clear hbs
    go_wp2_with fail
    refine bk hK (HS7.out _ HWS.out) fun hHeld=>?_
    clear hK K
    refine tk 4 ?_
    refine tk 5 ?_
    refine tk 6 ?_
    refine tk 7 ?_
    refine tk 8 ?_
    refine rd1 9 fun K hK=>?_
    refine stg 71 (.tmp 7) (.tmp 67) (w0.heap.size) (rtV c R.last v5) ((HZ4.out.below HWS.out).t) (rtV_one HO5.out) ?_
    intro ut hkz hf
    have HF_ut:=hid hf
    have HK_ut:=hid hkz
    clear hf hkz
    have HZ5:=hid ((HZ4.out.below HWS.out).putT HF_ut.out HK_ut.out)
    have HSU:Hid (ut.rangeAt b9 0 (rtV c R.last v5).toList/\ut.rangeAt b10 0 (subA R.sub sv).toList/\ut.rangeAt wy.heap.size 0 (subA S.sub v7).toList):=hid (by
     have f:Fr (fun _=>False) wz ws:=Fr.of_below HWS.out
     have g1:=HGB.out
     have g2:=HGY.out
     exact ⟨blk_range (off:=0) ((H9Z.out.fr f (fun e=>e)).fr HF_ut.out (fun e=>g1 e.symm)) rfl,blk_range (off:=0) ((H10Z.out.fr f (fun e=>e)).fr HF_ut.out (by have:=HG10.out;omega)) rfl,blk_range (off:=0) ((HKZ.out.fr f (fun e=>e)).fr HF_ut.out (by omega)) rfl⟩)
    refine bk hK (HSU.out) fun hHeld=>?_
    clear hK K
    refine tk 10 ?_
    refine dn9 (NoPanic.normal ?_)
    clear hHeld
    go_wp2_with (first|(refine wpl_load rfl 71 (.tmp 7) rfl w0.heap.size 0 rfl HZ5.out.t (rtV c R.last v5).toList rfl _ Tryz.underlying71 rfl (by kernel_rfl) ?_)|(refine wpl_store rfl 71 (.tmp 198) (.tmp 197) rfl g 0 rfl (rtV c R.last v5) rfl HZ5.out.bg (Nat.le_refl 9) (rtV c R.last v5) rfl (by kernel_rfl) (rtV_one HO5.out) ?_;intro we hke hfe))
    go_ret
    obtain ⟨z1,z2,z3,z4,z5⟩:=HZ5.out.fin hfe hke
    refine ⟨S.err == R.err,_,v5,rfl,(fun h1 h2=>by rw [HCOND.out h1 h2];simp),z1,?_,?_,?_,z5⟩
    .rw [HEK.out];rw [HRR.out];exact z2
    .rw [HEK.out];rw [HR0.out];exact z3
    .rw [HEK.out];rw [HR0.out];exact z4
  | false =>
    rw [hsb] at HSM
    have HSB:=hid hsb
    clear hsb
    refine wp_region_noPanic (rgn HS7.out HWZ.out fun hHeld=>?_)
    refine tkm 0 (rtV c R.last v5) (b9) 0 (fun wq hSw=>hSw.1) Tryz.underlying71 ?_
    refine tkm 1 (subA R.sub sv) (b10) 0 (fun wq hSw=>hSw.2.1) Tryz.underlying39 ?_
    refine tkm 2 (subA S.sub v7) (wy.heap.size) 0 (fun wq hSw=>hSw.2.2) Tryz.underlying39 ?_
    refine rd1 3 fun K hK=>?_
    go_simp
    refine (HSM.out _ HWZ.out).mono ?_
    rintro e ws ⟨rfl,hbs⟩
    have HWS:Hid (Below wz.heap.size wz ws):=hid (HWZ.out.trans hbs)
    clear hbs
    go_wp2_with fail
    refine bk hK (HS7.out _ HWS.out) fun hHeld=>?_
    clear hK K
    refine tk 4 ?_
    refine tkv 5 undef (Or.inr ⟨?_,rfl⟩) ?_
    .rfl
    refine tkv 6 undef (Or.inr ⟨?_,rfl⟩) ?_
    .rfl
    refine tkv 7 undef (Or.inr ⟨?_,rfl⟩) ?_
    .rfl
    refine tk 8 ?_
    refine rd1 9 fun K hK=>?_
    refine stg 71 (.tmp 7) (.tmp 67) (w0.heap.size) (rtV c R.last v5) ((HZ4.out.below HWS.out).t) (rtV_one HO5.out) ?_
    intro ut hkz hf
    have HF_ut:=hid hf
    have HK_ut:=hid hkz
    clear hf hkz
    have HZ5:=hid ((HZ4.out.below HWS.out).putT HF_ut.out HK_ut.out)
    have HSU:Hid (ut.rangeAt b9 0 (rtV c R.last v5).toList/\ut.rangeAt b10 0 (subA R.sub sv).toList/\ut.rangeAt wy.heap.size 0 (subA S.sub v7).toList):=hid (by
     have f:Fr (fun _=>False) wz ws:=Fr.of_below HWS.out
     have g1:=HGB.out
     have g2:=HGY.out
     exact ⟨blk_range (off:=0) ((H9Z.out.fr f (fun e=>e)).fr HF_ut.out (fun e=>g1 e.symm)) rfl,blk_range (off:=0) ((H10Z.out.fr f (fun e=>e)).fr HF_ut.out (by have:=HG10.out;omega)) rfl,blk_range (off:=0) ((HKZ.out.fr f (fun e=>e)).fr HF_ut.out (by omega)) rfl⟩)
    refine bk hK (HSU.out) fun hHeld=>?_
    clear hK K
    refine tk 10 ?_
    refine dn9 (NoPanic.normal ?_)
    clear hHeld
    go_wp2_with (first|(refine wpl_load rfl 71 (.tmp 7) rfl w0.heap.size 0 rfl HZ5.out.t (rtV c R.last v5).toList rfl _ Tryz.underlying71 rfl (by kernel_rfl) ?_)|(refine wpl_store rfl 71 (.tmp 198) (.tmp 197) rfl g 0 rfl (rtV c R.last v5) rfl HZ5.out.bg (Nat.le_refl 9) (rtV c R.last v5) rfl (by kernel_rfl) (rtV_one HO5.out) ?_;intro we hke hfe))
    go_ret
    obtain ⟨z1,z2,z3,z4,z5⟩:=HZ5.out.fin hfe hke
    refine ⟨false,_,v5,rfl,(fun h1 h2=>by have h9:=HSB.out;rw [HCOND.out h1 h2,sbs_self] at h9;cases h9),z1,?_,?_,?_,z5⟩
    .rw [HEK.out];rw [HRR.out];exact z2
    .rw [HEK.out];rw [HR0.out];exact z3
    .rw [HEK.out];rw [HR0.out];exact z4
end Go.Proofs.YthkadehlclcggaaGreatDoor
