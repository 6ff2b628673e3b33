/- Chapter 19: subs.Again. -/
import Derived.Test.YthkadehlclcggaaGreatDoorGy58
namespace Go.Proofs.YthkadehlclcggaaGreatDoor
set_option linter.unusedSimpArgs false
set_option linter.unusedVariables false
open Go.RowKit
open Go.Lib (hid)
def AgaTo (p:Nat) (c:Conf) (last:Int) (R:SbR) (F:Nat->Prop) (w:World) (e:Ending) (w':World):Prop:=∃ v',e=.returned (.tuple #[.agg (subA R.sub v'),.int .i64 R.err])/\SubM w' R.sub v'/\TabTo p c last R.L F w w'
theorem aga_err {w w':World} {p:Nat} {c:Conf} {last er:Int} {L:List SubP} {F:Nat->Prop} {R:SbR} (H:Sb w p c last L F) (hb:Below w.heap.size w w') (he:R=⟨0,L,noSub,er⟩):AgaTo p c last R F w (.returned (.tuple #[.agg sub0,.int .i64 er])) w':=by
 subst he
 exact ⟨nilV,rfl,sub_none _,F,H.below hb,Fr.of_below hb,fun k h=>.inl h⟩
def agaN (s:SubP) (r:ReqP):SubP:={ s with dlg:=(takR s.dlg r).dlg }
theorem aga_no {L:List SubP} {c:Conf} {now n:Int} {r:ReqP} (h:n∉L.map (·.number)):(tickB now=false/\agaS c L now n r=⟨0,L,noSub,1⟩)\/(tickB now=true/\agaS c L now n r=⟨0,L,noSub,6⟩):=by
 unfold agaS
 cases h1:tickB now
 .exact .inl ⟨rfl,if_pos rfl⟩
 .refine .inr ⟨rfl,?_⟩
  rw [if_neg (by simp),find_noneS h]
theorem aga_ways {L:List SubP} {c:Conf} {now:Int} {r:ReqP} {s:SubP} (hn:(L.map (·.number)).Nodup) (h:s∈L) :
 (tickB now=false/\agaS c L now s.number r=⟨0,L,noSub,1⟩)\/(tickB now=true/\s.state=2/\agaS c L now s.number r=⟨0,L,noSub,6⟩) \/
 (tickB now=true/\s.state≠2/\(takR s.dlg r).err≠0/\agaS c L now s.number r=⟨0,L,noSub,(takR s.dlg r).err⟩) \/
 (tickB now=true/\s.state≠2/\(takR s.dlg r).err=0/\evIs s.ev r.ev=false/\agaS c L now s.number r=⟨0,L,noSub,81⟩) \/
 (tickB now=true/\s.state≠2/\(takR s.dlg r).err=0/\evIs s.ev r.ev=true/\secK c r.exp=false/\agaS c L now s.number r=⟨0,L,noSub,161⟩) \/
 (tickB now=true/\s.state≠2/\(takR s.dlg r).err=0/\evIs s.ev r.ev=true/\secK c r.exp=true/\agaS c L now s.number r=⟨0,setS L (lastsS (agaN s r) now (secN c r.exp)),lastsS (agaN s r) now (secN c r.exp),0⟩):=by
 unfold agaS
 cases h1:tickB now
 .exact .inl ⟨rfl,if_pos rfl⟩
 .refine .inr ?_
  rw [if_neg (by simp),find_num hn h rfl]
  by_cases h2:s.state=2
  .exact .inl ⟨rfl,h2,if_pos h2⟩
  .refine .inr ?_
   by_cases h3:(takR s.dlg r).err=0
   .refine .inr ?_
    cases h4:evIs s.ev r.ev
    .exact .inl ⟨rfl,h2,h3,rfl,by simp [h2,h3,h4]⟩
    .refine .inr ?_
     cases h5:secK c r.exp
     .exact .inl ⟨rfl,h2,h3,rfl,rfl,by simp [h2,h3,h4,h5]⟩
     .exact .inr ⟨rfl,h2,h3,rfl,rfl,by simp [h2,h3,h4,h5,agaN]⟩
   .exact .inl ⟨rfl,h2,h3,by simp [h2,h3]⟩
theorem aga_z {s:SubP} {r:ReqP} (h:SubZ s) (hz:ReqZ r):SubZ (agaN s r):=by
 unfold agaN takR
 split
 .exact h
 .split
  .exact h
  .have htg:((match r.contact with|[k]=>k.uri|_=>s.dlg.tgt:Uri)).params.length<=1000000/\((match r.contact with|[k]=>k.uri|_=>s.dlg.tgt:Uri)).headers.length<=1000000:=by
    split
    .next k hk=>exact hz.co k (by rw [hk];simp)
    .exact ⟨h.tp,h.th⟩
   exact ⟨h.ev,h.lp,h.lh,h.la,h.rp,h.rh,h.ra,htg.1,htg.2,h.ro,h.pe,h.pl,h.pr⟩
def agaV (v x:SlV):SlV:={ x with ev:=v.ev }
section
variable {w wN w1 w2 w3 w4:World} {p bm pw:Nat} {c:Conf} {last now n:Int} {xs:List XS} {l l':List TM} {F FW:Nat->Prop} {km:List (Int × Value)} {x:XS} {r:ReqP} {v' v3:SlV} {R:SbR}
theorem aga_mid (H:SbI w p c last xs l F bm pw km FW) (hx:x∈xs) (hb:Below w.heap.size w wN) (hd:DlgM wN (agaN x.s r).dlg v') (hf1:Fr (fun k=>k=x.b) wN w1)
 (ht:TurnS w1 w2 x.b pw (lastsS (agaN x.s r) now n) (agaV x.v v') l' FW) (hr:Blk wN (w.heap.size+1) 39 sub0) :
 TurnS wN w2 x.b pw (lastsS (agaN x.s r) now n) (agaV x.v v') l' FW/\SubM w2 (lastsS (agaN x.s r) now n) (agaV x.v v')/\Blk w2 (w.heap.size+1) 39 sub0/\Blk w2 x.b 39 (subA (lastsS (agaN x.s r) now n) (agaV x.v v')):=by
 have HN:=H.below hb
 obtain ⟨FW',hk,hw,hf,he⟩:=ht.ex
 have f:Fr (fun k=>k=x.b\/FW k) wN w2:=(hf1.mono fun k _ e=>.inl e).trans hf (fun k _ e=>e)
 have hs:=hf1.size
 have kp:KeepP (fun k=>k=x.b\/FW k) wN:=fun b ds T fr hb hT e=>by
  rcases e with e|e
  .exact keepP_blk (HN.its x hx) (by decide) (by decide) b ds T fr hb hT e
  .exact wh_keep HN.wh b ds T fr hb hT e
 have hm:SubM wN (agaN x.s r) (agaV x.v v'):=⟨(HN.sub x hx).ev,hd.loc.p,hd.loc.h,hd.loc.a,hd.rem.p,hd.rem.h,hd.rem.a,hd.tp,hd.th,hd.ro⟩
 have nr:¬(w.heap.size+1=x.b\/FW (w.heap.size+1)):=by
  rintro (e|e)
  .have:=(H.its x hx).lt;omega
  .have:=H.wh.lt e;omega
 exact ⟨⟨FW',hk,hw,f,fun k hk=>(he k hk).elim .inl (fun q=>.inr (by omega))⟩,(hm.fr f kp).lasts now n,hr.fr f nr,hk⟩
theorem aga_fin (H:SbI w p c last xs l F bm pw km FW) (Q:SbQ c last (xs.map (·.s)) l) (hx:x∈xs) (hb:Below w.heap.size w wN) (hz:SubZ (agaN x.s r)) (ho:x.s.state≠2) (h1:0<=now) (h2:now<=549755813888) (h3:0<=n) (h4:n<=2147483647)
 (ht:TurnS wN w2 x.b pw (lastsS (agaN x.s r) now n) (agaV x.v v') (lastsT l x.s.number now n) FW) (hm2:SubM w2 (lastsS (agaN x.s r) now n) (agaV x.v v')) (hr:Blk w2 (w.heap.size+1) 39 sub0) (hb3:Below w2.heap.size w2 w3) (hk3:Blk w3 (w.heap.size+1) 39 sub0) (hm3:SubM w3 (lastsS (agaN x.s r) now n) v3) (hf4:Fr (fun k=>k=w.heap.size+1) w3 w4)
 (hR:R=⟨0,setS (xs.map (·.s)) (lastsS (agaN x.s r) now n),lastsS (agaN x.s r) now n,0⟩):AgaTo p c last R F w (.returned (.tuple #[.agg (subA (lastsS (agaN x.s r) now n) v3),.int .i64 0])) w4:=by
 subst hR
 have HN:=H.below hb
 have hs:=hb.size
 have hnum:(lastsS (agaN x.s r) now n).number=x.s.number:=lasts_num _ _ _
 obtain ⟨FW',a,b,d⟩:=HN.put hx hnum hm2 ht
 have f24:Fr (fun k=>k=w.heap.size+1) w2 w4:=(Fr.of_below (F:=fun k=>k=w.heap.size+1) hb3).trans hf4 (fun k _ e=>e)
 have hfresh:∀ k,QF p bm (putX xs ⟨x.b,lastsS (agaN x.s r) now n,agaV x.v v'⟩) FW' k->¬k=w.heap.size+1:=fun k hk e=>by
  subst e
  rcases hk with e|e|e|e
  .have:=H.top.lt;omega
  .have:=H.mm.lt;omega
  .rw [putX_b] at e
   obtain ⟨y,hy,e⟩:=List.mem_map.1 e
   have:=(H.its y hy).lt;omega
  .exact a.wh.notT hr (by decide) (by decide) (by decide) e
 have Q':SbQ c last (setS (xs.map (·.s)) (lastsS (agaN x.s r) now n)) (lastsT l x.s.number now n):=Q.putN (s:=agaN x.s r) (List.mem_map.2 ⟨x,hx,rfl⟩) rfl hz ho h1 h2 h3 h4
 refine ⟨v3,rfl,hm3.fr hf4 (keepP_blk hk3 (by decide) (by decide)),_,⟨_,_,_,_,_,_,putX_s H.nd (subs_idnd Q.ids) hx hnum,a.fr f24 hfresh (keepP_blk hr (by decide) (by decide)),Q'⟩,((Fr.of_below (F:=F) hb).trans b (fun k _ e=>e)).trans f24 (fun k hk e=>by omega),fun k hk=>(d k hk).elim .inl (fun q=>.inr (by omega))⟩
end
set_option maxRecDepth 100000 in
set_option maxHeartbeats 16000000 in
theorem sagain_any {w:World} {p:Nat} {c:Conf} {last now num:Int} {L:List SubP} {F:Nat->Prop} {r:ReqP} {q:RqV} {B:Nat} (H:Sb w p c last L F) (hB:B<=w.heap.size) (hr:ReqB w B r q) (hz:ReqZ r) :
 Calls Tryz.prog 14 #[.pointer (some ⟨p,0,none⟩),.int .i64 now,.int .i64 num,.agg (reqA r q)] w (AgaTo p c last (agaS c L now num r) F w):=by
 obtain ⟨w0,hw0⟩:∃ w0,(w.alloc (.cells (reqA r q) 45)).alloc (.cells sub0 39)=w0:=⟨_,rfl⟩
 have hb0:Below w.heap.size w w0:=hw0▸((Below.refl _ _).alloc (Nat.le_refl _) _).alloc (by simp) _
 have hka:Blk w0 w.heap.size 45 (reqA r q):=hw0▸(Blk.new w _ _).alloc _
 have hkb:Blk w0 (w.heap.size+1) 39 sub0:=hw0▸Blk.new' _ _ _ (by simp)
 have HSB:=hid H
 obtain ⟨xs,l,bm,pw,km,FW,rfl,H0,Q⟩:=H
 have HI:=hid H0
 have HQ:=hid Q
 have H0:=H0.below hb0
 have hm:=hid (smade_any (pw:=pw) H0.top)
 have HTK:Hid (∀ W,Calls Tryz.prog 34 #[.int .i64 now] W fun e w'=>e=.returned (.bool (tickB now))/\W=w'):=hid (fun W=>tick_any now W)
 have k8:w0.cell? ⟨p,8,none⟩=some (.map (some bm)):=H0.top.cell 8
 have hlk:=H0.mm.lookup (T:=82) (E:=92) (intLaw Tryz.underlying3) Tryz.underlying82 (zsub w0) num true
 have hnd:=subs_idnd Q.ids
 have HKB:=hid hkb
 have HB0:=hid hb0
 have HRT:Hid (∀ w' er,Below w.heap.size w w'->agaS c (xs.map (·.s)) now num r=⟨0,xs.map (·.s),noSub,er⟩->AgaTo p c last (agaS c (xs.map (·.s)) now num r) F w (.returned (.tuple #[.agg sub0,.int .i64 er])) w'):=hid (fun w' er hb he=>aga_err HSB.out hb he)
 by_cases hin:num∈(xs.map (·.s)).map (·.number)
 .obtain ⟨x,hx,hxn⟩:∃ x∈xs,x.s.number=num:=by
   rw [List.map_map] at hin
   exact List.mem_map.1 hin
  have hg:=H0.getm hnd hx
  rw [hxn] at hg
  have hlk':(Instr.lookup 82 (.map (some bm)) (.int .i64 num) true).run Tryz.prog w0=.ok (.tuple #[.pointer (some ⟨x.b,0,none⟩),.bool true]) w0:=by rw [hg] at hlk;exact hlk
  have hw9:=aga_ways (c:=c) (now:=now) (r:=r) hnd (List.mem_map.2 ⟨x,hx,rfl⟩)
  rw [hxn] at hw9
  have HW:=hid hw9
  clear hw9
  have c5:w0.cell? ⟨x.b,5,none⟩=some (.int .i64 x.s.state):=(H0.its x hx).cell 5
  have HX:=hid hx
  have HZX:=hid (Q.z _ (List.mem_map.2 ⟨x,hx,rfl⟩))
  have HTB:=hid H0
  have HKA:=hid hka
  have HR0:=hid (hr.below (hb0.mono hB))
  have HBB:=hid (Nat.le_trans hB hb0.size)
  have HZ:=hid hz
  clear hlk hnd hin hg H0 Q hb0 hka hkb hB hr hz hx hxn
  unfold sub0 at hw0
  go_enter Tryz.func14,Tryz.ntmps14
  go_upto_region 1 with (fail)
  try rw [hw0]
  clear hw0
  generalize hq0:Value.agg (reqA r q)=q0
  rcases HW.out with ⟨h1,hx⟩|⟨h1,h2,hx⟩|⟨h1,h2,h3,hx⟩|⟨h1,h2,h3,h4,hx⟩|⟨h1,h2,h3,h4,h5,hx⟩|⟨h1,h2,h3,h4,h5,hx⟩
  .have HE:=hid hx
   rw [h1] at HTK
   clear hx h1
   go_wp2_with (first|(go_at_call 33;refine (hm.out).mono ?_;rintro e w' ⟨rfl,rfl⟩)|(go_at_call 34;refine (HTK.out _).mono ?_;rintro e w' ⟨rfl,rfl⟩)|(refine wpl_store rfl 39 (.tmp 8) (.tmp 33) rfl (w.heap.size+1) 0 rfl sub0 rfl HKB.out (Nat.le_refl 34) sub0 rfl (by kernel_rfl) sub0_one ?_;intro wz hkz hfz))
   exact ret_cell2 rfl rfl rfl rfl hkz _ Tryz.underlying39 rfl (by kernel_rfl) (HRT.out _ _ (below_upfr HB0.out (Nat.le_refl _) hfz (fun k e=>by omega)) HE.out)
  .have HE:=hid hx
   rw [h1] at HTK
   have d2:(x.s.state == 2)=true:=by rw [h2];rfl
   clear hx h1
   go_wp2_with (first|(go_at_call 33;refine (hm.out).mono ?_;rintro e w' ⟨rfl,rfl⟩)|(go_at_call 34;refine (HTK.out _).mono ?_;rintro e w' ⟨rfl,rfl⟩)|(refine wpl_store rfl 39 (.tmp 8) (.tmp 44) rfl (w.heap.size+1) 0 rfl sub0 rfl HKB.out (Nat.le_refl 34) sub0 rfl (by kernel_rfl) sub0_one ?_;intro wz hkz hfz))
   exact ret_cell2 rfl rfl rfl rfl hkz _ Tryz.underlying39 rfl (by kernel_rfl) (HRT.out _ _ (below_upfr HB0.out (Nat.le_refl _) hfz (fun k e=>by omega)) HE.out)
  .have HE:=hid hx
   rw [h1] at HTK
   have htk:0<=now/\now<=549755813888:=by
    unfold tickB at h1
    simp only [Bool.and_eq_true,decide_eq_true_eq] at h1
    exact h1
   have HTI:=hid htk
   have HST:=hid h2
   have d2:(x.s.state == 2)=false:=by simpa using h2
   have HTA:Hid (∀ W,Below w0.heap.size w0 W->Calls Tryz.prog 42 #[.agg (dlgA x.s.dlg x.v),.agg (reqA r q)] W fun e w'=>∃ v',e=.returned (.tuple #[.agg (dlgA (agaN x.s r).dlg v'),.int .i64 (takR x.s.dlg r).err])/\DlgM w' (agaN x.s r).dlg v'/\Below W.heap.size W w'):=hid (fun W hW=>by
    have m:=HTB.out.sub x HX.out
    exact Take_any (Nat.le_trans HBB.out hW.size) (DlgM.below ⟨⟨m.lp,m.lh,m.la⟩,⟨m.rp,m.rh,m.ra⟩,m.tp,m.th,m.ro⟩ hW) (HR0.out.below (hW.mono HBB.out)) HZX.out.pl HZX.out.pr HZ.out.co)
   have HSEC:Hid (∀ W,Calls Tryz.prog 36 #[.agg #[.string (str c.host),.int .i64 c.calls,.int .i64 c.pubs,.int .i64 c.subs,.int .i64 c.least,.int .i64 c.most,.int .i64 c.usual],.int .i64 r.exp] W fun e w'=>e=.returned (.tuple #[.int .i64 (secN c r.exp),.bool (secK c r.exp)])/\Below W.heap.size W w'):=hid (fun W=>seconds_any c r.exp W)
   have HIS:Hid (∀ W,Below w0.heap.size w0 W->Calls Tryz.prog 43 #[.agg #[.string (str x.s.ev.name),x.v.ev],.agg #[.string (str r.ev.name),q.ev]] W fun e w'=>e=.returned (.bool (evIs x.s.ev r.ev))/\Below W.heap.size W w'):=hid (fun W hW=>Is_any (B:=w0.heap.size) hW.size ((HTB.out.sub x HX.out).ev.prB.below hW) ((HR0.out.ev.up HBB.out).below hW) HZX.out.pe HZ.out.evP)
   have HSN:=hid (sec_lo HQ.out.right r.exp)
   rw [hq0] at HTA
   have hd0:∃ d0,Value.agg (dlgA x.s.dlg x.v)=d0:=⟨_,rfl⟩
   obtain ⟨d0,hd0⟩:=hd0
   rw [hd0] at HTA
   have d5:((takR x.s.dlg r).err != 0)=true:=by simpa using h3
   clear h3
   generalize hte:(takR x.s.dlg r).err=te at HTA HE d5
   clear hx h1 h2 htk
   go_upto_region 8 with (first|(go_at_call 33;refine (hm.out).mono ?_;rintro e w' ⟨rfl,rfl⟩)|(go_at_call 34;refine (HTK.out _).mono ?_;rintro e w' ⟨rfl,rfl⟩))
   have HS:Hid (∀ W,Below w0.heap.size w0 W->W.rangeAt x.b 8 (dlgA x.s.dlg x.v).toList/\W.rangeAt w.heap.size 0 (reqA r q).toList):=hid (fun W hW=>⟨blk_range (off:=8) ((HTB.out.its x HX.out).fr (Fr.of_below (F:=fun _=>False) hW) (fun h=>h)) rfl,blk_range (off:=0) (HKA.out.fr (Fr.of_below (F:=fun _=>False) hW) (fun h=>h)) rfl⟩)
   have HX0:Hid (Below w0.heap.size w0 w0.drew):=hid (Below.refl _ _).drew
   refine wp_region_noPanic ?_
   refine wp_region_held_drew (S:=fun W=>W.rangeAt x.b 8 (dlgA x.s.dlg x.v).toList/\W.rangeAt w.heap.size 0 (reqA r q).toList) (by kernel_rfl) (HS.out _ HX0.out) (fun hHeld=>?_)
   refine wpAnyH_take (i:=0) (oi:=?oi1) (v:=?v1) ?ho1 ?ka1 ?kb1 ?kc1 (fun _ _ _ h=>h) (Or.inl ⟨?kw1,?hy1⟩) (by assumption) ?rest1
   case ho1=>(simp only [List.getElem?_toArray,List.getElem?_cons_zero,List.getElem?_cons_succ];rfl)
   case ka1=>kernel_rfl
   case kb1=>kernel_rfl
   case kc1=>kernel_rfl
   case kw1=>rfl
   case hy1=>(intro wq hSw;(try dsimp only at hSw);go_simp;try with_reducible rfl)
   try simp only [Act.put,List.setIfInBounds_toArray,List.set_cons_zero,List.set_cons_succ]
   refine wpAnyH_take (i:=1) (oi:=?oi2) (v:=?v2) ?ho2 ?ka2 ?kb2 ?kc2 (fun _ _ _ h=>h) (Or.inl ⟨?kw2,?hy2⟩) (by assumption) ?rest2
   case ho2=>(simp only [List.getElem?_toArray,List.getElem?_cons_zero,List.getElem?_cons_succ];rfl)
   case ka2=>kernel_rfl
   case kb2=>kernel_rfl
   case kc2=>kernel_rfl
   case kw2=>rfl
   case hy2=>(intro wq hSw;(try dsimp only at hSw);go_simp;try with_reducible rfl)
   try simp only [Act.put,List.setIfInBounds_toArray,List.set_cons_zero,List.set_cons_succ]
   refine wpAnyH_take (i:=2) (oi:=?oi3) (v:=?v3) ?ho3 ?ka3 ?kb3 ?kc3 (fun _ _ _ h=>h) (Or.inl ⟨?kw3,?hy3⟩) (by assumption) ?rest3
   case ho3=>(simp only [List.getElem?_toArray,List.getElem?_cons_zero,List.getElem?_cons_succ];rfl)
   case ka3=>kernel_rfl
   case kb3=>kernel_rfl
   case kc3=>kernel_rfl
   case kw3=>rfl
   case hy3=>(intro wq hSw;(try dsimp only at hSw);go_simp;try with_reducible rfl)
   try simp only [Act.put,List.setIfInBounds_toArray,List.set_cons_zero,List.set_cons_succ]
   refine wpAnyH_take (i:=3) (oi:=?oi4) (v:=d0) ?ho4 ?ka4 ?kb4 ?kc4 (fun _ _ _ h=>h) ?hy4 (by assumption) ?rest4
   case ho4=>(simp only [List.getElem?_toArray,List.getElem?_cons_zero,List.getElem?_cons_succ];rfl)
   case ka4=>kernel_rfl
   case kb4=>kernel_rfl
   case kc4=>kernel_rfl
   case hy4=>(rw [<-hd0];exact yieldsIf_load_mid (by rfl) 37 (.tmp 48) rfl x.b 8 rfl (dlgA x.s.dlg x.v).toList _ (fun wq hSw=>hSw.1) Tryz.underlying37 rfl (by kernel_rfl))
   try simp only [Act.put,List.setIfInBounds_toArray,List.set_cons_zero,List.set_cons_succ]
   refine wpAnyH_take (i:=4) (oi:=?oi5) (v:=q0) ?ho5 ?ka5 ?kb5 ?kc5 (fun _ _ _ h=>h) ?hy5 (by assumption) ?rest5
   case ho5=>(simp only [List.getElem?_toArray,List.getElem?_cons_zero,List.getElem?_cons_succ];rfl)
   case ka5=>kernel_rfl
   case kb5=>kernel_rfl
   case kc5=>kernel_rfl
   case hy5=>(rw [<-hq0];exact yieldsIf_load_mid (by rfl) 45 (.tmp 7) rfl w.heap.size 0 rfl (reqA r q).toList _ (fun wq hSw=>hSw.2) Tryz.underlying45 rfl (by kernel_rfl))
   try simp only [Act.put,List.setIfInBounds_toArray,List.set_cons_zero,List.set_cons_succ]
   refine wpAnyH_ready (rs:=[5,9]) (by kernel_rfl) (by simp) ?_
   refine AllReadyH.cons (o:=?oi6) ?ho6 (fun K hK=>?st6) ?mo6
   case ho6=>(simp only [List.getElem?_toArray,List.getElem?_cons_zero,List.getElem?_cons_succ];rfl)
   .go_simp
    refine (HTA.out _ HX0.out).mono ?_
    rintro e w1 ⟨v1,rfl,m1,hb1⟩
    have HM1:=hid m1
    have HX1:Hid (Below w0.heap.size w0 w1):=hid (thenB_ HX0.out hb1)
    clear m1 hb1
    go_wp2_with fail
    refine hK.out _ _ (HS.out _ HX1.out) (fun hHeld=>?_)
    clear hK K
    try simp only [Act.put,List.setIfInBounds_toArray,List.set_cons_zero,List.set_cons_succ]
    refine wpAnyH_take (i:=6) (oi:=?oi7) (v:=?v7) ?ho7 ?ka7 ?kb7 ?kc7 (fun _ _ _ h=>h) (Or.inl ⟨?kw7,?hy7⟩) (by assumption) ?rest7
    case ho7=>(simp only [List.getElem?_toArray,List.getElem?_cons_zero,List.getElem?_cons_succ];rfl)
    case ka7=>kernel_rfl
    case kb7=>kernel_rfl
    case kc7=>kernel_rfl
    case kw7=>rfl
    case hy7=>(intro wq hSw;(try dsimp only at hSw);go_simp;try with_reducible rfl)
    try simp only [Act.put,List.setIfInBounds_toArray,List.set_cons_zero,List.set_cons_succ]
    refine wpAnyH_take (i:=7) (oi:=?oi8) (v:=?v8) ?ho8 ?ka8 ?kb8 ?kc8 (fun _ _ _ h=>h) (Or.inl ⟨?kw8,?hy8⟩) (by assumption) ?rest8
    case ho8=>(simp only [List.getElem?_toArray,List.getElem?_cons_zero,List.getElem?_cons_succ];rfl)
    case ka8=>kernel_rfl
    case kb8=>kernel_rfl
    case kc8=>kernel_rfl
    case kw8=>rfl
    case hy8=>(intro wq hSw;(try dsimp only at hSw);go_simp;try with_reducible rfl)
    try simp only [Act.put,List.setIfInBounds_toArray,List.set_cons_zero,List.set_cons_succ]
    refine wpAnyH_take (i:=8) (oi:=?oi9) (v:=?v9) ?ho9 ?ka9 ?kb9 ?kc9 (fun _ _ _ h=>h) (Or.inl ⟨?kw9,?hy9⟩) (by assumption) ?rest9
    case ho9=>(simp only [List.getElem?_toArray,List.getElem?_cons_zero,List.getElem?_cons_succ];rfl)
    case ka9=>kernel_rfl
    case kb9=>kernel_rfl
    case kc9=>kernel_rfl
    case kw9=>rfl
    case hy9=>(intro wq hSw;(try dsimp only at hSw);go_simp;try with_reducible rfl)
    try simp only [Act.put,List.setIfInBounds_toArray,List.set_cons_zero,List.set_cons_succ]
    refine wpAnyH_ready (rs:=[9]) (by kernel_rfl) (by simp) ?_
    refine AllReadyH.cons (o:=?oi10) ?ho10 (fun K hK=>?st10) AllReadyH.nil
    case ho10=>(simp only [List.getElem?_toArray,List.getElem?_cons_zero,List.getElem?_cons_succ];rfl)
    go_simp
    have HZ2:=hid (Blk.new w1 37 dlg0)
    have HXA:Hid (Below w0.heap.size w0 (w1.alloc (.cells dlg0 37))):=hid (thenB_ HX1.out ((Below.refl _ _).alloc (Nat.le_refl _) _))
    have HMA:=hid (HM1.out.below ((Below.refl w1.heap.size w1).alloc (Nat.le_refl _) (.cells dlg0 37)))
    obtain ⟨wa,hwa⟩:∃ u,w1.alloc (.cells #[.string ⟨#[]⟩,.string ⟨#[]⟩,.string ⟨#[]⟩,.string ⟨#[]⟩,.string ⟨#[]⟩,.int .i64 0,.slice none 0 0,.slice none 0 0,.slice none 0 0,.string ⟨#[]⟩,.string ⟨#[]⟩,.string ⟨#[]⟩,.string ⟨#[]⟩,.int .i64 0,.slice none 0 0,.slice none 0 0,.slice none 0 0,.string ⟨#[]⟩,.string ⟨#[]⟩,.string ⟨#[]⟩,.int .i64 0,.slice none 0 0,.slice none 0 0,.slice none 0 0,.int .i64 0,.int .i64 0] 37)=u:=⟨_,rfl⟩
    unfold dlg0 at HZ2 HXA HMA
    rw [hwa] at HZ2 HXA HMA ⊢
    clear hwa
    refine hK.out _ _ (HS.out _ HXA.out) (fun hHeld=>?_)
    clear hK K
    try simp only [Act.put,List.setIfInBounds_toArray,List.set_cons_zero,List.set_cons_succ]
    refine wpAnyH_ready (rs:=[10]) (by kernel_rfl) (by simp) ?_
    refine AllReadyH.cons (o:=?oi11) ?ho11 (fun K hK=>?st11) AllReadyH.nil
    case ho11=>(simp only [List.getElem?_toArray,List.getElem?_cons_zero,List.getElem?_cons_succ];rfl)
    rw [if_pos (by rfl)]
    refine wp_store_mid 37 (.tmp 12) (.tmp 52) rfl (w1.heap.size) 0 (dlgA (agaN x.s r).dlg v1) rfl rfl (blk_there HZ2.out (Nat.le_refl 26)) (by kernel_rfl) (dlgA_one HM1.out.one) ?_
    have hgd:w0.heap.size<=w1.heap.size:=HX1.out.size
    have hk2:Blk (World.setCells wa (w1.heap.size) 0 (dlgA (agaN x.s r).dlg v1).toList) (w1.heap.size) 37 (dlgA (agaN x.s r).dlg v1):=blk_setCells (dlgA (agaN x.s r).dlg v1).toList (off:=0) HZ2.out (Nat.le_refl 26)
    have hb2:=below_sc (off:=0) (l:=(dlgA (agaN x.s r).dlg v1).toList) HXA.out (Nat.le_refl _) hgd
    have hm2:=HMA.out.fr (fr_setCells (w1.heap.size) (dlgA (agaN x.s r).dlg v1).toList 0 wa) (keepP_blk HZ2.out (by decide) (by decide))
    obtain ⟨w2,hu⟩:∃ u,World.setCells wa (w1.heap.size) 0 (dlgA (agaN x.s r).dlg v1).toList=u:=⟨_,rfl⟩
    rw [hu] at hk2 hb2 hm2 ⊢
    clear hu
    have HK2:=hid hk2
    have HB2:=hid hb2
    have HM2:=hid hm2
    have HGD:=hid hgd
    clear hk2 hb2 hm2 hgd
    refine hK.out _ _ (HS.out _ HB2.out) (fun hHeld=>?_)
    clear hK K
    try simp only [Act.put,List.setIfInBounds_toArray,List.set_cons_zero,List.set_cons_succ]
    refine wpAnyH_take (i:=11) (oi:=?oi12) (v:=?v12) ?ho12 ?ka12 ?kb12 ?kc12 (fun _ _ _ h=>h) (Or.inl ⟨?kw12,?hy12⟩) (by assumption) ?rest12
    case ho12=>(simp only [List.getElem?_toArray,List.getElem?_cons_zero,List.getElem?_cons_succ];rfl)
    case ka12=>kernel_rfl
    case kb12=>kernel_rfl
    case kc12=>kernel_rfl
    case kw12=>rfl
    case hy12=>(intro wq hSw;(try dsimp only at hSw);go_simp;try with_reducible rfl)
    try simp only [Act.put,List.setIfInBounds_toArray,List.set_cons_zero,List.set_cons_succ]
    refine wpAnyH_done (by kernel_rfl) ?_ _
    refine NoPanic.normal ?_
    clear hHeld HS
    obtain ⟨gd,hgd⟩:∃ gd,w1.heap.size=gd:=⟨_,rfl⟩
    simp only [hgd] at HK2 HGD ⊢
    clear hgd
    have HS:Hid (∀ W,Below w2.heap.size w2 W->W.cell? ⟨p,0,none⟩=some (.string (str c.host))/\W.cell? ⟨p,1,none⟩=some (.int .i64 c.calls)/\W.cell? ⟨p,2,none⟩=some (.int .i64 c.pubs)/\W.cell? ⟨p,3,none⟩=some (.int .i64 c.subs)/\W.cell? ⟨p,4,none⟩=some (.int .i64 c.least)/\W.cell? ⟨p,5,none⟩=some (.int .i64 c.most)/\W.cell? ⟨p,6,none⟩=some (.int .i64 c.usual)/\W.cell? ⟨w.heap.size,29,none⟩=some (.int .i64 r.exp)):=hid (fun W hW=>by
     have k1:=(HTB.out.below (HB2.out.trans (hW.mono HB2.out.size))).top
     have k2:=HKA.out.fr (Fr.of_below (F:=fun _=>False) (HB2.out.trans (hW.mono HB2.out.size))) (fun h=>h)
     exact ⟨k1.cell 0,k1.cell 1,k1.cell 2,k1.cell 3,k1.cell 4,k1.cell 5,k1.cell 6,k2.cell 29⟩)
    have HX0:Hid (Below w2.heap.size w2 w2.drew):=hid (Below.refl _ _).drew
    go_upto_region 9 with (fail)
    refine wp_region_noPanic ?_
    refine wp_region_held_drew (S:=fun W=>W.cell? ⟨p,0,none⟩=some (.string (str c.host))/\W.cell? ⟨p,1,none⟩=some (.int .i64 c.calls)/\W.cell? ⟨p,2,none⟩=some (.int .i64 c.pubs)/\W.cell? ⟨p,3,none⟩=some (.int .i64 c.subs)/\W.cell? ⟨p,4,none⟩=some (.int .i64 c.least)/\W.cell? ⟨p,5,none⟩=some (.int .i64 c.most)/\W.cell? ⟨p,6,none⟩=some (.int .i64 c.usual)/\W.cell? ⟨w.heap.size,29,none⟩=some (.int .i64 r.exp)) (by kernel_rfl) (HS.out _ HX0.out) (fun hHeld=>?_)
    refine wpAnyH_take (i:=0) (oi:=?oi19) (v:=?v19) ?ho19 ?ka19 ?kb19 ?kc19 (fun _ _ _ h=>h) (Or.inl ⟨?kw19,?hy19⟩) (by assumption) ?rest19
    case ho19=>(simp only [List.getElem?_toArray,List.getElem?_cons_zero,List.getElem?_cons_succ];rfl)
    case ka19=>kernel_rfl
    case kb19=>kernel_rfl
    case kc19=>kernel_rfl
    case kw19=>rfl
    case hy19=>(intro wq hSw;(try dsimp only at hSw);go_simp;try with_reducible rfl)
    try simp only [Act.put,List.setIfInBounds_toArray,List.set_cons_zero,List.set_cons_succ]
    refine wpAnyH_take (i:=1) (oi:=?oi20) (v:=?v20) ?ho20 ?ka20 ?kb20 ?kc20 (fun _ _ _ h=>h) (Or.inl ⟨?kw20,?hy20⟩) (by assumption) ?rest20
    case ho20=>(simp only [List.getElem?_toArray,List.getElem?_cons_zero,List.getElem?_cons_succ];rfl)
    case ka20=>kernel_rfl
    case kb20=>kernel_rfl
    case kc20=>kernel_rfl
    case kw20=>rfl
    case hy20=>(intro wq hSw;(try dsimp only at hSw);go_simp;try with_reducible rfl)
    try simp only [Act.put,List.setIfInBounds_toArray,List.set_cons_zero,List.set_cons_succ]
    refine wpAnyH_take (i:=2) (oi:=?oi21) (v:=?v21) ?ho21 ?ka21 ?kb21 ?kc21 (fun _ _ _ h=>h) (Or.inl ⟨?kw21,?hy21⟩) (by assumption) ?rest21
    case ho21=>(simp only [List.getElem?_toArray,List.getElem?_cons_zero,List.getElem?_cons_succ];rfl)
    case ka21=>kernel_rfl
    case kb21=>kernel_rfl
    case kc21=>kernel_rfl
    case kw21=>rfl
    case hy21=>(intro wq hSw;(try dsimp only at hSw);go_simp;try with_reducible rfl)
    try simp only [Act.put,List.setIfInBounds_toArray,List.set_cons_zero,List.set_cons_succ]
    refine wpAnyH_take (i:=3) (oi:=?oi22) (v:=?v22) ?ho22 ?ka22 ?kb22 ?kc22 (fun _ _ _ h=>h) (Or.inl ⟨?kw22,?hy22⟩) (by assumption) ?rest22
    case ho22=>(simp only [List.getElem?_toArray,List.getElem?_cons_zero,List.getElem?_cons_succ];rfl)
    case ka22=>kernel_rfl
    case kb22=>kernel_rfl
    case kc22=>kernel_rfl
    case kw22=>rfl
    case hy22=>(intro wq hSw;(try dsimp only at hSw);go_simp;try with_reducible rfl)
    try simp only [Act.put,List.setIfInBounds_toArray,List.set_cons_zero,List.set_cons_succ]
    refine wpAnyH_take (i:=4) (oi:=?oi23) (v:=?v23) ?ho23 ?ka23 ?kb23 ?kc23 (fun _ _ _ h=>h) (Or.inl ⟨?kw23,?hy23⟩) (by assumption) ?rest23
    case ho23=>(simp only [List.getElem?_toArray,List.getElem?_cons_zero,List.getElem?_cons_succ];rfl)
    case ka23=>kernel_rfl
    case kb23=>kernel_rfl
    case kc23=>kernel_rfl
    case kw23=>rfl
    case hy23=>(intro wq hSw;(try dsimp only at hSw);go_simp;try with_reducible rfl)
    try simp only [Act.put,List.setIfInBounds_toArray,List.set_cons_zero,List.set_cons_succ]
    refine wpAnyH_take (i:=5) (oi:=?oi24) (v:=?v24) ?ho24 ?ka24 ?kb24 ?kc24 (fun _ _ _ h=>h) (Or.inl ⟨?kw24,?hy24⟩) (by assumption) ?rest24
    case ho24=>(simp only [List.getElem?_toArray,List.getElem?_cons_zero,List.getElem?_cons_succ];rfl)
    case ka24=>kernel_rfl
    case kb24=>kernel_rfl
    case kc24=>kernel_rfl
    case kw24=>rfl
    case hy24=>(intro wq hSw;(try dsimp only at hSw);go_simp;try with_reducible rfl)
    try simp only [Act.put,List.setIfInBounds_toArray,List.set_cons_zero,List.set_cons_succ]
    refine wpAnyH_ready (rs:=[6]) (by kernel_rfl) (by simp) ?_
    refine AllReadyH.cons (o:=?oi25) ?ho25 (fun K hK=>?st25) AllReadyH.nil
    case ho25=>(simp only [List.getElem?_toArray,List.getElem?_cons_zero,List.getElem?_cons_succ];rfl)
    go_simp
    refine (HSEC.out _).mono ?_
    rintro e w3 ⟨rfl,hb3⟩
    have HX3:Hid (Below w2.heap.size w2 w3):=hid (thenB_ HX0.out hb3)
    clear hb3
    go_wp2_with fail
    refine hK.out _ _ (HS.out _ HX3.out) (fun hHeld=>?_)
    clear hK K
    try simp only [Act.put,List.setIfInBounds_toArray,List.set_cons_zero,List.set_cons_succ]
    refine wpAnyH_take (i:=7) (oi:=?oi26) (v:=?v26) ?ho26 ?ka26 ?kb26 ?kc26 (fun _ _ _ h=>h) (Or.inl ⟨?kw26,?hy26⟩) (by assumption) ?rest26
    case ho26=>(simp only [List.getElem?_toArray,List.getElem?_cons_zero,List.getElem?_cons_succ];rfl)
    case ka26=>kernel_rfl
    case kb26=>kernel_rfl
    case kc26=>kernel_rfl
    case kw26=>rfl
    case hy26=>(intro wq hSw;(try dsimp only at hSw);go_simp;try with_reducible rfl)
    try simp only [Act.put,List.setIfInBounds_toArray,List.set_cons_zero,List.set_cons_succ]
    refine wpAnyH_take (i:=8) (oi:=?oi27) (v:=?v27) ?ho27 ?ka27 ?kb27 ?kc27 (fun _ _ _ h=>h) (Or.inl ⟨?kw27,?hy27⟩) (by assumption) ?rest27
    case ho27=>(simp only [List.getElem?_toArray,List.getElem?_cons_zero,List.getElem?_cons_succ];rfl)
    case ka27=>kernel_rfl
    case kb27=>kernel_rfl
    case kc27=>kernel_rfl
    case kw27=>rfl
    case hy27=>(intro wq hSw;(try dsimp only at hSw);go_simp;try with_reducible rfl)
    try simp only [Act.put,List.setIfInBounds_toArray,List.set_cons_zero,List.set_cons_succ]
    refine wpAnyH_take (i:=9) (oi:=?oi28) (v:=?v28) ?ho28 ?ka28 ?kb28 ?kc28 (fun _ _ _ h=>h) (Or.inl ⟨?kw28,?hy28⟩) (by assumption) ?rest28
    case ho28=>(simp only [List.getElem?_toArray,List.getElem?_cons_zero,List.getElem?_cons_succ];rfl)
    case ka28=>kernel_rfl
    case kb28=>kernel_rfl
    case kc28=>kernel_rfl
    case kw28=>rfl
    case hy28=>(intro wq hSw;(try dsimp only at hSw);go_simp;try with_reducible rfl)
    try simp only [Act.put,List.setIfInBounds_toArray,List.set_cons_zero,List.set_cons_succ]
    refine wpAnyH_take (i:=10) (oi:=?oi29) (v:=?v29) ?ho29 ?ka29 ?kb29 ?kc29 (fun _ _ _ h=>h) (Or.inl ⟨?kw29,?hy29⟩) (by assumption) ?rest29
    case ho29=>(simp only [List.getElem?_toArray,List.getElem?_cons_zero,List.getElem?_cons_succ];rfl)
    case ka29=>kernel_rfl
    case kb29=>kernel_rfl
    case kc29=>kernel_rfl
    case kw29=>rfl
    case hy29=>(intro wq hSw;(try dsimp only at hSw);go_simp;try with_reducible rfl)
    try simp only [Act.put,List.setIfInBounds_toArray,List.set_cons_zero,List.set_cons_succ]
    refine wpAnyH_take (i:=11) (oi:=?oi30) (v:=?v30) ?ho30 ?ka30 ?kb30 ?kc30 (fun _ _ _ h=>h) (Or.inl ⟨?kw30,?hy30⟩) (by assumption) ?rest30
    case ho30=>(simp only [List.getElem?_toArray,List.getElem?_cons_zero,List.getElem?_cons_succ];rfl)
    case ka30=>kernel_rfl
    case kb30=>kernel_rfl
    case kc30=>kernel_rfl
    case kw30=>rfl
    case hy30=>(intro wq hSw;(try dsimp only at hSw);go_simp;try with_reducible rfl)
    try simp only [Act.put,List.setIfInBounds_toArray,List.set_cons_zero,List.set_cons_succ]
    refine wpAnyH_done (by kernel_rfl) ?_ _
    refine NoPanic.normal ?_
    clear hHeld
    have HBX:=hid (HB2.out.trans (HX3.out.mono HB2.out.size))
    clear HS HX0
    have HKR:=hid (HKB.out.fr (Fr.of_below (F:=fun _=>False) HBX.out) (fun h=>h))
    have HBR:=hid (HB0.out.trans (HBX.out.mono HB0.out.size))
    go_wp2_with (first|(refine wpl_store rfl 39 (.tmp 8) (.tmp 67) rfl (w.heap.size+1) 0 rfl sub0 rfl HKR.out (Nat.le_refl 34) sub0 rfl (by kernel_rfl) sub0_one ?_;intro wz hkz hfz))
    exact ret_cell2 rfl rfl rfl rfl hkz _ Tryz.underlying39 rfl (by kernel_rfl) (HRT.out _ _ (below_upfr HBR.out (Nat.le_refl _) hfz (fun k e=>by omega)) HE.out)
   refine AllReadyH.cons (o:=?oi9990) ?ho9990 (fun K hK=>?st9990) AllReadyH.nil
   case ho9990=>(simp only [List.getElem?_toArray,List.getElem?_cons_zero,List.getElem?_cons_succ];rfl)
   go_simp
   have HZ0:=hid ((Blk.new w0 37 dlg0).drewN 1)
   have HXA:Hid (Below w0.heap.size w0 ((w0.alloc (.cells dlg0 37)).drew)):=hid ((Below.refl _ _).alloc (Nat.le_refl _) _).drew
   unfold dlg0 at HZ0 HXA
   change Hid (Blk (World.drew (w0.alloc (.cells #[.string ⟨#[]⟩,.string ⟨#[]⟩,.string ⟨#[]⟩,.string ⟨#[]⟩,.string ⟨#[]⟩,.int .i64 0,.slice none 0 0,.slice none 0 0,.slice none 0 0,.string ⟨#[]⟩,.string ⟨#[]⟩,.string ⟨#[]⟩,.string ⟨#[]⟩,.int .i64 0,.slice none 0 0,.slice none 0 0,.slice none 0 0,.string ⟨#[]⟩,.string ⟨#[]⟩,.string ⟨#[]⟩,.int .i64 0,.slice none 0 0,.slice none 0 0,.slice none 0 0,.int .i64 0,.int .i64 0] 37))) _ _ _) at HZ0
   obtain ⟨wa,hwa⟩:∃ u,(w0.alloc (.cells #[.string ⟨#[]⟩,.string ⟨#[]⟩,.string ⟨#[]⟩,.string ⟨#[]⟩,.string ⟨#[]⟩,.int .i64 0,.slice none 0 0,.slice none 0 0,.slice none 0 0,.string ⟨#[]⟩,.string ⟨#[]⟩,.string ⟨#[]⟩,.string ⟨#[]⟩,.int .i64 0,.slice none 0 0,.slice none 0 0,.slice none 0 0,.string ⟨#[]⟩,.string ⟨#[]⟩,.string ⟨#[]⟩,.int .i64 0,.slice none 0 0,.slice none 0 0,.slice none 0 0,.int .i64 0,.int .i64 0] 37)).drew=u:=⟨_,rfl⟩
   rw [hwa] at HZ0 HXA ⊢
   clear hwa
   refine hK.out _ _ (HS.out _ HXA.out) (fun hHeld=>?_)
   clear hK K
   try simp only [Act.put,List.setIfInBounds_toArray,List.set_cons_zero,List.set_cons_succ]
   refine wpAnyH_ready (rs:=[5]) (by kernel_rfl) (by simp) ?_
   refine AllReadyH.cons (o:=?oi13) ?ho13 (fun K hK=>?st13) AllReadyH.nil
   case ho13=>(simp only [List.getElem?_toArray,List.getElem?_cons_zero,List.getElem?_cons_succ];rfl)
   go_simp
   refine (HTA.out _ HXA.out).mono ?_
   rintro e w1 ⟨v1,rfl,m1,hb1⟩
   have HM1:=hid m1
   have HX1:Hid (Below w0.heap.size w0 w1):=hid (thenB_ HXA.out hb1)
   have HZ1:=hid (HZ0.out.fr (Fr.of_below (F:=fun _=>False) hb1) (fun h=>h))
   clear m1 hb1
   go_wp2_with fail
   refine hK.out _ _ (HS.out _ HX1.out) (fun hHeld=>?_)
   clear hK K
   try simp only [Act.put,List.setIfInBounds_toArray,List.set_cons_zero,List.set_cons_succ]
   refine wpAnyH_take (i:=6) (oi:=?oi14) (v:=?v14) ?ho14 ?ka14 ?kb14 ?kc14 (fun _ _ _ h=>h) (Or.inl ⟨?kw14,?hy14⟩) (by assumption) ?rest14
   case ho14=>(simp only [List.getElem?_toArray,List.getElem?_cons_zero,List.getElem?_cons_succ];rfl)
   case ka14=>kernel_rfl
   case kb14=>kernel_rfl
   case kc14=>kernel_rfl
   case kw14=>rfl
   case hy14=>(intro wq hSw;(try dsimp only at hSw);go_simp;try with_reducible rfl)
   try simp only [Act.put,List.setIfInBounds_toArray,List.set_cons_zero,List.set_cons_succ]
   refine wpAnyH_take (i:=7) (oi:=?oi15) (v:=?v15) ?ho15 ?ka15 ?kb15 ?kc15 (fun _ _ _ h=>h) (Or.inl ⟨?kw15,?hy15⟩) (by assumption) ?rest15
   case ho15=>(simp only [List.getElem?_toArray,List.getElem?_cons_zero,List.getElem?_cons_succ];rfl)
   case ka15=>kernel_rfl
   case kb15=>kernel_rfl
   case kc15=>kernel_rfl
   case kw15=>rfl
   case hy15=>(intro wq hSw;(try dsimp only at hSw);go_simp;try with_reducible rfl)
   try simp only [Act.put,List.setIfInBounds_toArray,List.set_cons_zero,List.set_cons_succ]
   refine wpAnyH_take (i:=8) (oi:=?oi16) (v:=?v16) ?ho16 ?ka16 ?kb16 ?kc16 (fun _ _ _ h=>h) (Or.inl ⟨?kw16,?hy16⟩) (by assumption) ?rest16
   case ho16=>(simp only [List.getElem?_toArray,List.getElem?_cons_zero,List.getElem?_cons_succ];rfl)
   case ka16=>kernel_rfl
   case kb16=>kernel_rfl
   case kc16=>kernel_rfl
   case kw16=>rfl
   case hy16=>(intro wq hSw;(try dsimp only at hSw);go_simp;try with_reducible rfl)
   try simp only [Act.put,List.setIfInBounds_toArray,List.set_cons_zero,List.set_cons_succ]
   refine wpAnyH_ready (rs:=[10]) (by kernel_rfl) (by simp) ?_
   refine AllReadyH.cons (o:=?oi17) ?ho17 (fun K hK=>?st17) AllReadyH.nil
   case ho17=>(simp only [List.getElem?_toArray,List.getElem?_cons_zero,List.getElem?_cons_succ];rfl)
   rw [if_pos (by rfl)]
   refine wp_store_mid 37 (.tmp 12) (.tmp 52) rfl (w0.heap.size) 0 (dlgA (agaN x.s r).dlg v1) rfl rfl (blk_there HZ1.out (Nat.le_refl 26)) (by kernel_rfl) (dlgA_one HM1.out.one) ?_
   have hgd:w0.heap.size<=w0.heap.size:=Nat.le_refl _
   have hk2:Blk (World.setCells w1 (w0.heap.size) 0 (dlgA (agaN x.s r).dlg v1).toList) (w0.heap.size) 37 (dlgA (agaN x.s r).dlg v1):=blk_setCells (dlgA (agaN x.s r).dlg v1).toList (off:=0) HZ1.out (Nat.le_refl 26)
   have hb2:=below_sc (off:=0) (l:=(dlgA (agaN x.s r).dlg v1).toList) HX1.out (Nat.le_refl _) hgd
   have hm2:=HM1.out.fr (fr_setCells (w0.heap.size) (dlgA (agaN x.s r).dlg v1).toList 0 w1) (keepP_blk HZ1.out (by decide) (by decide))
   obtain ⟨w2,hu⟩:∃ u,World.setCells w1 (w0.heap.size) 0 (dlgA (agaN x.s r).dlg v1).toList=u:=⟨_,rfl⟩
   rw [hu] at hk2 hb2 hm2 ⊢
   clear hu
   have HK2:=hid hk2
   have HB2:=hid hb2
   have HM2:=hid hm2
   have HGD:=hid hgd
   clear hk2 hb2 hm2 hgd
   refine hK.out _ _ (HS.out _ HB2.out) (fun hHeld=>?_)
   clear hK K
   try simp only [Act.put,List.setIfInBounds_toArray,List.set_cons_zero,List.set_cons_succ]
   refine wpAnyH_take (i:=11) (oi:=?oi18) (v:=?v18) ?ho18 ?ka18 ?kb18 ?kc18 (fun _ _ _ h=>h) (Or.inl ⟨?kw18,?hy18⟩) (by assumption) ?rest18
   case ho18=>(simp only [List.getElem?_toArray,List.getElem?_cons_zero,List.getElem?_cons_succ];rfl)
   case ka18=>kernel_rfl
   case kb18=>kernel_rfl
   case kc18=>kernel_rfl
   case kw18=>rfl
   case hy18=>(intro wq hSw;(try dsimp only at hSw);go_simp;try with_reducible rfl)
   try simp only [Act.put,List.setIfInBounds_toArray,List.set_cons_zero,List.set_cons_succ]
   refine wpAnyH_done (by kernel_rfl) ?_ _
   refine NoPanic.normal ?_
   clear hHeld HS
   obtain ⟨gd,hgd⟩:∃ gd,w0.heap.size=gd:=⟨_,rfl⟩
   simp only [hgd] at HK2 HGD ⊢
   clear hgd
   have HS:Hid (∀ W,Below w2.heap.size w2 W->W.cell? ⟨p,0,none⟩=some (.string (str c.host))/\W.cell? ⟨p,1,none⟩=some (.int .i64 c.calls)/\W.cell? ⟨p,2,none⟩=some (.int .i64 c.pubs)/\W.cell? ⟨p,3,none⟩=some (.int .i64 c.subs)/\W.cell? ⟨p,4,none⟩=some (.int .i64 c.least)/\W.cell? ⟨p,5,none⟩=some (.int .i64 c.most)/\W.cell? ⟨p,6,none⟩=some (.int .i64 c.usual)/\W.cell? ⟨w.heap.size,29,none⟩=some (.int .i64 r.exp)):=hid (fun W hW=>by
    have k1:=(HTB.out.below (HB2.out.trans (hW.mono HB2.out.size))).top
    have k2:=HKA.out.fr (Fr.of_below (F:=fun _=>False) (HB2.out.trans (hW.mono HB2.out.size))) (fun h=>h)
    exact ⟨k1.cell 0,k1.cell 1,k1.cell 2,k1.cell 3,k1.cell 4,k1.cell 5,k1.cell 6,k2.cell 29⟩)
   have HX0:Hid (Below w2.heap.size w2 w2.drew):=hid (Below.refl _ _).drew
   go_upto_region 9 with (fail)
   refine wp_region_noPanic ?_
   refine wp_region_held_drew (S:=fun W=>W.cell? ⟨p,0,none⟩=some (.string (str c.host))/\W.cell? ⟨p,1,none⟩=some (.int .i64 c.calls)/\W.cell? ⟨p,2,none⟩=some (.int .i64 c.pubs)/\W.cell? ⟨p,3,none⟩=some (.int .i64 c.subs)/\W.cell? ⟨p,4,none⟩=some (.int .i64 c.least)/\W.cell? ⟨p,5,none⟩=some (.int .i64 c.most)/\W.cell? ⟨p,6,none⟩=some (.int .i64 c.usual)/\W.cell? ⟨w.heap.size,29,none⟩=some (.int .i64 r.exp)) (by kernel_rfl) (HS.out _ HX0.out) (fun hHeld=>?_)
   refine wpAnyH_take (i:=0) (oi:=?oi31) (v:=?v31) ?ho31 ?ka31 ?kb31 ?kc31 (fun _ _ _ h=>h) (Or.inl ⟨?kw31,?hy31⟩) (by assumption) ?rest31
   case ho31=>(simp only [List.getElem?_toArray,List.getElem?_cons_zero,List.getElem?_cons_succ];rfl)
   case ka31=>kernel_rfl
   case kb31=>kernel_rfl
   case kc31=>kernel_rfl
   case kw31=>rfl
   case hy31=>(intro wq hSw;(try dsimp only at hSw);go_simp;try with_reducible rfl)
   try simp only [Act.put,List.setIfInBounds_toArray,List.set_cons_zero,List.set_cons_succ]
   refine wpAnyH_take (i:=1) (oi:=?oi32) (v:=?v32) ?ho32 ?ka32 ?kb32 ?kc32 (fun _ _ _ h=>h) (Or.inl ⟨?kw32,?hy32⟩) (by assumption) ?rest32
   case ho32=>(simp only [List.getElem?_toArray,List.getElem?_cons_zero,List.getElem?_cons_succ];rfl)
   case ka32=>kernel_rfl
   case kb32=>kernel_rfl
   case kc32=>kernel_rfl
   case kw32=>rfl
   case hy32=>(intro wq hSw;(try dsimp only at hSw);go_simp;try with_reducible rfl)
   try simp only [Act.put,List.setIfInBounds_toArray,List.set_cons_zero,List.set_cons_succ]
   refine wpAnyH_take (i:=2) (oi:=?oi33) (v:=?v33) ?ho33 ?ka33 ?kb33 ?kc33 (fun _ _ _ h=>h) (Or.inl ⟨?kw33,?hy33⟩) (by assumption) ?rest33
   case ho33=>(simp only [List.getElem?_toArray,List.getElem?_cons_zero,List.getElem?_cons_succ];rfl)
   case ka33=>kernel_rfl
   case kb33=>kernel_rfl
   case kc33=>kernel_rfl
   case kw33=>rfl
   case hy33=>(intro wq hSw;(try dsimp only at hSw);go_simp;try with_reducible rfl)
   try simp only [Act.put,List.setIfInBounds_toArray,List.set_cons_zero,List.set_cons_succ]
   refine wpAnyH_take (i:=3) (oi:=?oi34) (v:=?v34) ?ho34 ?ka34 ?kb34 ?kc34 (fun _ _ _ h=>h) (Or.inl ⟨?kw34,?hy34⟩) (by assumption) ?rest34
   case ho34=>(simp only [List.getElem?_toArray,List.getElem?_cons_zero,List.getElem?_cons_succ];rfl)
   case ka34=>kernel_rfl
   case kb34=>kernel_rfl
   case kc34=>kernel_rfl
   case kw34=>rfl
   case hy34=>(intro wq hSw;(try dsimp only at hSw);go_simp;try with_reducible rfl)
   try simp only [Act.put,List.setIfInBounds_toArray,List.set_cons_zero,List.set_cons_succ]
   refine wpAnyH_take (i:=4) (oi:=?oi35) (v:=?v35) ?ho35 ?ka35 ?kb35 ?kc35 (fun _ _ _ h=>h) (Or.inl ⟨?kw35,?hy35⟩) (by assumption) ?rest35
   case ho35=>(simp only [List.getElem?_toArray,List.getElem?_cons_zero,List.getElem?_cons_succ];rfl)
   case ka35=>kernel_rfl
   case kb35=>kernel_rfl
   case kc35=>kernel_rfl
   case kw35=>rfl
   case hy35=>(intro wq hSw;(try dsimp only at hSw);go_simp;try with_reducible rfl)
   try simp only [Act.put,List.setIfInBounds_toArray,List.set_cons_zero,List.set_cons_succ]
   refine wpAnyH_take (i:=5) (oi:=?oi36) (v:=?v36) ?ho36 ?ka36 ?kb36 ?kc36 (fun _ _ _ h=>h) (Or.inl ⟨?kw36,?hy36⟩) (by assumption) ?rest36
   case ho36=>(simp only [List.getElem?_toArray,List.getElem?_cons_zero,List.getElem?_cons_succ];rfl)
   case ka36=>kernel_rfl
   case kb36=>kernel_rfl
   case kc36=>kernel_rfl
   case kw36=>rfl
   case hy36=>(intro wq hSw;(try dsimp only at hSw);go_simp;try with_reducible rfl)
   try simp only [Act.put,List.setIfInBounds_toArray,List.set_cons_zero,List.set_cons_succ]
   refine wpAnyH_ready (rs:=[6]) (by kernel_rfl) (by simp) ?_
   refine AllReadyH.cons (o:=?oi37) ?ho37 (fun K hK=>?st37) AllReadyH.nil
   case ho37=>(simp only [List.getElem?_toArray,List.getElem?_cons_zero,List.getElem?_cons_succ];rfl)
   go_simp
   refine (HSEC.out _).mono ?_
   rintro e w3 ⟨rfl,hb3⟩
   have HX3:Hid (Below w2.heap.size w2 w3):=hid (thenB_ HX0.out hb3)
   clear hb3
   go_wp2_with fail
   refine hK.out _ _ (HS.out _ HX3.out) (fun hHeld=>?_)
   clear hK K
   try simp only [Act.put,List.setIfInBounds_toArray,List.set_cons_zero,List.set_cons_succ]
   refine wpAnyH_take (i:=7) (oi:=?oi38) (v:=?v38) ?ho38 ?ka38 ?kb38 ?kc38 (fun _ _ _ h=>h) (Or.inl ⟨?kw38,?hy38⟩) (by assumption) ?rest38
   case ho38=>(simp only [List.getElem?_toArray,List.getElem?_cons_zero,List.getElem?_cons_succ];rfl)
   case ka38=>kernel_rfl
   case kb38=>kernel_rfl
   case kc38=>kernel_rfl
   case kw38=>rfl
   case hy38=>(intro wq hSw;(try dsimp only at hSw);go_simp;try with_reducible rfl)
   try simp only [Act.put,List.setIfInBounds_toArray,List.set_cons_zero,List.set_cons_succ]
   refine wpAnyH_take (i:=8) (oi:=?oi39) (v:=?v39) ?ho39 ?ka39 ?kb39 ?kc39 (fun _ _ _ h=>h) (Or.inl ⟨?kw39,?hy39⟩) (by assumption) ?rest39
   case ho39=>(simp only [List.getElem?_toArray,List.getElem?_cons_zero,List.getElem?_cons_succ];rfl)
   case ka39=>kernel_rfl
   case kb39=>kernel_rfl
   case kc39=>kernel_rfl
   case kw39=>rfl
   case hy39=>(intro wq hSw;(try dsimp only at hSw);go_simp;try with_reducible rfl)
   try simp only [Act.put,List.setIfInBounds_toArray,List.set_cons_zero,List.set_cons_succ]
   refine wpAnyH_take (i:=9) (oi:=?oi40) (v:=?v40) ?ho40 ?ka40 ?kb40 ?kc40 (fun _ _ _ h=>h) (Or.inl ⟨?kw40,?hy40⟩) (by assumption) ?rest40
   case ho40=>(simp only [List.getElem?_toArray,List.getElem?_cons_zero,List.getElem?_cons_succ];rfl)
   case ka40=>kernel_rfl
   case kb40=>kernel_rfl
   case kc40=>kernel_rfl
   case kw40=>rfl
   case hy40=>(intro wq hSw;(try dsimp only at hSw);go_simp;try with_reducible rfl)
   try simp only [Act.put,List.setIfInBounds_toArray,List.set_cons_zero,List.set_cons_succ]
   refine wpAnyH_take (i:=10) (oi:=?oi41) (v:=?v41) ?ho41 ?ka41 ?kb41 ?kc41 (fun _ _ _ h=>h) (Or.inl ⟨?kw41,?hy41⟩) (by assumption) ?rest41
   case ho41=>(simp only [List.getElem?_toArray,List.getElem?_cons_zero,List.getElem?_cons_succ];rfl)
   case ka41=>kernel_rfl
   case kb41=>kernel_rfl
   case kc41=>kernel_rfl
   case kw41=>rfl
   case hy41=>(intro wq hSw;(try dsimp only at hSw);go_simp;try with_reducible rfl)
   try simp only [Act.put,List.setIfInBounds_toArray,List.set_cons_zero,List.set_cons_succ]
   refine wpAnyH_take (i:=11) (oi:=?oi42) (v:=?v42) ?ho42 ?ka42 ?kb42 ?kc42 (fun _ _ _ h=>h) (Or.inl ⟨?kw42,?hy42⟩) (by assumption) ?rest42
   case ho42=>(simp only [List.getElem?_toArray,List.getElem?_cons_zero,List.getElem?_cons_succ];rfl)
   case ka42=>kernel_rfl
   case kb42=>kernel_rfl
   case kc42=>kernel_rfl
   case kw42=>rfl
   case hy42=>(intro wq hSw;(try dsimp only at hSw);go_simp;try with_reducible rfl)
   try simp only [Act.put,List.setIfInBounds_toArray,List.set_cons_zero,List.set_cons_succ]
   refine wpAnyH_done (by kernel_rfl) ?_ _
   refine NoPanic.normal ?_
   clear hHeld
   have HBX:=hid (HB2.out.trans (HX3.out.mono HB2.out.size))
   clear HS HX0
   have HKR:=hid (HKB.out.fr (Fr.of_below (F:=fun _=>False) HBX.out) (fun h=>h))
   have HBR:=hid (HB0.out.trans (HBX.out.mono HB0.out.size))
   go_wp2_with (first|(refine wpl_store rfl 39 (.tmp 8) (.tmp 67) rfl (w.heap.size+1) 0 rfl sub0 rfl HKR.out (Nat.le_refl 34) sub0 rfl (by kernel_rfl) sub0_one ?_;intro wz hkz hfz))
   exact ret_cell2 rfl rfl rfl rfl hkz _ Tryz.underlying39 rfl (by kernel_rfl) (HRT.out _ _ (below_upfr HBR.out (Nat.le_refl _) hfz (fun k e=>by omega)) HE.out)
  .have HE:=hid hx
   rw [h1] at HTK
   have htk:0<=now/\now<=549755813888:=by
    unfold tickB at h1
    simp only [Bool.and_eq_true,decide_eq_true_eq] at h1
    exact h1
   have HTI:=hid htk
   have HST:=hid h2
   have d2:(x.s.state == 2)=false:=by simpa using h2
   have HTA:Hid (∀ W,Below w0.heap.size w0 W->Calls Tryz.prog 42 #[.agg (dlgA x.s.dlg x.v),.agg (reqA r q)] W fun e w'=>∃ v',e=.returned (.tuple #[.agg (dlgA (agaN x.s r).dlg v'),.int .i64 (takR x.s.dlg r).err])/\DlgM w' (agaN x.s r).dlg v'/\Below W.heap.size W w'):=hid (fun W hW=>by
    have m:=HTB.out.sub x HX.out
    exact Take_any (Nat.le_trans HBB.out hW.size) (DlgM.below ⟨⟨m.lp,m.lh,m.la⟩,⟨m.rp,m.rh,m.ra⟩,m.tp,m.th,m.ro⟩ hW) (HR0.out.below (hW.mono HBB.out)) HZX.out.pl HZX.out.pr HZ.out.co)
   have HSEC:Hid (∀ W,Calls Tryz.prog 36 #[.agg #[.string (str c.host),.int .i64 c.calls,.int .i64 c.pubs,.int .i64 c.subs,.int .i64 c.least,.int .i64 c.most,.int .i64 c.usual],.int .i64 r.exp] W fun e w'=>e=.returned (.tuple #[.int .i64 (secN c r.exp),.bool (secK c r.exp)])/\Below W.heap.size W w'):=hid (fun W=>seconds_any c r.exp W)
   have HIS:Hid (∀ W,Below w0.heap.size w0 W->Calls Tryz.prog 43 #[.agg #[.string (str x.s.ev.name),x.v.ev],.agg #[.string (str r.ev.name),q.ev]] W fun e w'=>e=.returned (.bool (evIs x.s.ev r.ev))/\Below W.heap.size W w'):=hid (fun W hW=>Is_any (B:=w0.heap.size) hW.size ((HTB.out.sub x HX.out).ev.prB.below hW) ((HR0.out.ev.up HBB.out).below hW) HZX.out.pe HZ.out.evP)
   have HSN:=hid (sec_lo HQ.out.right r.exp)
   rw [hq0] at HTA
   have hd0:∃ d0,Value.agg (dlgA x.s.dlg x.v)=d0:=⟨_,rfl⟩
   obtain ⟨d0,hd0⟩:=hd0
   rw [hd0] at HTA
   rw [h3] at HTA
   rw [h4] at HIS
   clear h3 h4
   clear hx h1 h2 htk
   go_upto_region 8 with (first|(go_at_call 33;refine (hm.out).mono ?_;rintro e w' ⟨rfl,rfl⟩)|(go_at_call 34;refine (HTK.out _).mono ?_;rintro e w' ⟨rfl,rfl⟩))
   have HS:Hid (∀ W,Below w0.heap.size w0 W->W.rangeAt x.b 8 (dlgA x.s.dlg x.v).toList/\W.rangeAt w.heap.size 0 (reqA r q).toList):=hid (fun W hW=>⟨blk_range (off:=8) ((HTB.out.its x HX.out).fr (Fr.of_below (F:=fun _=>False) hW) (fun h=>h)) rfl,blk_range (off:=0) (HKA.out.fr (Fr.of_below (F:=fun _=>False) hW) (fun h=>h)) rfl⟩)
   have HX0:Hid (Below w0.heap.size w0 w0.drew):=hid (Below.refl _ _).drew
   refine wp_region_noPanic ?_
   refine wp_region_held_drew (S:=fun W=>W.rangeAt x.b 8 (dlgA x.s.dlg x.v).toList/\W.rangeAt w.heap.size 0 (reqA r q).toList) (by kernel_rfl) (HS.out _ HX0.out) (fun hHeld=>?_)
   refine wpAnyH_take (i:=0) (oi:=?oi43) (v:=?v43) ?ho43 ?ka43 ?kb43 ?kc43 (fun _ _ _ h=>h) (Or.inl ⟨?kw43,?hy43⟩) (by assumption) ?rest43
   case ho43=>(simp only [List.getElem?_toArray,List.getElem?_cons_zero,List.getElem?_cons_succ];rfl)
   case ka43=>kernel_rfl
   case kb43=>kernel_rfl
   case kc43=>kernel_rfl
   case kw43=>rfl
   case hy43=>(intro wq hSw;(try dsimp only at hSw);go_simp;try with_reducible rfl)
   try simp only [Act.put,List.setIfInBounds_toArray,List.set_cons_zero,List.set_cons_succ]
   refine wpAnyH_take (i:=1) (oi:=?oi44) (v:=?v44) ?ho44 ?ka44 ?kb44 ?kc44 (fun _ _ _ h=>h) (Or.inl ⟨?kw44,?hy44⟩) (by assumption) ?rest44
   case ho44=>(simp only [List.getElem?_toArray,List.getElem?_cons_zero,List.getElem?_cons_succ];rfl)
   case ka44=>kernel_rfl
   case kb44=>kernel_rfl
   case kc44=>kernel_rfl
   case kw44=>rfl
   case hy44=>(intro wq hSw;(try dsimp only at hSw);go_simp;try with_reducible rfl)
   try simp only [Act.put,List.setIfInBounds_toArray,List.set_cons_zero,List.set_cons_succ]
   refine wpAnyH_take (i:=2) (oi:=?oi45) (v:=?v45) ?ho45 ?ka45 ?kb45 ?kc45 (fun _ _ _ h=>h) (Or.inl ⟨?kw45,?hy45⟩) (by assumption) ?rest45
   case ho45=>(simp only [List.getElem?_toArray,List.getElem?_cons_zero,List.getElem?_cons_succ];rfl)
   case ka45=>kernel_rfl
   case kb45=>kernel_rfl
   case kc45=>kernel_rfl
   case kw45=>rfl
   case hy45=>(intro wq hSw;(try dsimp only at hSw);go_simp;try with_reducible rfl)
   try simp only [Act.put,List.setIfInBounds_toArray,List.set_cons_zero,List.set_cons_succ]
   refine wpAnyH_take (i:=3) (oi:=?oi46) (v:=d0) ?ho46 ?ka46 ?kb46 ?kc46 (fun _ _ _ h=>h) ?hy46 (by assumption) ?rest46
   case ho46=>(simp only [List.getElem?_toArray,List.getElem?_cons_zero,List.getElem?_cons_succ];rfl)
   case ka46=>kernel_rfl
   case kb46=>kernel_rfl
   case kc46=>kernel_rfl
   case hy46=>(rw [<-hd0];exact yieldsIf_load_mid (by rfl) 37 (.tmp 48) rfl x.b 8 rfl (dlgA x.s.dlg x.v).toList _ (fun wq hSw=>hSw.1) Tryz.underlying37 rfl (by kernel_rfl))
   try simp only [Act.put,List.setIfInBounds_toArray,List.set_cons_zero,List.set_cons_succ]
   refine wpAnyH_take (i:=4) (oi:=?oi47) (v:=q0) ?ho47 ?ka47 ?kb47 ?kc47 (fun _ _ _ h=>h) ?hy47 (by assumption) ?rest47
   case ho47=>(simp only [List.getElem?_toArray,List.getElem?_cons_zero,List.getElem?_cons_succ];rfl)
   case ka47=>kernel_rfl
   case kb47=>kernel_rfl
   case kc47=>kernel_rfl
   case hy47=>(rw [<-hq0];exact yieldsIf_load_mid (by rfl) 45 (.tmp 7) rfl w.heap.size 0 rfl (reqA r q).toList _ (fun wq hSw=>hSw.2) Tryz.underlying45 rfl (by kernel_rfl))
   try simp only [Act.put,List.setIfInBounds_toArray,List.set_cons_zero,List.set_cons_succ]
   refine wpAnyH_ready (rs:=[5,9]) (by kernel_rfl) (by simp) ?_
   refine AllReadyH.cons (o:=?oi48) ?ho48 (fun K hK=>?st48) ?mo48
   case ho48=>(simp only [List.getElem?_toArray,List.getElem?_cons_zero,List.getElem?_cons_succ];rfl)
   .go_simp
    refine (HTA.out _ HX0.out).mono ?_
    rintro e w1 ⟨v1,rfl,m1,hb1⟩
    have HM1:=hid m1
    have HX1:Hid (Below w0.heap.size w0 w1):=hid (thenB_ HX0.out hb1)
    clear m1 hb1
    go_wp2_with fail
    refine hK.out _ _ (HS.out _ HX1.out) (fun hHeld=>?_)
    clear hK K
    try simp only [Act.put,List.setIfInBounds_toArray,List.set_cons_zero,List.set_cons_succ]
    refine wpAnyH_take (i:=6) (oi:=?oi49) (v:=?v49) ?ho49 ?ka49 ?kb49 ?kc49 (fun _ _ _ h=>h) (Or.inl ⟨?kw49,?hy49⟩) (by assumption) ?rest49
    case ho49=>(simp only [List.getElem?_toArray,List.getElem?_cons_zero,List.getElem?_cons_succ];rfl)
    case ka49=>kernel_rfl
    case kb49=>kernel_rfl
    case kc49=>kernel_rfl
    case kw49=>rfl
    case hy49=>(intro wq hSw;(try dsimp only at hSw);go_simp;try with_reducible rfl)
    try simp only [Act.put,List.setIfInBounds_toArray,List.set_cons_zero,List.set_cons_succ]
    refine wpAnyH_take (i:=7) (oi:=?oi50) (v:=?v50) ?ho50 ?ka50 ?kb50 ?kc50 (fun _ _ _ h=>h) (Or.inl ⟨?kw50,?hy50⟩) (by assumption) ?rest50
    case ho50=>(simp only [List.getElem?_toArray,List.getElem?_cons_zero,List.getElem?_cons_succ];rfl)
    case ka50=>kernel_rfl
    case kb50=>kernel_rfl
    case kc50=>kernel_rfl
    case kw50=>rfl
    case hy50=>(intro wq hSw;(try dsimp only at hSw);go_simp;try with_reducible rfl)
    try simp only [Act.put,List.setIfInBounds_toArray,List.set_cons_zero,List.set_cons_succ]
    refine wpAnyH_take (i:=8) (oi:=?oi51) (v:=?v51) ?ho51 ?ka51 ?kb51 ?kc51 (fun _ _ _ h=>h) (Or.inl ⟨?kw51,?hy51⟩) (by assumption) ?rest51
    case ho51=>(simp only [List.getElem?_toArray,List.getElem?_cons_zero,List.getElem?_cons_succ];rfl)
    case ka51=>kernel_rfl
    case kb51=>kernel_rfl
    case kc51=>kernel_rfl
    case kw51=>rfl
    case hy51=>(intro wq hSw;(try dsimp only at hSw);go_simp;try with_reducible rfl)
    try simp only [Act.put,List.setIfInBounds_toArray,List.set_cons_zero,List.set_cons_succ]
    refine wpAnyH_ready (rs:=[9]) (by kernel_rfl) (by simp) ?_
    refine AllReadyH.cons (o:=?oi52) ?ho52 (fun K hK=>?st52) AllReadyH.nil
    case ho52=>(simp only [List.getElem?_toArray,List.getElem?_cons_zero,List.getElem?_cons_succ];rfl)
    go_simp
    have HZ2:=hid (Blk.new w1 37 dlg0)
    have HXA:Hid (Below w0.heap.size w0 (w1.alloc (.cells dlg0 37))):=hid (thenB_ HX1.out ((Below.refl _ _).alloc (Nat.le_refl _) _))
    have HMA:=hid (HM1.out.below ((Below.refl w1.heap.size w1).alloc (Nat.le_refl _) (.cells dlg0 37)))
    obtain ⟨wa,hwa⟩:∃ u,w1.alloc (.cells #[.string ⟨#[]⟩,.string ⟨#[]⟩,.string ⟨#[]⟩,.string ⟨#[]⟩,.string ⟨#[]⟩,.int .i64 0,.slice none 0 0,.slice none 0 0,.slice none 0 0,.string ⟨#[]⟩,.string ⟨#[]⟩,.string ⟨#[]⟩,.string ⟨#[]⟩,.int .i64 0,.slice none 0 0,.slice none 0 0,.slice none 0 0,.string ⟨#[]⟩,.string ⟨#[]⟩,.string ⟨#[]⟩,.int .i64 0,.slice none 0 0,.slice none 0 0,.slice none 0 0,.int .i64 0,.int .i64 0] 37)=u:=⟨_,rfl⟩
    unfold dlg0 at HZ2 HXA HMA
    rw [hwa] at HZ2 HXA HMA ⊢
    clear hwa
    refine hK.out _ _ (HS.out _ HXA.out) (fun hHeld=>?_)
    clear hK K
    try simp only [Act.put,List.setIfInBounds_toArray,List.set_cons_zero,List.set_cons_succ]
    refine wpAnyH_ready (rs:=[10]) (by kernel_rfl) (by simp) ?_
    refine AllReadyH.cons (o:=?oi53) ?ho53 (fun K hK=>?st53) AllReadyH.nil
    case ho53=>(simp only [List.getElem?_toArray,List.getElem?_cons_zero,List.getElem?_cons_succ];rfl)
    rw [if_pos (by rfl)]
    refine wp_store_mid 37 (.tmp 12) (.tmp 52) rfl (w1.heap.size) 0 (dlgA (agaN x.s r).dlg v1) rfl rfl (blk_there HZ2.out (Nat.le_refl 26)) (by kernel_rfl) (dlgA_one HM1.out.one) ?_
    have hgd:w0.heap.size<=w1.heap.size:=HX1.out.size
    have hk2:Blk (World.setCells wa (w1.heap.size) 0 (dlgA (agaN x.s r).dlg v1).toList) (w1.heap.size) 37 (dlgA (agaN x.s r).dlg v1):=blk_setCells (dlgA (agaN x.s r).dlg v1).toList (off:=0) HZ2.out (Nat.le_refl 26)
    have hb2:=below_sc (off:=0) (l:=(dlgA (agaN x.s r).dlg v1).toList) HXA.out (Nat.le_refl _) hgd
    have hm2:=HMA.out.fr (fr_setCells (w1.heap.size) (dlgA (agaN x.s r).dlg v1).toList 0 wa) (keepP_blk HZ2.out (by decide) (by decide))
    obtain ⟨w2,hu⟩:∃ u,World.setCells wa (w1.heap.size) 0 (dlgA (agaN x.s r).dlg v1).toList=u:=⟨_,rfl⟩
    rw [hu] at hk2 hb2 hm2 ⊢
    clear hu
    have HK2:=hid hk2
    have HB2:=hid hb2
    have HM2:=hid hm2
    have HGD:=hid hgd
    clear hk2 hb2 hm2 hgd
    refine hK.out _ _ (HS.out _ HB2.out) (fun hHeld=>?_)
    clear hK K
    try simp only [Act.put,List.setIfInBounds_toArray,List.set_cons_zero,List.set_cons_succ]
    refine wpAnyH_take (i:=11) (oi:=?oi54) (v:=?v54) ?ho54 ?ka54 ?kb54 ?kc54 (fun _ _ _ h=>h) (Or.inl ⟨?kw54,?hy54⟩) (by assumption) ?rest54
    case ho54=>(simp only [List.getElem?_toArray,List.getElem?_cons_zero,List.getElem?_cons_succ];rfl)
    case ka54=>kernel_rfl
    case kb54=>kernel_rfl
    case kc54=>kernel_rfl
    case kw54=>rfl
    case hy54=>(intro wq hSw;(try dsimp only at hSw);go_simp;try with_reducible rfl)
    try simp only [Act.put,List.setIfInBounds_toArray,List.set_cons_zero,List.set_cons_succ]
    refine wpAnyH_done (by kernel_rfl) ?_ _
    refine NoPanic.normal ?_
    clear hHeld HS
    obtain ⟨gd,hgd⟩:∃ gd,w1.heap.size=gd:=⟨_,rfl⟩
    simp only [hgd] at HK2 HGD ⊢
    clear hgd
    have HS:Hid (∀ W,Below w2.heap.size w2 W->W.cell? ⟨p,0,none⟩=some (.string (str c.host))/\W.cell? ⟨p,1,none⟩=some (.int .i64 c.calls)/\W.cell? ⟨p,2,none⟩=some (.int .i64 c.pubs)/\W.cell? ⟨p,3,none⟩=some (.int .i64 c.subs)/\W.cell? ⟨p,4,none⟩=some (.int .i64 c.least)/\W.cell? ⟨p,5,none⟩=some (.int .i64 c.most)/\W.cell? ⟨p,6,none⟩=some (.int .i64 c.usual)/\W.cell? ⟨w.heap.size,29,none⟩=some (.int .i64 r.exp)):=hid (fun W hW=>by
     have k1:=(HTB.out.below (HB2.out.trans (hW.mono HB2.out.size))).top
     have k2:=HKA.out.fr (Fr.of_below (F:=fun _=>False) (HB2.out.trans (hW.mono HB2.out.size))) (fun h=>h)
     exact ⟨k1.cell 0,k1.cell 1,k1.cell 2,k1.cell 3,k1.cell 4,k1.cell 5,k1.cell 6,k2.cell 29⟩)
    have HX0:Hid (Below w2.heap.size w2 w2.drew):=hid (Below.refl _ _).drew
    go_upto_region 9 with (fail)
    refine wp_region_noPanic ?_
    refine wp_region_held_drew (S:=fun W=>W.cell? ⟨p,0,none⟩=some (.string (str c.host))/\W.cell? ⟨p,1,none⟩=some (.int .i64 c.calls)/\W.cell? ⟨p,2,none⟩=some (.int .i64 c.pubs)/\W.cell? ⟨p,3,none⟩=some (.int .i64 c.subs)/\W.cell? ⟨p,4,none⟩=some (.int .i64 c.least)/\W.cell? ⟨p,5,none⟩=some (.int .i64 c.most)/\W.cell? ⟨p,6,none⟩=some (.int .i64 c.usual)/\W.cell? ⟨w.heap.size,29,none⟩=some (.int .i64 r.exp)) (by kernel_rfl) (HS.out _ HX0.out) (fun hHeld=>?_)
    refine wpAnyH_take (i:=0) (oi:=?oi61) (v:=?v61) ?ho61 ?ka61 ?kb61 ?kc61 (fun _ _ _ h=>h) (Or.inl ⟨?kw61,?hy61⟩) (by assumption) ?rest61
    case ho61=>(simp only [List.getElem?_toArray,List.getElem?_cons_zero,List.getElem?_cons_succ];rfl)
    case ka61=>kernel_rfl
    case kb61=>kernel_rfl
    case kc61=>kernel_rfl
    case kw61=>rfl
    case hy61=>(intro wq hSw;(try dsimp only at hSw);go_simp;try with_reducible rfl)
    try simp only [Act.put,List.setIfInBounds_toArray,List.set_cons_zero,List.set_cons_succ]
    refine wpAnyH_take (i:=1) (oi:=?oi62) (v:=?v62) ?ho62 ?ka62 ?kb62 ?kc62 (fun _ _ _ h=>h) (Or.inl ⟨?kw62,?hy62⟩) (by assumption) ?rest62
    case ho62=>(simp only [List.getElem?_toArray,List.getElem?_cons_zero,List.getElem?_cons_succ];rfl)
    case ka62=>kernel_rfl
    case kb62=>kernel_rfl
    case kc62=>kernel_rfl
    case kw62=>rfl
    case hy62=>(intro wq hSw;(try dsimp only at hSw);go_simp;try with_reducible rfl)
    try simp only [Act.put,List.setIfInBounds_toArray,List.set_cons_zero,List.set_cons_succ]
    refine wpAnyH_take (i:=2) (oi:=?oi63) (v:=?v63) ?ho63 ?ka63 ?kb63 ?kc63 (fun _ _ _ h=>h) (Or.inl ⟨?kw63,?hy63⟩) (by assumption) ?rest63
    case ho63=>(simp only [List.getElem?_toArray,List.getElem?_cons_zero,List.getElem?_cons_succ];rfl)
    case ka63=>kernel_rfl
    case kb63=>kernel_rfl
    case kc63=>kernel_rfl
    case kw63=>rfl
    case hy63=>(intro wq hSw;(try dsimp only at hSw);go_simp;try with_reducible rfl)
    try simp only [Act.put,List.setIfInBounds_toArray,List.set_cons_zero,List.set_cons_succ]
    refine wpAnyH_take (i:=3) (oi:=?oi64) (v:=?v64) ?ho64 ?ka64 ?kb64 ?kc64 (fun _ _ _ h=>h) (Or.inl ⟨?kw64,?hy64⟩) (by assumption) ?rest64
    case ho64=>(simp only [List.getElem?_toArray,List.getElem?_cons_zero,List.getElem?_cons_succ];rfl)
    case ka64=>kernel_rfl
    case kb64=>kernel_rfl
    case kc64=>kernel_rfl
    case kw64=>rfl
    case hy64=>(intro wq hSw;(try dsimp only at hSw);go_simp;try with_reducible rfl)
    try simp only [Act.put,List.setIfInBounds_toArray,List.set_cons_zero,List.set_cons_succ]
    refine wpAnyH_take (i:=4) (oi:=?oi65) (v:=?v65) ?ho65 ?ka65 ?kb65 ?kc65 (fun _ _ _ h=>h) (Or.inl ⟨?kw65,?hy65⟩) (by assumption) ?rest65
    case ho65=>(simp only [List.getElem?_toArray,List.getElem?_cons_zero,List.getElem?_cons_succ];rfl)
    case ka65=>kernel_rfl
    case kb65=>kernel_rfl
    case kc65=>kernel_rfl
    case kw65=>rfl
    case hy65=>(intro wq hSw;(try dsimp only at hSw);go_simp;try with_reducible rfl)
    try simp only [Act.put,List.setIfInBounds_toArray,List.set_cons_zero,List.set_cons_succ]
    refine wpAnyH_take (i:=5) (oi:=?oi66) (v:=?v66) ?ho66 ?ka66 ?kb66 ?kc66 (fun _ _ _ h=>h) (Or.inl ⟨?kw66,?hy66⟩) (by assumption) ?rest66
    case ho66=>(simp only [List.getElem?_toArray,List.getElem?_cons_zero,List.getElem?_cons_succ];rfl)
    case ka66=>kernel_rfl
    case kb66=>kernel_rfl
    case kc66=>kernel_rfl
    case kw66=>rfl
    case hy66=>(intro wq hSw;(try dsimp only at hSw);go_simp;try with_reducible rfl)
    try simp only [Act.put,List.setIfInBounds_toArray,List.set_cons_zero,List.set_cons_succ]
    refine wpAnyH_ready (rs:=[6]) (by kernel_rfl) (by simp) ?_
    refine AllReadyH.cons (o:=?oi67) ?ho67 (fun K hK=>?st67) AllReadyH.nil
    case ho67=>(simp only [List.getElem?_toArray,List.getElem?_cons_zero,List.getElem?_cons_succ];rfl)
    go_simp
    refine (HSEC.out _).mono ?_
    rintro e w3 ⟨rfl,hb3⟩
    have HX3:Hid (Below w2.heap.size w2 w3):=hid (thenB_ HX0.out hb3)
    clear hb3
    go_wp2_with fail
    refine hK.out _ _ (HS.out _ HX3.out) (fun hHeld=>?_)
    clear hK K
    try simp only [Act.put,List.setIfInBounds_toArray,List.set_cons_zero,List.set_cons_succ]
    refine wpAnyH_take (i:=7) (oi:=?oi68) (v:=?v68) ?ho68 ?ka68 ?kb68 ?kc68 (fun _ _ _ h=>h) (Or.inl ⟨?kw68,?hy68⟩) (by assumption) ?rest68
    case ho68=>(simp only [List.getElem?_toArray,List.getElem?_cons_zero,List.getElem?_cons_succ];rfl)
    case ka68=>kernel_rfl
    case kb68=>kernel_rfl
    case kc68=>kernel_rfl
    case kw68=>rfl
    case hy68=>(intro wq hSw;(try dsimp only at hSw);go_simp;try with_reducible rfl)
    try simp only [Act.put,List.setIfInBounds_toArray,List.set_cons_zero,List.set_cons_succ]
    refine wpAnyH_take (i:=8) (oi:=?oi69) (v:=?v69) ?ho69 ?ka69 ?kb69 ?kc69 (fun _ _ _ h=>h) (Or.inl ⟨?kw69,?hy69⟩) (by assumption) ?rest69
    case ho69=>(simp only [List.getElem?_toArray,List.getElem?_cons_zero,List.getElem?_cons_succ];rfl)
    case ka69=>kernel_rfl
    case kb69=>kernel_rfl
    case kc69=>kernel_rfl
    case kw69=>rfl
    case hy69=>(intro wq hSw;(try dsimp only at hSw);go_simp;try with_reducible rfl)
    try simp only [Act.put,List.setIfInBounds_toArray,List.set_cons_zero,List.set_cons_succ]
    refine wpAnyH_take (i:=9) (oi:=?oi70) (v:=?v70) ?ho70 ?ka70 ?kb70 ?kc70 (fun _ _ _ h=>h) (Or.inl ⟨?kw70,?hy70⟩) (by assumption) ?rest70
    case ho70=>(simp only [List.getElem?_toArray,List.getElem?_cons_zero,List.getElem?_cons_succ];rfl)
    case ka70=>kernel_rfl
    case kb70=>kernel_rfl
    case kc70=>kernel_rfl
    case kw70=>rfl
    case hy70=>(intro wq hSw;(try dsimp only at hSw);go_simp;try with_reducible rfl)
    try simp only [Act.put,List.setIfInBounds_toArray,List.set_cons_zero,List.set_cons_succ]
    refine wpAnyH_take (i:=10) (oi:=?oi71) (v:=?v71) ?ho71 ?ka71 ?kb71 ?kc71 (fun _ _ _ h=>h) (Or.inl ⟨?kw71,?hy71⟩) (by assumption) ?rest71
    case ho71=>(simp only [List.getElem?_toArray,List.getElem?_cons_zero,List.getElem?_cons_succ];rfl)
    case ka71=>kernel_rfl
    case kb71=>kernel_rfl
    case kc71=>kernel_rfl
    case kw71=>rfl
    case hy71=>(intro wq hSw;(try dsimp only at hSw);go_simp;try with_reducible rfl)
    try simp only [Act.put,List.setIfInBounds_toArray,List.set_cons_zero,List.set_cons_succ]
    refine wpAnyH_take (i:=11) (oi:=?oi72) (v:=?v72) ?ho72 ?ka72 ?kb72 ?kc72 (fun _ _ _ h=>h) (Or.inl ⟨?kw72,?hy72⟩) (by assumption) ?rest72
    case ho72=>(simp only [List.getElem?_toArray,List.getElem?_cons_zero,List.getElem?_cons_succ];rfl)
    case ka72=>kernel_rfl
    case kb72=>kernel_rfl
    case kc72=>kernel_rfl
    case kw72=>rfl
    case hy72=>(intro wq hSw;(try dsimp only at hSw);go_simp;try with_reducible rfl)
    try simp only [Act.put,List.setIfInBounds_toArray,List.set_cons_zero,List.set_cons_succ]
    refine wpAnyH_done (by kernel_rfl) ?_ _
    refine NoPanic.normal ?_
    clear hHeld
    have HBX:=hid (HB2.out.trans (HX3.out.mono HB2.out.size))
    clear HS HX0
    go_upto_region 12 with (fail)
    have HS:Hid (∀ W,Below w0.heap.size w0 W->W.rangeAt x.b 3 [.string (str x.s.ev.name),x.v.ev]/\W.rangeAt w.heap.size 30 [.string (str r.ev.name),q.ev]):=hid (fun W hW=>⟨blk_range (off:=3) ((HTB.out.its x HX.out).fr (Fr.of_below (F:=fun _=>False) hW) (fun h=>h)) rfl,blk_range (off:=30) (HKA.out.fr (Fr.of_below (F:=fun _=>False) hW) (fun h=>h)) rfl⟩)
    refine wp_region_noPanic ?_
    refine wp_region_held_drew (S:=fun W=>W.rangeAt x.b 3 [.string (str x.s.ev.name),x.v.ev]/\W.rangeAt w.heap.size 30 [.string (str r.ev.name),q.ev]) (by kernel_rfl) (HS.out _ HBX.out.drew) (fun hHeld=>?_)
    refine wpAnyH_take (i:=0) (oi:=?oi73) (v:=?v73) ?ho73 ?ka73 ?kb73 ?kc73 (fun _ _ _ h=>h) (Or.inl ⟨?kw73,?hy73⟩) (by assumption) ?rest73
    case ho73=>(simp only [List.getElem?_toArray,List.getElem?_cons_zero,List.getElem?_cons_succ];rfl)
    case ka73=>kernel_rfl
    case kb73=>kernel_rfl
    case kc73=>kernel_rfl
    case kw73=>rfl
    case hy73=>(intro wq hSw;(try dsimp only at hSw);go_simp;try with_reducible rfl)
    try simp only [Act.put,List.setIfInBounds_toArray,List.set_cons_zero,List.set_cons_succ]
    refine wpAnyH_take (i:=1) (oi:=?oi74) (v:=?v74) ?ho74 ?ka74 ?kb74 ?kc74 (fun _ _ _ h=>h) (Or.inl ⟨?kw74,?hy74⟩) (by assumption) ?rest74
    case ho74=>(simp only [List.getElem?_toArray,List.getElem?_cons_zero,List.getElem?_cons_succ];rfl)
    case ka74=>kernel_rfl
    case kb74=>kernel_rfl
    case kc74=>kernel_rfl
    case kw74=>rfl
    case hy74=>(intro wq hSw;(try dsimp only at hSw);go_simp;try with_reducible rfl)
    try simp only [Act.put,List.setIfInBounds_toArray,List.set_cons_zero,List.set_cons_succ]
    refine wpAnyH_take (i:=2) (oi:=?oi75) (v:=?v75) ?ho75 ?ka75 ?kb75 ?kc75 (fun _ _ _ h=>h) (Or.inl ⟨?kw75,?hy75⟩) (by assumption) ?rest75
    case ho75=>(simp only [List.getElem?_toArray,List.getElem?_cons_zero,List.getElem?_cons_succ];rfl)
    case ka75=>kernel_rfl
    case kb75=>kernel_rfl
    case kc75=>kernel_rfl
    case kw75=>rfl
    case hy75=>(intro wq hSw;(try dsimp only at hSw);go_simp;try with_reducible rfl)
    try simp only [Act.put,List.setIfInBounds_toArray,List.set_cons_zero,List.set_cons_succ]
    refine wpAnyH_take (i:=3) (oi:=?oi76) (v:=.agg #[.string (str x.s.ev.name),x.v.ev]) ?ho76 ?ka76 ?kb76 ?kc76 (fun _ _ _ h=>h) ?hy76 (by assumption) ?rest76
    case ho76=>(simp only [List.getElem?_toArray,List.getElem?_cons_zero,List.getElem?_cons_succ];rfl)
    case ka76=>kernel_rfl
    case kb76=>kernel_rfl
    case kc76=>kernel_rfl
    case hy76=>(exact yieldsIf_load_mid (by rfl) 30 (.tmp 72) rfl x.b 3 rfl [.string (str x.s.ev.name),x.v.ev] _ (fun wq hSw=>hSw.1) Tryz.underlying30 rfl (by kernel_rfl))
    try simp only [Act.put,List.setIfInBounds_toArray,List.set_cons_zero,List.set_cons_succ]
    refine wpAnyH_take (i:=4) (oi:=?oi77) (v:=?v77) ?ho77 ?ka77 ?kb77 ?kc77 (fun _ _ _ h=>h) (Or.inl ⟨?kw77,?hy77⟩) (by assumption) ?rest77
    case ho77=>(simp only [List.getElem?_toArray,List.getElem?_cons_zero,List.getElem?_cons_succ];rfl)
    case ka77=>kernel_rfl
    case kb77=>kernel_rfl
    case kc77=>kernel_rfl
    case kw77=>rfl
    case hy77=>(intro wq hSw;(try dsimp only at hSw);go_simp;try with_reducible rfl)
    try simp only [Act.put,List.setIfInBounds_toArray,List.set_cons_zero,List.set_cons_succ]
    refine wpAnyH_take (i:=5) (oi:=?oi78) (v:=.agg #[.string (str r.ev.name),q.ev]) ?ho78 ?ka78 ?kb78 ?kc78 (fun _ _ _ h=>h) ?hy78 (by assumption) ?rest78
    case ho78=>(simp only [List.getElem?_toArray,List.getElem?_cons_zero,List.getElem?_cons_succ];rfl)
    case ka78=>kernel_rfl
    case kb78=>kernel_rfl
    case kc78=>kernel_rfl
    case hy78=>(exact yieldsIf_load_mid (by rfl) 30 (.tmp 74) rfl w.heap.size 30 rfl [.string (str r.ev.name),q.ev] _ (fun wq hSw=>hSw.2) Tryz.underlying30 rfl (by kernel_rfl))
    try simp only [Act.put,List.setIfInBounds_toArray,List.set_cons_zero,List.set_cons_succ]
    refine wpAnyH_ready (rs:=[6]) (by kernel_rfl) (by simp) ?_
    refine AllReadyH.cons (o:=?oi79) ?ho79 (fun K hK=>?st79) AllReadyH.nil
    case ho79=>(simp only [List.getElem?_toArray,List.getElem?_cons_zero,List.getElem?_cons_succ];rfl)
    go_simp
    refine (HIS.out _ HBX.out.drew).mono ?_
    rintro e w4 ⟨rfl,hb4⟩
    have HB4:Hid (Below w0.heap.size w0 w4):=hid (thenB_ HBX.out.drew hb4)
    clear hb4
    go_wp2_with fail
    refine hK.out _ _ (HS.out _ HB4.out) (fun hHeld=>?_)
    clear hK K
    try simp only [Act.put,List.setIfInBounds_toArray,List.set_cons_zero,List.set_cons_succ]
    refine wpAnyH_take (i:=7) (oi:=?oi80) (v:=?v80) ?ho80 ?ka80 ?kb80 ?kc80 (fun _ _ _ h=>h) (Or.inl ⟨?kw80,?hy80⟩) (by assumption) ?rest80
    case ho80=>(simp only [List.getElem?_toArray,List.getElem?_cons_zero,List.getElem?_cons_succ];rfl)
    case ka80=>kernel_rfl
    case kb80=>kernel_rfl
    case kc80=>kernel_rfl
    case kw80=>rfl
    case hy80=>(intro wq hSw;(try dsimp only at hSw);go_simp;try with_reducible rfl)
    try simp only [Act.put,List.setIfInBounds_toArray,List.set_cons_zero,List.set_cons_succ]
    refine wpAnyH_take (i:=8) (oi:=?oi81) (v:=?v81) ?ho81 ?ka81 ?kb81 ?kc81 (fun _ _ _ h=>h) (Or.inl ⟨?kw81,?hy81⟩) (by assumption) ?rest81
    case ho81=>(simp only [List.getElem?_toArray,List.getElem?_cons_zero,List.getElem?_cons_succ];rfl)
    case ka81=>kernel_rfl
    case kb81=>kernel_rfl
    case kc81=>kernel_rfl
    case kw81=>rfl
    case hy81=>(intro wq hSw;(try dsimp only at hSw);go_simp;try with_reducible rfl)
    try simp only [Act.put,List.setIfInBounds_toArray,List.set_cons_zero,List.set_cons_succ]
    refine wpAnyH_done (by kernel_rfl) ?_ _
    refine NoPanic.normal ?_
    clear hHeld HS
    have HKR:=hid (HKB.out.fr (Fr.of_below (F:=fun _=>False) HB4.out) (fun h=>h))
    have HBR:=hid (HB0.out.trans (HB4.out.mono HB0.out.size))
    go_wp2_with (first|(refine wpl_store rfl 39 (.tmp 8) (.tmp 78) rfl (w.heap.size+1) 0 rfl sub0 rfl HKR.out (Nat.le_refl 34) sub0 rfl (by kernel_rfl) sub0_one ?_;intro wz hkz hfz))
    exact ret_cell2 rfl rfl rfl rfl hkz _ Tryz.underlying39 rfl (by kernel_rfl) (HRT.out _ _ (below_upfr HBR.out (Nat.le_refl _) hfz (fun k e=>by omega)) HE.out)
   refine AllReadyH.cons (o:=?oi9991) ?ho9991 (fun K hK=>?st9991) AllReadyH.nil
   case ho9991=>(simp only [List.getElem?_toArray,List.getElem?_cons_zero,List.getElem?_cons_succ];rfl)
   go_simp
   have HZ0:=hid ((Blk.new w0 37 dlg0).drewN 1)
   have HXA:Hid (Below w0.heap.size w0 ((w0.alloc (.cells dlg0 37)).drew)):=hid ((Below.refl _ _).alloc (Nat.le_refl _) _).drew
   unfold dlg0 at HZ0 HXA
   change Hid (Blk (World.drew (w0.alloc (.cells #[.string ⟨#[]⟩,.string ⟨#[]⟩,.string ⟨#[]⟩,.string ⟨#[]⟩,.string ⟨#[]⟩,.int .i64 0,.slice none 0 0,.slice none 0 0,.slice none 0 0,.string ⟨#[]⟩,.string ⟨#[]⟩,.string ⟨#[]⟩,.string ⟨#[]⟩,.int .i64 0,.slice none 0 0,.slice none 0 0,.slice none 0 0,.string ⟨#[]⟩,.string ⟨#[]⟩,.string ⟨#[]⟩,.int .i64 0,.slice none 0 0,.slice none 0 0,.slice none 0 0,.int .i64 0,.int .i64 0] 37))) _ _ _) at HZ0
   obtain ⟨wa,hwa⟩:∃ u,(w0.alloc (.cells #[.string ⟨#[]⟩,.string ⟨#[]⟩,.string ⟨#[]⟩,.string ⟨#[]⟩,.string ⟨#[]⟩,.int .i64 0,.slice none 0 0,.slice none 0 0,.slice none 0 0,.string ⟨#[]⟩,.string ⟨#[]⟩,.string ⟨#[]⟩,.string ⟨#[]⟩,.int .i64 0,.slice none 0 0,.slice none 0 0,.slice none 0 0,.string ⟨#[]⟩,.string ⟨#[]⟩,.string ⟨#[]⟩,.int .i64 0,.slice none 0 0,.slice none 0 0,.slice none 0 0,.int .i64 0,.int .i64 0] 37)).drew=u:=⟨_,rfl⟩
   rw [hwa] at HZ0 HXA ⊢
   clear hwa
   refine hK.out _ _ (HS.out _ HXA.out) (fun hHeld=>?_)
   clear hK K
   try simp only [Act.put,List.setIfInBounds_toArray,List.set_cons_zero,List.set_cons_succ]
   refine wpAnyH_ready (rs:=[5]) (by kernel_rfl) (by simp) ?_
   refine AllReadyH.cons (o:=?oi55) ?ho55 (fun K hK=>?st55) AllReadyH.nil
   case ho55=>(simp only [List.getElem?_toArray,List.getElem?_cons_zero,List.getElem?_cons_succ];rfl)
   go_simp
   refine (HTA.out _ HXA.out).mono ?_
   rintro e w1 ⟨v1,rfl,m1,hb1⟩
   have HM1:=hid m1
   have HX1:Hid (Below w0.heap.size w0 w1):=hid (thenB_ HXA.out hb1)
   have HZ1:=hid (HZ0.out.fr (Fr.of_below (F:=fun _=>False) hb1) (fun h=>h))
   clear m1 hb1
   go_wp2_with fail
   refine hK.out _ _ (HS.out _ HX1.out) (fun hHeld=>?_)
   clear hK K
   try simp only [Act.put,List.setIfInBounds_toArray,List.set_cons_zero,List.set_cons_succ]
   refine wpAnyH_take (i:=6) (oi:=?oi56) (v:=?v56) ?ho56 ?ka56 ?kb56 ?kc56 (fun _ _ _ h=>h) (Or.inl ⟨?kw56,?hy56⟩) (by assumption) ?rest56
   case ho56=>(simp only [List.getElem?_toArray,List.getElem?_cons_zero,List.getElem?_cons_succ];rfl)
   case ka56=>kernel_rfl
   case kb56=>kernel_rfl
   case kc56=>kernel_rfl
   case kw56=>rfl
   case hy56=>(intro wq hSw;(try dsimp only at hSw);go_simp;try with_reducible rfl)
   try simp only [Act.put,List.setIfInBounds_toArray,List.set_cons_zero,List.set_cons_succ]
   refine wpAnyH_take (i:=7) (oi:=?oi57) (v:=?v57) ?ho57 ?ka57 ?kb57 ?kc57 (fun _ _ _ h=>h) (Or.inl ⟨?kw57,?hy57⟩) (by assumption) ?rest57
   case ho57=>(simp only [List.getElem?_toArray,List.getElem?_cons_zero,List.getElem?_cons_succ];rfl)
   case ka57=>kernel_rfl
   case kb57=>kernel_rfl
   case kc57=>kernel_rfl
   case kw57=>rfl
   case hy57=>(intro wq hSw;(try dsimp only at hSw);go_simp;try with_reducible rfl)
   try simp only [Act.put,List.setIfInBounds_toArray,List.set_cons_zero,List.set_cons_succ]
   refine wpAnyH_take (i:=8) (oi:=?oi58) (v:=?v58) ?ho58 ?ka58 ?kb58 ?kc58 (fun _ _ _ h=>h) (Or.inl ⟨?kw58,?hy58⟩) (by assumption) ?rest58
   case ho58=>(simp only [List.getElem?_toArray,List.getElem?_cons_zero,List.getElem?_cons_succ];rfl)
   case ka58=>kernel_rfl
   case kb58=>kernel_rfl
   case kc58=>kernel_rfl
   case kw58=>rfl
   case hy58=>(intro wq hSw;(try dsimp only at hSw);go_simp;try with_reducible rfl)
   try simp only [Act.put,List.setIfInBounds_toArray,List.set_cons_zero,List.set_cons_succ]
   refine wpAnyH_ready (rs:=[10]) (by kernel_rfl) (by simp) ?_
   refine AllReadyH.cons (o:=?oi59) ?ho59 (fun K hK=>?st59) AllReadyH.nil
   case ho59=>(simp only [List.getElem?_toArray,List.getElem?_cons_zero,List.getElem?_cons_succ];rfl)
   rw [if_pos (by rfl)]
   refine wp_store_mid 37 (.tmp 12) (.tmp 52) rfl (w0.heap.size) 0 (dlgA (agaN x.s r).dlg v1) rfl rfl (blk_there HZ1.out (Nat.le_refl 26)) (by kernel_rfl) (dlgA_one HM1.out.one) ?_
   have hgd:w0.heap.size<=w0.heap.size:=Nat.le_refl _
   have hk2:Blk (World.setCells w1 (w0.heap.size) 0 (dlgA (agaN x.s r).dlg v1).toList) (w0.heap.size) 37 (dlgA (agaN x.s r).dlg v1):=blk_setCells (dlgA (agaN x.s r).dlg v1).toList (off:=0) HZ1.out (Nat.le_refl 26)
   have hb2:=below_sc (off:=0) (l:=(dlgA (agaN x.s r).dlg v1).toList) HX1.out (Nat.le_refl _) hgd
   have hm2:=HM1.out.fr (fr_setCells (w0.heap.size) (dlgA (agaN x.s r).dlg v1).toList 0 w1) (keepP_blk HZ1.out (by decide) (by decide))
   obtain ⟨w2,hu⟩:∃ u,World.setCells w1 (w0.heap.size) 0 (dlgA (agaN x.s r).dlg v1).toList=u:=⟨_,rfl⟩
   rw [hu] at hk2 hb2 hm2 ⊢
   clear hu
   have HK2:=hid hk2
   have HB2:=hid hb2
   have HM2:=hid hm2
   have HGD:=hid hgd
   clear hk2 hb2 hm2 hgd
   refine hK.out _ _ (HS.out _ HB2.out) (fun hHeld=>?_)
   clear hK K
   try simp only [Act.put,List.setIfInBounds_toArray,List.set_cons_zero,List.set_cons_succ]
   refine wpAnyH_take (i:=11) (oi:=?oi60) (v:=?v60) ?ho60 ?ka60 ?kb60 ?kc60 (fun _ _ _ h=>h) (Or.inl ⟨?kw60,?hy60⟩) (by assumption) ?rest60
   case ho60=>(simp only [List.getElem?_toArray,List.getElem?_cons_zero,List.getElem?_cons_succ];rfl)
   case ka60=>kernel_rfl
   case kb60=>kernel_rfl
   case kc60=>kernel_rfl
   case kw60=>rfl
   case hy60=>(intro wq hSw;(try dsimp only at hSw);go_simp;try with_reducible rfl)
   try simp only [Act.put,List.setIfInBounds_toArray,List.set_cons_zero,List.set_cons_succ]
   refine wpAnyH_done (by kernel_rfl) ?_ _
   refine NoPanic.normal ?_
   clear hHeld HS
   obtain ⟨gd,hgd⟩:∃ gd,w0.heap.size=gd:=⟨_,rfl⟩
   simp only [hgd] at HK2 HGD ⊢
   clear hgd
   have HS:Hid (∀ W,Below w2.heap.size w2 W->W.cell? ⟨p,0,none⟩=some (.string (str c.host))/\W.cell? ⟨p,1,none⟩=some (.int .i64 c.calls)/\W.cell? ⟨p,2,none⟩=some (.int .i64 c.pubs)/\W.cell? ⟨p,3,none⟩=some (.int .i64 c.subs)/\W.cell? ⟨p,4,none⟩=some (.int .i64 c.least)/\W.cell? ⟨p,5,none⟩=some (.int .i64 c.most)/\W.cell? ⟨p,6,none⟩=some (.int .i64 c.usual)/\W.cell? ⟨w.heap.size,29,none⟩=some (.int .i64 r.exp)):=hid (fun W hW=>by
    have k1:=(HTB.out.below (HB2.out.trans (hW.mono HB2.out.size))).top
    have k2:=HKA.out.fr (Fr.of_below (F:=fun _=>False) (HB2.out.trans (hW.mono HB2.out.size))) (fun h=>h)
    exact ⟨k1.cell 0,k1.cell 1,k1.cell 2,k1.cell 3,k1.cell 4,k1.cell 5,k1.cell 6,k2.cell 29⟩)
   have HX0:Hid (Below w2.heap.size w2 w2.drew):=hid (Below.refl _ _).drew
   go_upto_region 9 with (fail)
   refine wp_region_noPanic ?_
   refine wp_region_held_drew (S:=fun W=>W.cell? ⟨p,0,none⟩=some (.string (str c.host))/\W.cell? ⟨p,1,none⟩=some (.int .i64 c.calls)/\W.cell? ⟨p,2,none⟩=some (.int .i64 c.pubs)/\W.cell? ⟨p,3,none⟩=some (.int .i64 c.subs)/\W.cell? ⟨p,4,none⟩=some (.int .i64 c.least)/\W.cell? ⟨p,5,none⟩=some (.int .i64 c.most)/\W.cell? ⟨p,6,none⟩=some (.int .i64 c.usual)/\W.cell? ⟨w.heap.size,29,none⟩=some (.int .i64 r.exp)) (by kernel_rfl) (HS.out _ HX0.out) (fun hHeld=>?_)
   refine wpAnyH_take (i:=0) (oi:=?oi82) (v:=?v82) ?ho82 ?ka82 ?kb82 ?kc82 (fun _ _ _ h=>h) (Or.inl ⟨?kw82,?hy82⟩) (by assumption) ?rest82
   case ho82=>(simp only [List.getElem?_toArray,List.getElem?_cons_zero,List.getElem?_cons_succ];rfl)
   case ka82=>kernel_rfl
   case kb82=>kernel_rfl
   case kc82=>kernel_rfl
   case kw82=>rfl
   case hy82=>(intro wq hSw;(try dsimp only at hSw);go_simp;try with_reducible rfl)
   try simp only [Act.put,List.setIfInBounds_toArray,List.set_cons_zero,List.set_cons_succ]
   refine wpAnyH_take (i:=1) (oi:=?oi83) (v:=?v83) ?ho83 ?ka83 ?kb83 ?kc83 (fun _ _ _ h=>h) (Or.inl ⟨?kw83,?hy83⟩) (by assumption) ?rest83
   case ho83=>(simp only [List.getElem?_toArray,List.getElem?_cons_zero,List.getElem?_cons_succ];rfl)
   case ka83=>kernel_rfl
   case kb83=>kernel_rfl
   case kc83=>kernel_rfl
   case kw83=>rfl
   case hy83=>(intro wq hSw;(try dsimp only at hSw);go_simp;try with_reducible rfl)
   try simp only [Act.put,List.setIfInBounds_toArray,List.set_cons_zero,List.set_cons_succ]
   refine wpAnyH_take (i:=2) (oi:=?oi84) (v:=?v84) ?ho84 ?ka84 ?kb84 ?kc84 (fun _ _ _ h=>h) (Or.inl ⟨?kw84,?hy84⟩) (by assumption) ?rest84
   case ho84=>(simp only [List.getElem?_toArray,List.getElem?_cons_zero,List.getElem?_cons_succ];rfl)
   case ka84=>kernel_rfl
   case kb84=>kernel_rfl
   case kc84=>kernel_rfl
   case kw84=>rfl
   case hy84=>(intro wq hSw;(try dsimp only at hSw);go_simp;try with_reducible rfl)
   try simp only [Act.put,List.setIfInBounds_toArray,List.set_cons_zero,List.set_cons_succ]
   refine wpAnyH_take (i:=3) (oi:=?oi85) (v:=?v85) ?ho85 ?ka85 ?kb85 ?kc85 (fun _ _ _ h=>h) (Or.inl ⟨?kw85,?hy85⟩) (by assumption) ?rest85
   case ho85=>(simp only [List.getElem?_toArray,List.getElem?_cons_zero,List.getElem?_cons_succ];rfl)
   case ka85=>kernel_rfl
   case kb85=>kernel_rfl
   case kc85=>kernel_rfl
   case kw85=>rfl
   case hy85=>(intro wq hSw;(try dsimp only at hSw);go_simp;try with_reducible rfl)
   try simp only [Act.put,List.setIfInBounds_toArray,List.set_cons_zero,List.set_cons_succ]
   refine wpAnyH_take (i:=4) (oi:=?oi86) (v:=?v86) ?ho86 ?ka86 ?kb86 ?kc86 (fun _ _ _ h=>h) (Or.inl ⟨?kw86,?hy86⟩) (by assumption) ?rest86
   case ho86=>(simp only [List.getElem?_toArray,List.getElem?_cons_zero,List.getElem?_cons_succ];rfl)
   case ka86=>kernel_rfl
   case kb86=>kernel_rfl
   case kc86=>kernel_rfl
   case kw86=>rfl
   case hy86=>(intro wq hSw;(try dsimp only at hSw);go_simp;try with_reducible rfl)
   try simp only [Act.put,List.setIfInBounds_toArray,List.set_cons_zero,List.set_cons_succ]
   refine wpAnyH_take (i:=5) (oi:=?oi87) (v:=?v87) ?ho87 ?ka87 ?kb87 ?kc87 (fun _ _ _ h=>h) (Or.inl ⟨?kw87,?hy87⟩) (by assumption) ?rest87
   case ho87=>(simp only [List.getElem?_toArray,List.getElem?_cons_zero,List.getElem?_cons_succ];rfl)
   case ka87=>kernel_rfl
   case kb87=>kernel_rfl
   case kc87=>kernel_rfl
   case kw87=>rfl
   case hy87=>(intro wq hSw;(try dsimp only at hSw);go_simp;try with_reducible rfl)
   try simp only [Act.put,List.setIfInBounds_toArray,List.set_cons_zero,List.set_cons_succ]
   refine wpAnyH_ready (rs:=[6]) (by kernel_rfl) (by simp) ?_
   refine AllReadyH.cons (o:=?oi88) ?ho88 (fun K hK=>?st88) AllReadyH.nil
   case ho88=>(simp only [List.getElem?_toArray,List.getElem?_cons_zero,List.getElem?_cons_succ];rfl)
   go_simp
   refine (HSEC.out _).mono ?_
   rintro e w3 ⟨rfl,hb3⟩
   have HX3:Hid (Below w2.heap.size w2 w3):=hid (thenB_ HX0.out hb3)
   clear hb3
   go_wp2_with fail
   refine hK.out _ _ (HS.out _ HX3.out) (fun hHeld=>?_)
   clear hK K
   try simp only [Act.put,List.setIfInBounds_toArray,List.set_cons_zero,List.set_cons_succ]
   refine wpAnyH_take (i:=7) (oi:=?oi89) (v:=?v89) ?ho89 ?ka89 ?kb89 ?kc89 (fun _ _ _ h=>h) (Or.inl ⟨?kw89,?hy89⟩) (by assumption) ?rest89
   case ho89=>(simp only [List.getElem?_toArray,List.getElem?_cons_zero,List.getElem?_cons_succ];rfl)
   case ka89=>kernel_rfl
   case kb89=>kernel_rfl
   case kc89=>kernel_rfl
   case kw89=>rfl
   case hy89=>(intro wq hSw;(try dsimp only at hSw);go_simp;try with_reducible rfl)
   try simp only [Act.put,List.setIfInBounds_toArray,List.set_cons_zero,List.set_cons_succ]
   refine wpAnyH_take (i:=8) (oi:=?oi90) (v:=?v90) ?ho90 ?ka90 ?kb90 ?kc90 (fun _ _ _ h=>h) (Or.inl ⟨?kw90,?hy90⟩) (by assumption) ?rest90
   case ho90=>(simp only [List.getElem?_toArray,List.getElem?_cons_zero,List.getElem?_cons_succ];rfl)
   case ka90=>kernel_rfl
   case kb90=>kernel_rfl
   case kc90=>kernel_rfl
   case kw90=>rfl
   case hy90=>(intro wq hSw;(try dsimp only at hSw);go_simp;try with_reducible rfl)
   try simp only [Act.put,List.setIfInBounds_toArray,List.set_cons_zero,List.set_cons_succ]
   refine wpAnyH_take (i:=9) (oi:=?oi91) (v:=?v91) ?ho91 ?ka91 ?kb91 ?kc91 (fun _ _ _ h=>h) (Or.inl ⟨?kw91,?hy91⟩) (by assumption) ?rest91
   case ho91=>(simp only [List.getElem?_toArray,List.getElem?_cons_zero,List.getElem?_cons_succ];rfl)
   case ka91=>kernel_rfl
   case kb91=>kernel_rfl
   case kc91=>kernel_rfl
   case kw91=>rfl
   case hy91=>(intro wq hSw;(try dsimp only at hSw);go_simp;try with_reducible rfl)
   try simp only [Act.put,List.setIfInBounds_toArray,List.set_cons_zero,List.set_cons_succ]
   refine wpAnyH_take (i:=10) (oi:=?oi92) (v:=?v92) ?ho92 ?ka92 ?kb92 ?kc92 (fun _ _ _ h=>h) (Or.inl ⟨?kw92,?hy92⟩) (by assumption) ?rest92
   case ho92=>(simp only [List.getElem?_toArray,List.getElem?_cons_zero,List.getElem?_cons_succ];rfl)
   case ka92=>kernel_rfl
   case kb92=>kernel_rfl
   case kc92=>kernel_rfl
   case kw92=>rfl
   case hy92=>(intro wq hSw;(try dsimp only at hSw);go_simp;try with_reducible rfl)
   try simp only [Act.put,List.setIfInBounds_toArray,List.set_cons_zero,List.set_cons_succ]
   refine wpAnyH_take (i:=11) (oi:=?oi93) (v:=?v93) ?ho93 ?ka93 ?kb93 ?kc93 (fun _ _ _ h=>h) (Or.inl ⟨?kw93,?hy93⟩) (by assumption) ?rest93
   case ho93=>(simp only [List.getElem?_toArray,List.getElem?_cons_zero,List.getElem?_cons_succ];rfl)
   case ka93=>kernel_rfl
   case kb93=>kernel_rfl
   case kc93=>kernel_rfl
   case kw93=>rfl
   case hy93=>(intro wq hSw;(try dsimp only at hSw);go_simp;try with_reducible rfl)
   try simp only [Act.put,List.setIfInBounds_toArray,List.set_cons_zero,List.set_cons_succ]
   refine wpAnyH_done (by kernel_rfl) ?_ _
   refine NoPanic.normal ?_
   clear hHeld
   have HBX:=hid (HB2.out.trans (HX3.out.mono HB2.out.size))
   clear HS HX0
   go_upto_region 12 with (fail)
   have HS:Hid (∀ W,Below w0.heap.size w0 W->W.rangeAt x.b 3 [.string (str x.s.ev.name),x.v.ev]/\W.rangeAt w.heap.size 30 [.string (str r.ev.name),q.ev]):=hid (fun W hW=>⟨blk_range (off:=3) ((HTB.out.its x HX.out).fr (Fr.of_below (F:=fun _=>False) hW) (fun h=>h)) rfl,blk_range (off:=30) (HKA.out.fr (Fr.of_below (F:=fun _=>False) hW) (fun h=>h)) rfl⟩)
   refine wp_region_noPanic ?_
   refine wp_region_held_drew (S:=fun W=>W.rangeAt x.b 3 [.string (str x.s.ev.name),x.v.ev]/\W.rangeAt w.heap.size 30 [.string (str r.ev.name),q.ev]) (by kernel_rfl) (HS.out _ HBX.out.drew) (fun hHeld=>?_)
   refine wpAnyH_take (i:=0) (oi:=?oi94) (v:=?v94) ?ho94 ?ka94 ?kb94 ?kc94 (fun _ _ _ h=>h) (Or.inl ⟨?kw94,?hy94⟩) (by assumption) ?rest94
   case ho94=>(simp only [List.getElem?_toArray,List.getElem?_cons_zero,List.getElem?_cons_succ];rfl)
   case ka94=>kernel_rfl
   case kb94=>kernel_rfl
   case kc94=>kernel_rfl
   case kw94=>rfl
   case hy94=>(intro wq hSw;(try dsimp only at hSw);go_simp;try with_reducible rfl)
   try simp only [Act.put,List.setIfInBounds_toArray,List.set_cons_zero,List.set_cons_succ]
   refine wpAnyH_take (i:=1) (oi:=?oi95) (v:=?v95) ?ho95 ?ka95 ?kb95 ?kc95 (fun _ _ _ h=>h) (Or.inl ⟨?kw95,?hy95⟩) (by assumption) ?rest95
   case ho95=>(simp only [List.getElem?_toArray,List.getElem?_cons_zero,List.getElem?_cons_succ];rfl)
   case ka95=>kernel_rfl
   case kb95=>kernel_rfl
   case kc95=>kernel_rfl
   case kw95=>rfl
   case hy95=>(intro wq hSw;(try dsimp only at hSw);go_simp;try with_reducible rfl)
   try simp only [Act.put,List.setIfInBounds_toArray,List.set_cons_zero,List.set_cons_succ]
   refine wpAnyH_take (i:=2) (oi:=?oi96) (v:=?v96) ?ho96 ?ka96 ?kb96 ?kc96 (fun _ _ _ h=>h) (Or.inl ⟨?kw96,?hy96⟩) (by assumption) ?rest96
   case ho96=>(simp only [List.getElem?_toArray,List.getElem?_cons_zero,List.getElem?_cons_succ];rfl)
   case ka96=>kernel_rfl
   case kb96=>kernel_rfl
   case kc96=>kernel_rfl
   case kw96=>rfl
   case hy96=>(intro wq hSw;(try dsimp only at hSw);go_simp;try with_reducible rfl)
   try simp only [Act.put,List.setIfInBounds_toArray,List.set_cons_zero,List.set_cons_succ]
   refine wpAnyH_take (i:=3) (oi:=?oi97) (v:=.agg #[.string (str x.s.ev.name),x.v.ev]) ?ho97 ?ka97 ?kb97 ?kc97 (fun _ _ _ h=>h) ?hy97 (by assumption) ?rest97
   case ho97=>(simp only [List.getElem?_toArray,List.getElem?_cons_zero,List.getElem?_cons_succ];rfl)
   case ka97=>kernel_rfl
   case kb97=>kernel_rfl
   case kc97=>kernel_rfl
   case hy97=>(exact yieldsIf_load_mid (by rfl) 30 (.tmp 72) rfl x.b 3 rfl [.string (str x.s.ev.name),x.v.ev] _ (fun wq hSw=>hSw.1) Tryz.underlying30 rfl (by kernel_rfl))
   try simp only [Act.put,List.setIfInBounds_toArray,List.set_cons_zero,List.set_cons_succ]
   refine wpAnyH_take (i:=4) (oi:=?oi98) (v:=?v98) ?ho98 ?ka98 ?kb98 ?kc98 (fun _ _ _ h=>h) (Or.inl ⟨?kw98,?hy98⟩) (by assumption) ?rest98
   case ho98=>(simp only [List.getElem?_toArray,List.getElem?_cons_zero,List.getElem?_cons_succ];rfl)
   case ka98=>kernel_rfl
   case kb98=>kernel_rfl
   case kc98=>kernel_rfl
   case kw98=>rfl
   case hy98=>(intro wq hSw;(try dsimp only at hSw);go_simp;try with_reducible rfl)
   try simp only [Act.put,List.setIfInBounds_toArray,List.set_cons_zero,List.set_cons_succ]
   refine wpAnyH_take (i:=5) (oi:=?oi99) (v:=.agg #[.string (str r.ev.name),q.ev]) ?ho99 ?ka99 ?kb99 ?kc99 (fun _ _ _ h=>h) ?hy99 (by assumption) ?rest99
   case ho99=>(simp only [List.getElem?_toArray,List.getElem?_cons_zero,List.getElem?_cons_succ];rfl)
   case ka99=>kernel_rfl
   case kb99=>kernel_rfl
   case kc99=>kernel_rfl
   case hy99=>(exact yieldsIf_load_mid (by rfl) 30 (.tmp 74) rfl w.heap.size 30 rfl [.string (str r.ev.name),q.ev] _ (fun wq hSw=>hSw.2) Tryz.underlying30 rfl (by kernel_rfl))
   try simp only [Act.put,List.setIfInBounds_toArray,List.set_cons_zero,List.set_cons_succ]
   refine wpAnyH_ready (rs:=[6]) (by kernel_rfl) (by simp) ?_
   refine AllReadyH.cons (o:=?oi100) ?ho100 (fun K hK=>?st100) AllReadyH.nil
   case ho100=>(simp only [List.getElem?_toArray,List.getElem?_cons_zero,List.getElem?_cons_succ];rfl)
   go_simp
   refine (HIS.out _ HBX.out.drew).mono ?_
   rintro e w4 ⟨rfl,hb4⟩
   have HB4:Hid (Below w0.heap.size w0 w4):=hid (thenB_ HBX.out.drew hb4)
   clear hb4
   go_wp2_with fail
   refine hK.out _ _ (HS.out _ HB4.out) (fun hHeld=>?_)
   clear hK K
   try simp only [Act.put,List.setIfInBounds_toArray,List.set_cons_zero,List.set_cons_succ]
   refine wpAnyH_take (i:=7) (oi:=?oi101) (v:=?v101) ?ho101 ?ka101 ?kb101 ?kc101 (fun _ _ _ h=>h) (Or.inl ⟨?kw101,?hy101⟩) (by assumption) ?rest101
   case ho101=>(simp only [List.getElem?_toArray,List.getElem?_cons_zero,List.getElem?_cons_succ];rfl)
   case ka101=>kernel_rfl
   case kb101=>kernel_rfl
   case kc101=>kernel_rfl
   case kw101=>rfl
   case hy101=>(intro wq hSw;(try dsimp only at hSw);go_simp;try with_reducible rfl)
   try simp only [Act.put,List.setIfInBounds_toArray,List.set_cons_zero,List.set_cons_succ]
   refine wpAnyH_take (i:=8) (oi:=?oi102) (v:=?v102) ?ho102 ?ka102 ?kb102 ?kc102 (fun _ _ _ h=>h) (Or.inl ⟨?kw102,?hy102⟩) (by assumption) ?rest102
   case ho102=>(simp only [List.getElem?_toArray,List.getElem?_cons_zero,List.getElem?_cons_succ];rfl)
   case ka102=>kernel_rfl
   case kb102=>kernel_rfl
   case kc102=>kernel_rfl
   case kw102=>rfl
   case hy102=>(intro wq hSw;(try dsimp only at hSw);go_simp;try with_reducible rfl)
   try simp only [Act.put,List.setIfInBounds_toArray,List.set_cons_zero,List.set_cons_succ]
   refine wpAnyH_done (by kernel_rfl) ?_ _
   refine NoPanic.normal ?_
   clear hHeld HS
   have HKR:=hid (HKB.out.fr (Fr.of_below (F:=fun _=>False) HB4.out) (fun h=>h))
   have HBR:=hid (HB0.out.trans (HB4.out.mono HB0.out.size))
   go_wp2_with (first|(refine wpl_store rfl 39 (.tmp 8) (.tmp 78) rfl (w.heap.size+1) 0 rfl sub0 rfl HKR.out (Nat.le_refl 34) sub0 rfl (by kernel_rfl) sub0_one ?_;intro wz hkz hfz))
   exact ret_cell2 rfl rfl rfl rfl hkz _ Tryz.underlying39 rfl (by kernel_rfl) (HRT.out _ _ (below_upfr HBR.out (Nat.le_refl _) hfz (fun k e=>by omega)) HE.out)
  .have HE:=hid hx
   rw [h1] at HTK
   have htk:0<=now/\now<=549755813888:=by
    unfold tickB at h1
    simp only [Bool.and_eq_true,decide_eq_true_eq] at h1
    exact h1
   have HTI:=hid htk
   have HST:=hid h2
   have d2:(x.s.state == 2)=false:=by simpa using h2
   have HTA:Hid (∀ W,Below w0.heap.size w0 W->Calls Tryz.prog 42 #[.agg (dlgA x.s.dlg x.v),.agg (reqA r q)] W fun e w'=>∃ v',e=.returned (.tuple #[.agg (dlgA (agaN x.s r).dlg v'),.int .i64 (takR x.s.dlg r).err])/\DlgM w' (agaN x.s r).dlg v'/\Below W.heap.size W w'):=hid (fun W hW=>by
    have m:=HTB.out.sub x HX.out
    exact Take_any (Nat.le_trans HBB.out hW.size) (DlgM.below ⟨⟨m.lp,m.lh,m.la⟩,⟨m.rp,m.rh,m.ra⟩,m.tp,m.th,m.ro⟩ hW) (HR0.out.below (hW.mono HBB.out)) HZX.out.pl HZX.out.pr HZ.out.co)
   have HSEC:Hid (∀ W,Calls Tryz.prog 36 #[.agg #[.string (str c.host),.int .i64 c.calls,.int .i64 c.pubs,.int .i64 c.subs,.int .i64 c.least,.int .i64 c.most,.int .i64 c.usual],.int .i64 r.exp] W fun e w'=>e=.returned (.tuple #[.int .i64 (secN c r.exp),.bool (secK c r.exp)])/\Below W.heap.size W w'):=hid (fun W=>seconds_any c r.exp W)
   have HIS:Hid (∀ W,Below w0.heap.size w0 W->Calls Tryz.prog 43 #[.agg #[.string (str x.s.ev.name),x.v.ev],.agg #[.string (str r.ev.name),q.ev]] W fun e w'=>e=.returned (.bool (evIs x.s.ev r.ev))/\Below W.heap.size W w'):=hid (fun W hW=>Is_any (B:=w0.heap.size) hW.size ((HTB.out.sub x HX.out).ev.prB.below hW) ((HR0.out.ev.up HBB.out).below hW) HZX.out.pe HZ.out.evP)
   have HSN:=hid (sec_lo HQ.out.right r.exp)
   rw [hq0] at HTA
   have hd0:∃ d0,Value.agg (dlgA x.s.dlg x.v)=d0:=⟨_,rfl⟩
   obtain ⟨d0,hd0⟩:=hd0
   rw [hd0] at HTA
   rw [h3] at HTA
   rw [h4] at HIS
   rw [h5] at HSEC
   clear h3 h4 h5
   clear hx h1 h2 htk
   go_upto_region 8 with (first|(go_at_call 33;refine (hm.out).mono ?_;rintro e w' ⟨rfl,rfl⟩)|(go_at_call 34;refine (HTK.out _).mono ?_;rintro e w' ⟨rfl,rfl⟩))
   have HS:Hid (∀ W,Below w0.heap.size w0 W->W.rangeAt x.b 8 (dlgA x.s.dlg x.v).toList/\W.rangeAt w.heap.size 0 (reqA r q).toList):=hid (fun W hW=>⟨blk_range (off:=8) ((HTB.out.its x HX.out).fr (Fr.of_below (F:=fun _=>False) hW) (fun h=>h)) rfl,blk_range (off:=0) (HKA.out.fr (Fr.of_below (F:=fun _=>False) hW) (fun h=>h)) rfl⟩)
   have HX0:Hid (Below w0.heap.size w0 w0.drew):=hid (Below.refl _ _).drew
   refine wp_region_noPanic ?_
   refine wp_region_held_drew (S:=fun W=>W.rangeAt x.b 8 (dlgA x.s.dlg x.v).toList/\W.rangeAt w.heap.size 0 (reqA r q).toList) (by kernel_rfl) (HS.out _ HX0.out) (fun hHeld=>?_)
   refine wpAnyH_take (i:=0) (oi:=?oi103) (v:=?v103) ?ho103 ?ka103 ?kb103 ?kc103 (fun _ _ _ h=>h) (Or.inl ⟨?kw103,?hy103⟩) (by assumption) ?rest103
   case ho103=>(simp only [List.getElem?_toArray,List.getElem?_cons_zero,List.getElem?_cons_succ];rfl)
   case ka103=>kernel_rfl
   case kb103=>kernel_rfl
   case kc103=>kernel_rfl
   case kw103=>rfl
   case hy103=>(intro wq hSw;(try dsimp only at hSw);go_simp;try with_reducible rfl)
   try simp only [Act.put,List.setIfInBounds_toArray,List.set_cons_zero,List.set_cons_succ]
   refine wpAnyH_take (i:=1) (oi:=?oi104) (v:=?v104) ?ho104 ?ka104 ?kb104 ?kc104 (fun _ _ _ h=>h) (Or.inl ⟨?kw104,?hy104⟩) (by assumption) ?rest104
   case ho104=>(simp only [List.getElem?_toArray,List.getElem?_cons_zero,List.getElem?_cons_succ];rfl)
   case ka104=>kernel_rfl
   case kb104=>kernel_rfl
   case kc104=>kernel_rfl
   case kw104=>rfl
   case hy104=>(intro wq hSw;(try dsimp only at hSw);go_simp;try with_reducible rfl)
   try simp only [Act.put,List.setIfInBounds_toArray,List.set_cons_zero,List.set_cons_succ]
   refine wpAnyH_take (i:=2) (oi:=?oi105) (v:=?v105) ?ho105 ?ka105 ?kb105 ?kc105 (fun _ _ _ h=>h) (Or.inl ⟨?kw105,?hy105⟩) (by assumption) ?rest105
   case ho105=>(simp only [List.getElem?_toArray,List.getElem?_cons_zero,List.getElem?_cons_succ];rfl)
   case ka105=>kernel_rfl
   case kb105=>kernel_rfl
   case kc105=>kernel_rfl
   case kw105=>rfl
   case hy105=>(intro wq hSw;(try dsimp only at hSw);go_simp;try with_reducible rfl)
   try simp only [Act.put,List.setIfInBounds_toArray,List.set_cons_zero,List.set_cons_succ]
   refine wpAnyH_take (i:=3) (oi:=?oi106) (v:=d0) ?ho106 ?ka106 ?kb106 ?kc106 (fun _ _ _ h=>h) ?hy106 (by assumption) ?rest106
   case ho106=>(simp only [List.getElem?_toArray,List.getElem?_cons_zero,List.getElem?_cons_succ];rfl)
   case ka106=>kernel_rfl
   case kb106=>kernel_rfl
   case kc106=>kernel_rfl
   case hy106=>(rw [<-hd0];exact yieldsIf_load_mid (by rfl) 37 (.tmp 48) rfl x.b 8 rfl (dlgA x.s.dlg x.v).toList _ (fun wq hSw=>hSw.1) Tryz.underlying37 rfl (by kernel_rfl))
   try simp only [Act.put,List.setIfInBounds_toArray,List.set_cons_zero,List.set_cons_succ]
   refine wpAnyH_take (i:=4) (oi:=?oi107) (v:=q0) ?ho107 ?ka107 ?kb107 ?kc107 (fun _ _ _ h=>h) ?hy107 (by assumption) ?rest107
   case ho107=>(simp only [List.getElem?_toArray,List.getElem?_cons_zero,List.getElem?_cons_succ];rfl)
   case ka107=>kernel_rfl
   case kb107=>kernel_rfl
   case kc107=>kernel_rfl
   case hy107=>(rw [<-hq0];exact yieldsIf_load_mid (by rfl) 45 (.tmp 7) rfl w.heap.size 0 rfl (reqA r q).toList _ (fun wq hSw=>hSw.2) Tryz.underlying45 rfl (by kernel_rfl))
   try simp only [Act.put,List.setIfInBounds_toArray,List.set_cons_zero,List.set_cons_succ]
   refine wpAnyH_ready (rs:=[5,9]) (by kernel_rfl) (by simp) ?_
   refine AllReadyH.cons (o:=?oi108) ?ho108 (fun K hK=>?st108) ?mo108
   case ho108=>(simp only [List.getElem?_toArray,List.getElem?_cons_zero,List.getElem?_cons_succ];rfl)
   .go_simp
    refine (HTA.out _ HX0.out).mono ?_
    rintro e w1 ⟨v1,rfl,m1,hb1⟩
    have HM1:=hid m1
    have HX1:Hid (Below w0.heap.size w0 w1):=hid (thenB_ HX0.out hb1)
    clear m1 hb1
    go_wp2_with fail
    refine hK.out _ _ (HS.out _ HX1.out) (fun hHeld=>?_)
    clear hK K
    try simp only [Act.put,List.setIfInBounds_toArray,List.set_cons_zero,List.set_cons_succ]
    refine wpAnyH_take (i:=6) (oi:=?oi109) (v:=?v109) ?ho109 ?ka109 ?kb109 ?kc109 (fun _ _ _ h=>h) (Or.inl ⟨?kw109,?hy109⟩) (by assumption) ?rest109
    case ho109=>(simp only [List.getElem?_toArray,List.getElem?_cons_zero,List.getElem?_cons_succ];rfl)
    case ka109=>kernel_rfl
    case kb109=>kernel_rfl
    case kc109=>kernel_rfl
    case kw109=>rfl
    case hy109=>(intro wq hSw;(try dsimp only at hSw);go_simp;try with_reducible rfl)
    try simp only [Act.put,List.setIfInBounds_toArray,List.set_cons_zero,List.set_cons_succ]
    refine wpAnyH_take (i:=7) (oi:=?oi110) (v:=?v110) ?ho110 ?ka110 ?kb110 ?kc110 (fun _ _ _ h=>h) (Or.inl ⟨?kw110,?hy110⟩) (by assumption) ?rest110
    case ho110=>(simp only [List.getElem?_toArray,List.getElem?_cons_zero,List.getElem?_cons_succ];rfl)
    case ka110=>kernel_rfl
    case kb110=>kernel_rfl
    case kc110=>kernel_rfl
    case kw110=>rfl
    case hy110=>(intro wq hSw;(try dsimp only at hSw);go_simp;try with_reducible rfl)
    try simp only [Act.put,List.setIfInBounds_toArray,List.set_cons_zero,List.set_cons_succ]
    refine wpAnyH_take (i:=8) (oi:=?oi111) (v:=?v111) ?ho111 ?ka111 ?kb111 ?kc111 (fun _ _ _ h=>h) (Or.inl ⟨?kw111,?hy111⟩) (by assumption) ?rest111
    case ho111=>(simp only [List.getElem?_toArray,List.getElem?_cons_zero,List.getElem?_cons_succ];rfl)
    case ka111=>kernel_rfl
    case kb111=>kernel_rfl
    case kc111=>kernel_rfl
    case kw111=>rfl
    case hy111=>(intro wq hSw;(try dsimp only at hSw);go_simp;try with_reducible rfl)
    try simp only [Act.put,List.setIfInBounds_toArray,List.set_cons_zero,List.set_cons_succ]
    refine wpAnyH_ready (rs:=[9]) (by kernel_rfl) (by simp) ?_
    refine AllReadyH.cons (o:=?oi112) ?ho112 (fun K hK=>?st112) AllReadyH.nil
    case ho112=>(simp only [List.getElem?_toArray,List.getElem?_cons_zero,List.getElem?_cons_succ];rfl)
    go_simp
    have HZ2:=hid (Blk.new w1 37 dlg0)
    have HXA:Hid (Below w0.heap.size w0 (w1.alloc (.cells dlg0 37))):=hid (thenB_ HX1.out ((Below.refl _ _).alloc (Nat.le_refl _) _))
    have HMA:=hid (HM1.out.below ((Below.refl w1.heap.size w1).alloc (Nat.le_refl _) (.cells dlg0 37)))
    obtain ⟨wa,hwa⟩:∃ u,w1.alloc (.cells #[.string ⟨#[]⟩,.string ⟨#[]⟩,.string ⟨#[]⟩,.string ⟨#[]⟩,.string ⟨#[]⟩,.int .i64 0,.slice none 0 0,.slice none 0 0,.slice none 0 0,.string ⟨#[]⟩,.string ⟨#[]⟩,.string ⟨#[]⟩,.string ⟨#[]⟩,.int .i64 0,.slice none 0 0,.slice none 0 0,.slice none 0 0,.string ⟨#[]⟩,.string ⟨#[]⟩,.string ⟨#[]⟩,.int .i64 0,.slice none 0 0,.slice none 0 0,.slice none 0 0,.int .i64 0,.int .i64 0] 37)=u:=⟨_,rfl⟩
    unfold dlg0 at HZ2 HXA HMA
    rw [hwa] at HZ2 HXA HMA ⊢
    clear hwa
    refine hK.out _ _ (HS.out _ HXA.out) (fun hHeld=>?_)
    clear hK K
    try simp only [Act.put,List.setIfInBounds_toArray,List.set_cons_zero,List.set_cons_succ]
    refine wpAnyH_ready (rs:=[10]) (by kernel_rfl) (by simp) ?_
    refine AllReadyH.cons (o:=?oi113) ?ho113 (fun K hK=>?st113) AllReadyH.nil
    case ho113=>(simp only [List.getElem?_toArray,List.getElem?_cons_zero,List.getElem?_cons_succ];rfl)
    rw [if_pos (by rfl)]
    refine wp_store_mid 37 (.tmp 12) (.tmp 52) rfl (w1.heap.size) 0 (dlgA (agaN x.s r).dlg v1) rfl rfl (blk_there HZ2.out (Nat.le_refl 26)) (by kernel_rfl) (dlgA_one HM1.out.one) ?_
    have hgd:w0.heap.size<=w1.heap.size:=HX1.out.size
    have hk2:Blk (World.setCells wa (w1.heap.size) 0 (dlgA (agaN x.s r).dlg v1).toList) (w1.heap.size) 37 (dlgA (agaN x.s r).dlg v1):=blk_setCells (dlgA (agaN x.s r).dlg v1).toList (off:=0) HZ2.out (Nat.le_refl 26)
    have hb2:=below_sc (off:=0) (l:=(dlgA (agaN x.s r).dlg v1).toList) HXA.out (Nat.le_refl _) hgd
    have hm2:=HMA.out.fr (fr_setCells (w1.heap.size) (dlgA (agaN x.s r).dlg v1).toList 0 wa) (keepP_blk HZ2.out (by decide) (by decide))
    obtain ⟨w2,hu⟩:∃ u,World.setCells wa (w1.heap.size) 0 (dlgA (agaN x.s r).dlg v1).toList=u:=⟨_,rfl⟩
    rw [hu] at hk2 hb2 hm2 ⊢
    clear hu
    have HK2:=hid hk2
    have HB2:=hid hb2
    have HM2:=hid hm2
    have HGD:=hid hgd
    clear hk2 hb2 hm2 hgd
    refine hK.out _ _ (HS.out _ HB2.out) (fun hHeld=>?_)
    clear hK K
    try simp only [Act.put,List.setIfInBounds_toArray,List.set_cons_zero,List.set_cons_succ]
    refine wpAnyH_take (i:=11) (oi:=?oi114) (v:=?v114) ?ho114 ?ka114 ?kb114 ?kc114 (fun _ _ _ h=>h) (Or.inl ⟨?kw114,?hy114⟩) (by assumption) ?rest114
    case ho114=>(simp only [List.getElem?_toArray,List.getElem?_cons_zero,List.getElem?_cons_succ];rfl)
    case ka114=>kernel_rfl
    case kb114=>kernel_rfl
    case kc114=>kernel_rfl
    case kw114=>rfl
    case hy114=>(intro wq hSw;(try dsimp only at hSw);go_simp;try with_reducible rfl)
    try simp only [Act.put,List.setIfInBounds_toArray,List.set_cons_zero,List.set_cons_succ]
    refine wpAnyH_done (by kernel_rfl) ?_ _
    refine NoPanic.normal ?_
    clear hHeld HS
    obtain ⟨gd,hgd⟩:∃ gd,w1.heap.size=gd:=⟨_,rfl⟩
    simp only [hgd] at HK2 HGD ⊢
    clear hgd
    have HS:Hid (∀ W,Below w2.heap.size w2 W->W.cell? ⟨p,0,none⟩=some (.string (str c.host))/\W.cell? ⟨p,1,none⟩=some (.int .i64 c.calls)/\W.cell? ⟨p,2,none⟩=some (.int .i64 c.pubs)/\W.cell? ⟨p,3,none⟩=some (.int .i64 c.subs)/\W.cell? ⟨p,4,none⟩=some (.int .i64 c.least)/\W.cell? ⟨p,5,none⟩=some (.int .i64 c.most)/\W.cell? ⟨p,6,none⟩=some (.int .i64 c.usual)/\W.cell? ⟨w.heap.size,29,none⟩=some (.int .i64 r.exp)):=hid (fun W hW=>by
     have k1:=(HTB.out.below (HB2.out.trans (hW.mono HB2.out.size))).top
     have k2:=HKA.out.fr (Fr.of_below (F:=fun _=>False) (HB2.out.trans (hW.mono HB2.out.size))) (fun h=>h)
     exact ⟨k1.cell 0,k1.cell 1,k1.cell 2,k1.cell 3,k1.cell 4,k1.cell 5,k1.cell 6,k2.cell 29⟩)
    have HX0:Hid (Below w2.heap.size w2 w2.drew):=hid (Below.refl _ _).drew
    go_upto_region 9 with (fail)
    refine wp_region_noPanic ?_
    refine wp_region_held_drew (S:=fun W=>W.cell? ⟨p,0,none⟩=some (.string (str c.host))/\W.cell? ⟨p,1,none⟩=some (.int .i64 c.calls)/\W.cell? ⟨p,2,none⟩=some (.int .i64 c.pubs)/\W.cell? ⟨p,3,none⟩=some (.int .i64 c.subs)/\W.cell? ⟨p,4,none⟩=some (.int .i64 c.least)/\W.cell? ⟨p,5,none⟩=some (.int .i64 c.most)/\W.cell? ⟨p,6,none⟩=some (.int .i64 c.usual)/\W.cell? ⟨w.heap.size,29,none⟩=some (.int .i64 r.exp)) (by kernel_rfl) (HS.out _ HX0.out) (fun hHeld=>?_)
    refine wpAnyH_take (i:=0) (oi:=?oi121) (v:=?v121) ?ho121 ?ka121 ?kb121 ?kc121 (fun _ _ _ h=>h) (Or.inl ⟨?kw121,?hy121⟩) (by assumption) ?rest121
    case ho121=>(simp only [List.getElem?_toArray,List.getElem?_cons_zero,List.getElem?_cons_succ];rfl)
    case ka121=>kernel_rfl
    case kb121=>kernel_rfl
    case kc121=>kernel_rfl
    case kw121=>rfl
    case hy121=>(intro wq hSw;(try dsimp only at hSw);go_simp;try with_reducible rfl)
    try simp only [Act.put,List.setIfInBounds_toArray,List.set_cons_zero,List.set_cons_succ]
    refine wpAnyH_take (i:=1) (oi:=?oi122) (v:=?v122) ?ho122 ?ka122 ?kb122 ?kc122 (fun _ _ _ h=>h) (Or.inl ⟨?kw122,?hy122⟩) (by assumption) ?rest122
    case ho122=>(simp only [List.getElem?_toArray,List.getElem?_cons_zero,List.getElem?_cons_succ];rfl)
    case ka122=>kernel_rfl
    case kb122=>kernel_rfl
    case kc122=>kernel_rfl
    case kw122=>rfl
    case hy122=>(intro wq hSw;(try dsimp only at hSw);go_simp;try with_reducible rfl)
    try simp only [Act.put,List.setIfInBounds_toArray,List.set_cons_zero,List.set_cons_succ]
    refine wpAnyH_take (i:=2) (oi:=?oi123) (v:=?v123) ?ho123 ?ka123 ?kb123 ?kc123 (fun _ _ _ h=>h) (Or.inl ⟨?kw123,?hy123⟩) (by assumption) ?rest123
    case ho123=>(simp only [List.getElem?_toArray,List.getElem?_cons_zero,List.getElem?_cons_succ];rfl)
    case ka123=>kernel_rfl
    case kb123=>kernel_rfl
    case kc123=>kernel_rfl
    case kw123=>rfl
    case hy123=>(intro wq hSw;(try dsimp only at hSw);go_simp;try with_reducible rfl)
    try simp only [Act.put,List.setIfInBounds_toArray,List.set_cons_zero,List.set_cons_succ]
    refine wpAnyH_take (i:=3) (oi:=?oi124) (v:=?v124) ?ho124 ?ka124 ?kb124 ?kc124 (fun _ _ _ h=>h) (Or.inl ⟨?kw124,?hy124⟩) (by assumption) ?rest124
    case ho124=>(simp only [List.getElem?_toArray,List.getElem?_cons_zero,List.getElem?_cons_succ];rfl)
    case ka124=>kernel_rfl
    case kb124=>kernel_rfl
    case kc124=>kernel_rfl
    case kw124=>rfl
    case hy124=>(intro wq hSw;(try dsimp only at hSw);go_simp;try with_reducible rfl)
    try simp only [Act.put,List.setIfInBounds_toArray,List.set_cons_zero,List.set_cons_succ]
    refine wpAnyH_take (i:=4) (oi:=?oi125) (v:=?v125) ?ho125 ?ka125 ?kb125 ?kc125 (fun _ _ _ h=>h) (Or.inl ⟨?kw125,?hy125⟩) (by assumption) ?rest125
    case ho125=>(simp only [List.getElem?_toArray,List.getElem?_cons_zero,List.getElem?_cons_succ];rfl)
    case ka125=>kernel_rfl
    case kb125=>kernel_rfl
    case kc125=>kernel_rfl
    case kw125=>rfl
    case hy125=>(intro wq hSw;(try dsimp only at hSw);go_simp;try with_reducible rfl)
    try simp only [Act.put,List.setIfInBounds_toArray,List.set_cons_zero,List.set_cons_succ]
    refine wpAnyH_take (i:=5) (oi:=?oi126) (v:=?v126) ?ho126 ?ka126 ?kb126 ?kc126 (fun _ _ _ h=>h) (Or.inl ⟨?kw126,?hy126⟩) (by assumption) ?rest126
    case ho126=>(simp only [List.getElem?_toArray,List.getElem?_cons_zero,List.getElem?_cons_succ];rfl)
    case ka126=>kernel_rfl
    case kb126=>kernel_rfl
    case kc126=>kernel_rfl
    case kw126=>rfl
    case hy126=>(intro wq hSw;(try dsimp only at hSw);go_simp;try with_reducible rfl)
    try simp only [Act.put,List.setIfInBounds_toArray,List.set_cons_zero,List.set_cons_succ]
    refine wpAnyH_ready (rs:=[6]) (by kernel_rfl) (by simp) ?_
    refine AllReadyH.cons (o:=?oi127) ?ho127 (fun K hK=>?st127) AllReadyH.nil
    case ho127=>(simp only [List.getElem?_toArray,List.getElem?_cons_zero,List.getElem?_cons_succ];rfl)
    go_simp
    refine (HSEC.out _).mono ?_
    rintro e w3 ⟨rfl,hb3⟩
    have HX3:Hid (Below w2.heap.size w2 w3):=hid (thenB_ HX0.out hb3)
    clear hb3
    go_wp2_with fail
    refine hK.out _ _ (HS.out _ HX3.out) (fun hHeld=>?_)
    clear hK K
    try simp only [Act.put,List.setIfInBounds_toArray,List.set_cons_zero,List.set_cons_succ]
    refine wpAnyH_take (i:=7) (oi:=?oi128) (v:=?v128) ?ho128 ?ka128 ?kb128 ?kc128 (fun _ _ _ h=>h) (Or.inl ⟨?kw128,?hy128⟩) (by assumption) ?rest128
    case ho128=>(simp only [List.getElem?_toArray,List.getElem?_cons_zero,List.getElem?_cons_succ];rfl)
    case ka128=>kernel_rfl
    case kb128=>kernel_rfl
    case kc128=>kernel_rfl
    case kw128=>rfl
    case hy128=>(intro wq hSw;(try dsimp only at hSw);go_simp;try with_reducible rfl)
    try simp only [Act.put,List.setIfInBounds_toArray,List.set_cons_zero,List.set_cons_succ]
    refine wpAnyH_take (i:=8) (oi:=?oi129) (v:=?v129) ?ho129 ?ka129 ?kb129 ?kc129 (fun _ _ _ h=>h) (Or.inl ⟨?kw129,?hy129⟩) (by assumption) ?rest129
    case ho129=>(simp only [List.getElem?_toArray,List.getElem?_cons_zero,List.getElem?_cons_succ];rfl)
    case ka129=>kernel_rfl
    case kb129=>kernel_rfl
    case kc129=>kernel_rfl
    case kw129=>rfl
    case hy129=>(intro wq hSw;(try dsimp only at hSw);go_simp;try with_reducible rfl)
    try simp only [Act.put,List.setIfInBounds_toArray,List.set_cons_zero,List.set_cons_succ]
    refine wpAnyH_take (i:=9) (oi:=?oi130) (v:=?v130) ?ho130 ?ka130 ?kb130 ?kc130 (fun _ _ _ h=>h) (Or.inl ⟨?kw130,?hy130⟩) (by assumption) ?rest130
    case ho130=>(simp only [List.getElem?_toArray,List.getElem?_cons_zero,List.getElem?_cons_succ];rfl)
    case ka130=>kernel_rfl
    case kb130=>kernel_rfl
    case kc130=>kernel_rfl
    case kw130=>rfl
    case hy130=>(intro wq hSw;(try dsimp only at hSw);go_simp;try with_reducible rfl)
    try simp only [Act.put,List.setIfInBounds_toArray,List.set_cons_zero,List.set_cons_succ]
    refine wpAnyH_take (i:=10) (oi:=?oi131) (v:=?v131) ?ho131 ?ka131 ?kb131 ?kc131 (fun _ _ _ h=>h) (Or.inl ⟨?kw131,?hy131⟩) (by assumption) ?rest131
    case ho131=>(simp only [List.getElem?_toArray,List.getElem?_cons_zero,List.getElem?_cons_succ];rfl)
    case ka131=>kernel_rfl
    case kb131=>kernel_rfl
    case kc131=>kernel_rfl
    case kw131=>rfl
    case hy131=>(intro wq hSw;(try dsimp only at hSw);go_simp;try with_reducible rfl)
    try simp only [Act.put,List.setIfInBounds_toArray,List.set_cons_zero,List.set_cons_succ]
    refine wpAnyH_take (i:=11) (oi:=?oi132) (v:=?v132) ?ho132 ?ka132 ?kb132 ?kc132 (fun _ _ _ h=>h) (Or.inl ⟨?kw132,?hy132⟩) (by assumption) ?rest132
    case ho132=>(simp only [List.getElem?_toArray,List.getElem?_cons_zero,List.getElem?_cons_succ];rfl)
    case ka132=>kernel_rfl
    case kb132=>kernel_rfl
    case kc132=>kernel_rfl
    case kw132=>rfl
    case hy132=>(intro wq hSw;(try dsimp only at hSw);go_simp;try with_reducible rfl)
    try simp only [Act.put,List.setIfInBounds_toArray,List.set_cons_zero,List.set_cons_succ]
    refine wpAnyH_done (by kernel_rfl) ?_ _
    refine NoPanic.normal ?_
    clear hHeld
    have HBX:=hid (HB2.out.trans (HX3.out.mono HB2.out.size))
    clear HS HX0
    go_upto_region 12 with (fail)
    have HS:Hid (∀ W,Below w0.heap.size w0 W->W.rangeAt x.b 3 [.string (str x.s.ev.name),x.v.ev]/\W.rangeAt w.heap.size 30 [.string (str r.ev.name),q.ev]):=hid (fun W hW=>⟨blk_range (off:=3) ((HTB.out.its x HX.out).fr (Fr.of_below (F:=fun _=>False) hW) (fun h=>h)) rfl,blk_range (off:=30) (HKA.out.fr (Fr.of_below (F:=fun _=>False) hW) (fun h=>h)) rfl⟩)
    refine wp_region_noPanic ?_
    refine wp_region_held_drew (S:=fun W=>W.rangeAt x.b 3 [.string (str x.s.ev.name),x.v.ev]/\W.rangeAt w.heap.size 30 [.string (str r.ev.name),q.ev]) (by kernel_rfl) (HS.out _ HBX.out.drew) (fun hHeld=>?_)
    refine wpAnyH_take (i:=0) (oi:=?oi133) (v:=?v133) ?ho133 ?ka133 ?kb133 ?kc133 (fun _ _ _ h=>h) (Or.inl ⟨?kw133,?hy133⟩) (by assumption) ?rest133
    case ho133=>(simp only [List.getElem?_toArray,List.getElem?_cons_zero,List.getElem?_cons_succ];rfl)
    case ka133=>kernel_rfl
    case kb133=>kernel_rfl
    case kc133=>kernel_rfl
    case kw133=>rfl
    case hy133=>(intro wq hSw;(try dsimp only at hSw);go_simp;try with_reducible rfl)
    try simp only [Act.put,List.setIfInBounds_toArray,List.set_cons_zero,List.set_cons_succ]
    refine wpAnyH_take (i:=1) (oi:=?oi134) (v:=?v134) ?ho134 ?ka134 ?kb134 ?kc134 (fun _ _ _ h=>h) (Or.inl ⟨?kw134,?hy134⟩) (by assumption) ?rest134
    case ho134=>(simp only [List.getElem?_toArray,List.getElem?_cons_zero,List.getElem?_cons_succ];rfl)
    case ka134=>kernel_rfl
    case kb134=>kernel_rfl
    case kc134=>kernel_rfl
    case kw134=>rfl
    case hy134=>(intro wq hSw;(try dsimp only at hSw);go_simp;try with_reducible rfl)
    try simp only [Act.put,List.setIfInBounds_toArray,List.set_cons_zero,List.set_cons_succ]
    refine wpAnyH_take (i:=2) (oi:=?oi135) (v:=?v135) ?ho135 ?ka135 ?kb135 ?kc135 (fun _ _ _ h=>h) (Or.inl ⟨?kw135,?hy135⟩) (by assumption) ?rest135
    case ho135=>(simp only [List.getElem?_toArray,List.getElem?_cons_zero,List.getElem?_cons_succ];rfl)
    case ka135=>kernel_rfl
    case kb135=>kernel_rfl
    case kc135=>kernel_rfl
    case kw135=>rfl
    case hy135=>(intro wq hSw;(try dsimp only at hSw);go_simp;try with_reducible rfl)
    try simp only [Act.put,List.setIfInBounds_toArray,List.set_cons_zero,List.set_cons_succ]
    refine wpAnyH_take (i:=3) (oi:=?oi136) (v:=.agg #[.string (str x.s.ev.name),x.v.ev]) ?ho136 ?ka136 ?kb136 ?kc136 (fun _ _ _ h=>h) ?hy136 (by assumption) ?rest136
    case ho136=>(simp only [List.getElem?_toArray,List.getElem?_cons_zero,List.getElem?_cons_succ];rfl)
    case ka136=>kernel_rfl
    case kb136=>kernel_rfl
    case kc136=>kernel_rfl
    case hy136=>(exact yieldsIf_load_mid (by rfl) 30 (.tmp 72) rfl x.b 3 rfl [.string (str x.s.ev.name),x.v.ev] _ (fun wq hSw=>hSw.1) Tryz.underlying30 rfl (by kernel_rfl))
    try simp only [Act.put,List.setIfInBounds_toArray,List.set_cons_zero,List.set_cons_succ]
    refine wpAnyH_take (i:=4) (oi:=?oi137) (v:=?v137) ?ho137 ?ka137 ?kb137 ?kc137 (fun _ _ _ h=>h) (Or.inl ⟨?kw137,?hy137⟩) (by assumption) ?rest137
    case ho137=>(simp only [List.getElem?_toArray,List.getElem?_cons_zero,List.getElem?_cons_succ];rfl)
    case ka137=>kernel_rfl
    case kb137=>kernel_rfl
    case kc137=>kernel_rfl
    case kw137=>rfl
    case hy137=>(intro wq hSw;(try dsimp only at hSw);go_simp;try with_reducible rfl)
    try simp only [Act.put,List.setIfInBounds_toArray,List.set_cons_zero,List.set_cons_succ]
    refine wpAnyH_take (i:=5) (oi:=?oi138) (v:=.agg #[.string (str r.ev.name),q.ev]) ?ho138 ?ka138 ?kb138 ?kc138 (fun _ _ _ h=>h) ?hy138 (by assumption) ?rest138
    case ho138=>(simp only [List.getElem?_toArray,List.getElem?_cons_zero,List.getElem?_cons_succ];rfl)
    case ka138=>kernel_rfl
    case kb138=>kernel_rfl
    case kc138=>kernel_rfl
    case hy138=>(exact yieldsIf_load_mid (by rfl) 30 (.tmp 74) rfl w.heap.size 30 rfl [.string (str r.ev.name),q.ev] _ (fun wq hSw=>hSw.2) Tryz.underlying30 rfl (by kernel_rfl))
    try simp only [Act.put,List.setIfInBounds_toArray,List.set_cons_zero,List.set_cons_succ]
    refine wpAnyH_ready (rs:=[6]) (by kernel_rfl) (by simp) ?_
    refine AllReadyH.cons (o:=?oi139) ?ho139 (fun K hK=>?st139) AllReadyH.nil
    case ho139=>(simp only [List.getElem?_toArray,List.getElem?_cons_zero,List.getElem?_cons_succ];rfl)
    go_simp
    refine (HIS.out _ HBX.out.drew).mono ?_
    rintro e w4 ⟨rfl,hb4⟩
    have HB4:Hid (Below w0.heap.size w0 w4):=hid (thenB_ HBX.out.drew hb4)
    clear hb4
    go_wp2_with fail
    refine hK.out _ _ (HS.out _ HB4.out) (fun hHeld=>?_)
    clear hK K
    try simp only [Act.put,List.setIfInBounds_toArray,List.set_cons_zero,List.set_cons_succ]
    refine wpAnyH_take (i:=7) (oi:=?oi140) (v:=?v140) ?ho140 ?ka140 ?kb140 ?kc140 (fun _ _ _ h=>h) (Or.inl ⟨?kw140,?hy140⟩) (by assumption) ?rest140
    case ho140=>(simp only [List.getElem?_toArray,List.getElem?_cons_zero,List.getElem?_cons_succ];rfl)
    case ka140=>kernel_rfl
    case kb140=>kernel_rfl
    case kc140=>kernel_rfl
    case kw140=>rfl
    case hy140=>(intro wq hSw;(try dsimp only at hSw);go_simp;try with_reducible rfl)
    try simp only [Act.put,List.setIfInBounds_toArray,List.set_cons_zero,List.set_cons_succ]
    refine wpAnyH_take (i:=8) (oi:=?oi141) (v:=?v141) ?ho141 ?ka141 ?kb141 ?kc141 (fun _ _ _ h=>h) (Or.inl ⟨?kw141,?hy141⟩) (by assumption) ?rest141
    case ho141=>(simp only [List.getElem?_toArray,List.getElem?_cons_zero,List.getElem?_cons_succ];rfl)
    case ka141=>kernel_rfl
    case kb141=>kernel_rfl
    case kc141=>kernel_rfl
    case kw141=>rfl
    case hy141=>(intro wq hSw;(try dsimp only at hSw);go_simp;try with_reducible rfl)
    try simp only [Act.put,List.setIfInBounds_toArray,List.set_cons_zero,List.set_cons_succ]
    refine wpAnyH_done (by kernel_rfl) ?_ _
    refine NoPanic.normal ?_
    clear hHeld HS
    have HKR:=hid (HKB.out.fr (Fr.of_below (F:=fun _=>False) HB4.out) (fun h=>h))
    have HBR:=hid (HB0.out.trans (HB4.out.mono HB0.out.size))
    go_wp2_with (first|(refine wpl_store rfl 39 (.tmp 8) (.tmp 82) rfl (w.heap.size+1) 0 rfl sub0 rfl HKR.out (Nat.le_refl 34) sub0 rfl (by kernel_rfl) sub0_one ?_;intro wz hkz hfz))
    exact ret_cell2 rfl rfl rfl rfl hkz _ Tryz.underlying39 rfl (by kernel_rfl) (HRT.out _ _ (below_upfr HBR.out (Nat.le_refl _) hfz (fun k e=>by omega)) HE.out)
   refine AllReadyH.cons (o:=?oi9992) ?ho9992 (fun K hK=>?st9992) AllReadyH.nil
   case ho9992=>(simp only [List.getElem?_toArray,List.getElem?_cons_zero,List.getElem?_cons_succ];rfl)
   go_simp
   have HZ0:=hid ((Blk.new w0 37 dlg0).drewN 1)
   have HXA:Hid (Below w0.heap.size w0 ((w0.alloc (.cells dlg0 37)).drew)):=hid ((Below.refl _ _).alloc (Nat.le_refl _) _).drew
   unfold dlg0 at HZ0 HXA
   change Hid (Blk (World.drew (w0.alloc (.cells #[.string ⟨#[]⟩,.string ⟨#[]⟩,.string ⟨#[]⟩,.string ⟨#[]⟩,.string ⟨#[]⟩,.int .i64 0,.slice none 0 0,.slice none 0 0,.slice none 0 0,.string ⟨#[]⟩,.string ⟨#[]⟩,.string ⟨#[]⟩,.string ⟨#[]⟩,.int .i64 0,.slice none 0 0,.slice none 0 0,.slice none 0 0,.string ⟨#[]⟩,.string ⟨#[]⟩,.string ⟨#[]⟩,.int .i64 0,.slice none 0 0,.slice none 0 0,.slice none 0 0,.int .i64 0,.int .i64 0] 37))) _ _ _) at HZ0
   obtain ⟨wa,hwa⟩:∃ u,(w0.alloc (.cells #[.string ⟨#[]⟩,.string ⟨#[]⟩,.string ⟨#[]⟩,.string ⟨#[]⟩,.string ⟨#[]⟩,.int .i64 0,.slice none 0 0,.slice none 0 0,.slice none 0 0,.string ⟨#[]⟩,.string ⟨#[]⟩,.string ⟨#[]⟩,.string ⟨#[]⟩,.int .i64 0,.slice none 0 0,.slice none 0 0,.slice none 0 0,.string ⟨#[]⟩,.string ⟨#[]⟩,.string ⟨#[]⟩,.int .i64 0,.slice none 0 0,.slice none 0 0,.slice none 0 0,.int .i64 0,.int .i64 0] 37)).drew=u:=⟨_,rfl⟩
   rw [hwa] at HZ0 HXA ⊢
   clear hwa
   refine hK.out _ _ (HS.out _ HXA.out) (fun hHeld=>?_)
   clear hK K
   try simp only [Act.put,List.setIfInBounds_toArray,List.set_cons_zero,List.set_cons_succ]
   refine wpAnyH_ready (rs:=[5]) (by kernel_rfl) (by simp) ?_
   refine AllReadyH.cons (o:=?oi115) ?ho115 (fun K hK=>?st115) AllReadyH.nil
   case ho115=>(simp only [List.getElem?_toArray,List.getElem?_cons_zero,List.getElem?_cons_succ];rfl)
   go_simp
   refine (HTA.out _ HXA.out).mono ?_
   rintro e w1 ⟨v1,rfl,m1,hb1⟩
   have HM1:=hid m1
   have HX1:Hid (Below w0.heap.size w0 w1):=hid (thenB_ HXA.out hb1)
   have HZ1:=hid (HZ0.out.fr (Fr.of_below (F:=fun _=>False) hb1) (fun h=>h))
   clear m1 hb1
   go_wp2_with fail
   refine hK.out _ _ (HS.out _ HX1.out) (fun hHeld=>?_)
   clear hK K
   try simp only [Act.put,List.setIfInBounds_toArray,List.set_cons_zero,List.set_cons_succ]
   refine wpAnyH_take (i:=6) (oi:=?oi116) (v:=?v116) ?ho116 ?ka116 ?kb116 ?kc116 (fun _ _ _ h=>h) (Or.inl ⟨?kw116,?hy116⟩) (by assumption) ?rest116
   case ho116=>(simp only [List.getElem?_toArray,List.getElem?_cons_zero,List.getElem?_cons_succ];rfl)
   case ka116=>kernel_rfl
   case kb116=>kernel_rfl
   case kc116=>kernel_rfl
   case kw116=>rfl
   case hy116=>(intro wq hSw;(try dsimp only at hSw);go_simp;try with_reducible rfl)
   try simp only [Act.put,List.setIfInBounds_toArray,List.set_cons_zero,List.set_cons_succ]
   refine wpAnyH_take (i:=7) (oi:=?oi117) (v:=?v117) ?ho117 ?ka117 ?kb117 ?kc117 (fun _ _ _ h=>h) (Or.inl ⟨?kw117,?hy117⟩) (by assumption) ?rest117
   case ho117=>(simp only [List.getElem?_toArray,List.getElem?_cons_zero,List.getElem?_cons_succ];rfl)
   case ka117=>kernel_rfl
   case kb117=>kernel_rfl
   case kc117=>kernel_rfl
   case kw117=>rfl
   case hy117=>(intro wq hSw;(try dsimp only at hSw);go_simp;try with_reducible rfl)
   try simp only [Act.put,List.setIfInBounds_toArray,List.set_cons_zero,List.set_cons_succ]
   refine wpAnyH_take (i:=8) (oi:=?oi118) (v:=?v118) ?ho118 ?ka118 ?kb118 ?kc118 (fun _ _ _ h=>h) (Or.inl ⟨?kw118,?hy118⟩) (by assumption) ?rest118
   case ho118=>(simp only [List.getElem?_toArray,List.getElem?_cons_zero,List.getElem?_cons_succ];rfl)
   case ka118=>kernel_rfl
   case kb118=>kernel_rfl
   case kc118=>kernel_rfl
   case kw118=>rfl
   case hy118=>(intro wq hSw;(try dsimp only at hSw);go_simp;try with_reducible rfl)
   try simp only [Act.put,List.setIfInBounds_toArray,List.set_cons_zero,List.set_cons_succ]
   refine wpAnyH_ready (rs:=[10]) (by kernel_rfl) (by simp) ?_
   refine AllReadyH.cons (o:=?oi119) ?ho119 (fun K hK=>?st119) AllReadyH.nil
   case ho119=>(simp only [List.getElem?_toArray,List.getElem?_cons_zero,List.getElem?_cons_succ];rfl)
   rw [if_pos (by rfl)]
   refine wp_store_mid 37 (.tmp 12) (.tmp 52) rfl (w0.heap.size) 0 (dlgA (agaN x.s r).dlg v1) rfl rfl (blk_there HZ1.out (Nat.le_refl 26)) (by kernel_rfl) (dlgA_one HM1.out.one) ?_
   have hgd:w0.heap.size<=w0.heap.size:=Nat.le_refl _
   have hk2:Blk (World.setCells w1 (w0.heap.size) 0 (dlgA (agaN x.s r).dlg v1).toList) (w0.heap.size) 37 (dlgA (agaN x.s r).dlg v1):=blk_setCells (dlgA (agaN x.s r).dlg v1).toList (off:=0) HZ1.out (Nat.le_refl 26)
   have hb2:=below_sc (off:=0) (l:=(dlgA (agaN x.s r).dlg v1).toList) HX1.out (Nat.le_refl _) hgd
   have hm2:=HM1.out.fr (fr_setCells (w0.heap.size) (dlgA (agaN x.s r).dlg v1).toList 0 w1) (keepP_blk HZ1.out (by decide) (by decide))
   obtain ⟨w2,hu⟩:∃ u,World.setCells w1 (w0.heap.size) 0 (dlgA (agaN x.s r).dlg v1).toList=u:=⟨_,rfl⟩
   rw [hu] at hk2 hb2 hm2 ⊢
   clear hu
   have HK2:=hid hk2
   have HB2:=hid hb2
   have HM2:=hid hm2
   have HGD:=hid hgd
   clear hk2 hb2 hm2 hgd
   refine hK.out _ _ (HS.out _ HB2.out) (fun hHeld=>?_)
   clear hK K
   try simp only [Act.put,List.setIfInBounds_toArray,List.set_cons_zero,List.set_cons_succ]
   refine wpAnyH_take (i:=11) (oi:=?oi120) (v:=?v120) ?ho120 ?ka120 ?kb120 ?kc120 (fun _ _ _ h=>h) (Or.inl ⟨?kw120,?hy120⟩) (by assumption) ?rest120
   case ho120=>(simp only [List.getElem?_toArray,List.getElem?_cons_zero,List.getElem?_cons_succ];rfl)
   case ka120=>kernel_rfl
   case kb120=>kernel_rfl
   case kc120=>kernel_rfl
   case kw120=>rfl
   case hy120=>(intro wq hSw;(try dsimp only at hSw);go_simp;try with_reducible rfl)
   try simp only [Act.put,List.setIfInBounds_toArray,List.set_cons_zero,List.set_cons_succ]
   refine wpAnyH_done (by kernel_rfl) ?_ _
   refine NoPanic.normal ?_
   clear hHeld HS
   obtain ⟨gd,hgd⟩:∃ gd,w0.heap.size=gd:=⟨_,rfl⟩
   simp only [hgd] at HK2 HGD ⊢
   clear hgd
   have HS:Hid (∀ W,Below w2.heap.size w2 W->W.cell? ⟨p,0,none⟩=some (.string (str c.host))/\W.cell? ⟨p,1,none⟩=some (.int .i64 c.calls)/\W.cell? ⟨p,2,none⟩=some (.int .i64 c.pubs)/\W.cell? ⟨p,3,none⟩=some (.int .i64 c.subs)/\W.cell? ⟨p,4,none⟩=some (.int .i64 c.least)/\W.cell? ⟨p,5,none⟩=some (.int .i64 c.most)/\W.cell? ⟨p,6,none⟩=some (.int .i64 c.usual)/\W.cell? ⟨w.heap.size,29,none⟩=some (.int .i64 r.exp)):=hid (fun W hW=>by
    have k1:=(HTB.out.below (HB2.out.trans (hW.mono HB2.out.size))).top
    have k2:=HKA.out.fr (Fr.of_below (F:=fun _=>False) (HB2.out.trans (hW.mono HB2.out.size))) (fun h=>h)
    exact ⟨k1.cell 0,k1.cell 1,k1.cell 2,k1.cell 3,k1.cell 4,k1.cell 5,k1.cell 6,k2.cell 29⟩)
   have HX0:Hid (Below w2.heap.size w2 w2.drew):=hid (Below.refl _ _).drew
   go_upto_region 9 with (fail)
   refine wp_region_noPanic ?_
   refine wp_region_held_drew (S:=fun W=>W.cell? ⟨p,0,none⟩=some (.string (str c.host))/\W.cell? ⟨p,1,none⟩=some (.int .i64 c.calls)/\W.cell? ⟨p,2,none⟩=some (.int .i64 c.pubs)/\W.cell? ⟨p,3,none⟩=some (.int .i64 c.subs)/\W.cell? ⟨p,4,none⟩=some (.int .i64 c.least)/\W.cell? ⟨p,5,none⟩=some (.int .i64 c.most)/\W.cell? ⟨p,6,none⟩=some (.int .i64 c.usual)/\W.cell? ⟨w.heap.size,29,none⟩=some (.int .i64 r.exp)) (by kernel_rfl) (HS.out _ HX0.out) (fun hHeld=>?_)
   refine wpAnyH_take (i:=0) (oi:=?oi142) (v:=?v142) ?ho142 ?ka142 ?kb142 ?kc142 (fun _ _ _ h=>h) (Or.inl ⟨?kw142,?hy142⟩) (by assumption) ?rest142
   case ho142=>(simp only [List.getElem?_toArray,List.getElem?_cons_zero,List.getElem?_cons_succ];rfl)
   case ka142=>kernel_rfl
   case kb142=>kernel_rfl
   case kc142=>kernel_rfl
   case kw142=>rfl
   case hy142=>(intro wq hSw;(try dsimp only at hSw);go_simp;try with_reducible rfl)
   try simp only [Act.put,List.setIfInBounds_toArray,List.set_cons_zero,List.set_cons_succ]
   refine wpAnyH_take (i:=1) (oi:=?oi143) (v:=?v143) ?ho143 ?ka143 ?kb143 ?kc143 (fun _ _ _ h=>h) (Or.inl ⟨?kw143,?hy143⟩) (by assumption) ?rest143
   case ho143=>(simp only [List.getElem?_toArray,List.getElem?_cons_zero,List.getElem?_cons_succ];rfl)
   case ka143=>kernel_rfl
   case kb143=>kernel_rfl
   case kc143=>kernel_rfl
   case kw143=>rfl
   case hy143=>(intro wq hSw;(try dsimp only at hSw);go_simp;try with_reducible rfl)
   try simp only [Act.put,List.setIfInBounds_toArray,List.set_cons_zero,List.set_cons_succ]
   refine wpAnyH_take (i:=2) (oi:=?oi144) (v:=?v144) ?ho144 ?ka144 ?kb144 ?kc144 (fun _ _ _ h=>h) (Or.inl ⟨?kw144,?hy144⟩) (by assumption) ?rest144
   case ho144=>(simp only [List.getElem?_toArray,List.getElem?_cons_zero,List.getElem?_cons_succ];rfl)
   case ka144=>kernel_rfl
   case kb144=>kernel_rfl
   case kc144=>kernel_rfl
   case kw144=>rfl
   case hy144=>(intro wq hSw;(try dsimp only at hSw);go_simp;try with_reducible rfl)
   try simp only [Act.put,List.setIfInBounds_toArray,List.set_cons_zero,List.set_cons_succ]
   refine wpAnyH_take (i:=3) (oi:=?oi145) (v:=?v145) ?ho145 ?ka145 ?kb145 ?kc145 (fun _ _ _ h=>h) (Or.inl ⟨?kw145,?hy145⟩) (by assumption) ?rest145
   case ho145=>(simp only [List.getElem?_toArray,List.getElem?_cons_zero,List.getElem?_cons_succ];rfl)
   case ka145=>kernel_rfl
   case kb145=>kernel_rfl
   case kc145=>kernel_rfl
   case kw145=>rfl
   case hy145=>(intro wq hSw;(try dsimp only at hSw);go_simp;try with_reducible rfl)
   try simp only [Act.put,List.setIfInBounds_toArray,List.set_cons_zero,List.set_cons_succ]
   refine wpAnyH_take (i:=4) (oi:=?oi146) (v:=?v146) ?ho146 ?ka146 ?kb146 ?kc146 (fun _ _ _ h=>h) (Or.inl ⟨?kw146,?hy146⟩) (by assumption) ?rest146
   case ho146=>(simp only [List.getElem?_toArray,List.getElem?_cons_zero,List.getElem?_cons_succ];rfl)
   case ka146=>kernel_rfl
   case kb146=>kernel_rfl
   case kc146=>kernel_rfl
   case kw146=>rfl
   case hy146=>(intro wq hSw;(try dsimp only at hSw);go_simp;try with_reducible rfl)
   try simp only [Act.put,List.setIfInBounds_toArray,List.set_cons_zero,List.set_cons_succ]
   refine wpAnyH_take (i:=5) (oi:=?oi147) (v:=?v147) ?ho147 ?ka147 ?kb147 ?kc147 (fun _ _ _ h=>h) (Or.inl ⟨?kw147,?hy147⟩) (by assumption) ?rest147
   case ho147=>(simp only [List.getElem?_toArray,List.getElem?_cons_zero,List.getElem?_cons_succ];rfl)
   case ka147=>kernel_rfl
   case kb147=>kernel_rfl
   case kc147=>kernel_rfl
   case kw147=>rfl
   case hy147=>(intro wq hSw;(try dsimp only at hSw);go_simp;try with_reducible rfl)
   try simp only [Act.put,List.setIfInBounds_toArray,List.set_cons_zero,List.set_cons_succ]
   refine wpAnyH_ready (rs:=[6]) (by kernel_rfl) (by simp) ?_
   refine AllReadyH.cons (o:=?oi148) ?ho148 (fun K hK=>?st148) AllReadyH.nil
   case ho148=>(simp only [List.getElem?_toArray,List.getElem?_cons_zero,List.getElem?_cons_succ];rfl)
   go_simp
   refine (HSEC.out _).mono ?_
   rintro e w3 ⟨rfl,hb3⟩
   have HX3:Hid (Below w2.heap.size w2 w3):=hid (thenB_ HX0.out hb3)
   clear hb3
   go_wp2_with fail
   refine hK.out _ _ (HS.out _ HX3.out) (fun hHeld=>?_)
   clear hK K
   try simp only [Act.put,List.setIfInBounds_toArray,List.set_cons_zero,List.set_cons_succ]
   refine wpAnyH_take (i:=7) (oi:=?oi149) (v:=?v149) ?ho149 ?ka149 ?kb149 ?kc149 (fun _ _ _ h=>h) (Or.inl ⟨?kw149,?hy149⟩) (by assumption) ?rest149
   case ho149=>(simp only [List.getElem?_toArray,List.getElem?_cons_zero,List.getElem?_cons_succ];rfl)
   case ka149=>kernel_rfl
   case kb149=>kernel_rfl
   case kc149=>kernel_rfl
   case kw149=>rfl
   case hy149=>(intro wq hSw;(try dsimp only at hSw);go_simp;try with_reducible rfl)
   try simp only [Act.put,List.setIfInBounds_toArray,List.set_cons_zero,List.set_cons_succ]
   refine wpAnyH_take (i:=8) (oi:=?oi150) (v:=?v150) ?ho150 ?ka150 ?kb150 ?kc150 (fun _ _ _ h=>h) (Or.inl ⟨?kw150,?hy150⟩) (by assumption) ?rest150
   case ho150=>(simp only [List.getElem?_toArray,List.getElem?_cons_zero,List.getElem?_cons_succ];rfl)
   case ka150=>kernel_rfl
   case kb150=>kernel_rfl
   case kc150=>kernel_rfl
   case kw150=>rfl
   case hy150=>(intro wq hSw;(try dsimp only at hSw);go_simp;try with_reducible rfl)
   try simp only [Act.put,List.setIfInBounds_toArray,List.set_cons_zero,List.set_cons_succ]
   refine wpAnyH_take (i:=9) (oi:=?oi151) (v:=?v151) ?ho151 ?ka151 ?kb151 ?kc151 (fun _ _ _ h=>h) (Or.inl ⟨?kw151,?hy151⟩) (by assumption) ?rest151
   case ho151=>(simp only [List.getElem?_toArray,List.getElem?_cons_zero,List.getElem?_cons_succ];rfl)
   case ka151=>kernel_rfl
   case kb151=>kernel_rfl
   case kc151=>kernel_rfl
   case kw151=>rfl
   case hy151=>(intro wq hSw;(try dsimp only at hSw);go_simp;try with_reducible rfl)
   try simp only [Act.put,List.setIfInBounds_toArray,List.set_cons_zero,List.set_cons_succ]
   refine wpAnyH_take (i:=10) (oi:=?oi152) (v:=?v152) ?ho152 ?ka152 ?kb152 ?kc152 (fun _ _ _ h=>h) (Or.inl ⟨?kw152,?hy152⟩) (by assumption) ?rest152
   case ho152=>(simp only [List.getElem?_toArray,List.getElem?_cons_zero,List.getElem?_cons_succ];rfl)
   case ka152=>kernel_rfl
   case kb152=>kernel_rfl
   case kc152=>kernel_rfl
   case kw152=>rfl
   case hy152=>(intro wq hSw;(try dsimp only at hSw);go_simp;try with_reducible rfl)
   try simp only [Act.put,List.setIfInBounds_toArray,List.set_cons_zero,List.set_cons_succ]
   refine wpAnyH_take (i:=11) (oi:=?oi153) (v:=?v153) ?ho153 ?ka153 ?kb153 ?kc153 (fun _ _ _ h=>h) (Or.inl ⟨?kw153,?hy153⟩) (by assumption) ?rest153
   case ho153=>(simp only [List.getElem?_toArray,List.getElem?_cons_zero,List.getElem?_cons_succ];rfl)
   case ka153=>kernel_rfl
   case kb153=>kernel_rfl
   case kc153=>kernel_rfl
   case kw153=>rfl
   case hy153=>(intro wq hSw;(try dsimp only at hSw);go_simp;try with_reducible rfl)
   try simp only [Act.put,List.setIfInBounds_toArray,List.set_cons_zero,List.set_cons_succ]
   refine wpAnyH_done (by kernel_rfl) ?_ _
   refine NoPanic.normal ?_
   clear hHeld
   have HBX:=hid (HB2.out.trans (HX3.out.mono HB2.out.size))
   clear HS HX0
   go_upto_region 12 with (fail)
   have HS:Hid (∀ W,Below w0.heap.size w0 W->W.rangeAt x.b 3 [.string (str x.s.ev.name),x.v.ev]/\W.rangeAt w.heap.size 30 [.string (str r.ev.name),q.ev]):=hid (fun W hW=>⟨blk_range (off:=3) ((HTB.out.its x HX.out).fr (Fr.of_below (F:=fun _=>False) hW) (fun h=>h)) rfl,blk_range (off:=30) (HKA.out.fr (Fr.of_below (F:=fun _=>False) hW) (fun h=>h)) rfl⟩)
   refine wp_region_noPanic ?_
   refine wp_region_held_drew (S:=fun W=>W.rangeAt x.b 3 [.string (str x.s.ev.name),x.v.ev]/\W.rangeAt w.heap.size 30 [.string (str r.ev.name),q.ev]) (by kernel_rfl) (HS.out _ HBX.out.drew) (fun hHeld=>?_)
   refine wpAnyH_take (i:=0) (oi:=?oi154) (v:=?v154) ?ho154 ?ka154 ?kb154 ?kc154 (fun _ _ _ h=>h) (Or.inl ⟨?kw154,?hy154⟩) (by assumption) ?rest154
   case ho154=>(simp only [List.getElem?_toArray,List.getElem?_cons_zero,List.getElem?_cons_succ];rfl)
   case ka154=>kernel_rfl
   case kb154=>kernel_rfl
   case kc154=>kernel_rfl
   case kw154=>rfl
   case hy154=>(intro wq hSw;(try dsimp only at hSw);go_simp;try with_reducible rfl)
   try simp only [Act.put,List.setIfInBounds_toArray,List.set_cons_zero,List.set_cons_succ]
   refine wpAnyH_take (i:=1) (oi:=?oi155) (v:=?v155) ?ho155 ?ka155 ?kb155 ?kc155 (fun _ _ _ h=>h) (Or.inl ⟨?kw155,?hy155⟩) (by assumption) ?rest155
   case ho155=>(simp only [List.getElem?_toArray,List.getElem?_cons_zero,List.getElem?_cons_succ];rfl)
   case ka155=>kernel_rfl
   case kb155=>kernel_rfl
   case kc155=>kernel_rfl
   case kw155=>rfl
   case hy155=>(intro wq hSw;(try dsimp only at hSw);go_simp;try with_reducible rfl)
   try simp only [Act.put,List.setIfInBounds_toArray,List.set_cons_zero,List.set_cons_succ]
   refine wpAnyH_take (i:=2) (oi:=?oi156) (v:=?v156) ?ho156 ?ka156 ?kb156 ?kc156 (fun _ _ _ h=>h) (Or.inl ⟨?kw156,?hy156⟩) (by assumption) ?rest156
   case ho156=>(simp only [List.getElem?_toArray,List.getElem?_cons_zero,List.getElem?_cons_succ];rfl)
   case ka156=>kernel_rfl
   case kb156=>kernel_rfl
   case kc156=>kernel_rfl
   case kw156=>rfl
   case hy156=>(intro wq hSw;(try dsimp only at hSw);go_simp;try with_reducible rfl)
   try simp only [Act.put,List.setIfInBounds_toArray,List.set_cons_zero,List.set_cons_succ]
   refine wpAnyH_take (i:=3) (oi:=?oi157) (v:=.agg #[.string (str x.s.ev.name),x.v.ev]) ?ho157 ?ka157 ?kb157 ?kc157 (fun _ _ _ h=>h) ?hy157 (by assumption) ?rest157
   case ho157=>(simp only [List.getElem?_toArray,List.getElem?_cons_zero,List.getElem?_cons_succ];rfl)
   case ka157=>kernel_rfl
   case kb157=>kernel_rfl
   case kc157=>kernel_rfl
   case hy157=>(exact yieldsIf_load_mid (by rfl) 30 (.tmp 72) rfl x.b 3 rfl [.string (str x.s.ev.name),x.v.ev] _ (fun wq hSw=>hSw.1) Tryz.underlying30 rfl (by kernel_rfl))
   try simp only [Act.put,List.setIfInBounds_toArray,List.set_cons_zero,List.set_cons_succ]
   refine wpAnyH_take (i:=4) (oi:=?oi158) (v:=?v158) ?ho158 ?ka158 ?kb158 ?kc158 (fun _ _ _ h=>h) (Or.inl ⟨?kw158,?hy158⟩) (by assumption) ?rest158
   case ho158=>(simp only [List.getElem?_toArray,List.getElem?_cons_zero,List.getElem?_cons_succ];rfl)
   case ka158=>kernel_rfl
   case kb158=>kernel_rfl
   case kc158=>kernel_rfl
   case kw158=>rfl
   case hy158=>(intro wq hSw;(try dsimp only at hSw);go_simp;try with_reducible rfl)
   try simp only [Act.put,List.setIfInBounds_toArray,List.set_cons_zero,List.set_cons_succ]
   refine wpAnyH_take (i:=5) (oi:=?oi159) (v:=.agg #[.string (str r.ev.name),q.ev]) ?ho159 ?ka159 ?kb159 ?kc159 (fun _ _ _ h=>h) ?hy159 (by assumption) ?rest159
   case ho159=>(simp only [List.getElem?_toArray,List.getElem?_cons_zero,List.getElem?_cons_succ];rfl)
   case ka159=>kernel_rfl
   case kb159=>kernel_rfl
   case kc159=>kernel_rfl
   case hy159=>(exact yieldsIf_load_mid (by rfl) 30 (.tmp 74) rfl w.heap.size 30 rfl [.string (str r.ev.name),q.ev] _ (fun wq hSw=>hSw.2) Tryz.underlying30 rfl (by kernel_rfl))
   try simp only [Act.put,List.setIfInBounds_toArray,List.set_cons_zero,List.set_cons_succ]
   refine wpAnyH_ready (rs:=[6]) (by kernel_rfl) (by simp) ?_
   refine AllReadyH.cons (o:=?oi160) ?ho160 (fun K hK=>?st160) AllReadyH.nil
   case ho160=>(simp only [List.getElem?_toArray,List.getElem?_cons_zero,List.getElem?_cons_succ];rfl)
   go_simp
   refine (HIS.out _ HBX.out.drew).mono ?_
   rintro e w4 ⟨rfl,hb4⟩
   have HB4:Hid (Below w0.heap.size w0 w4):=hid (thenB_ HBX.out.drew hb4)
   clear hb4
   go_wp2_with fail
   refine hK.out _ _ (HS.out _ HB4.out) (fun hHeld=>?_)
   clear hK K
   try simp only [Act.put,List.setIfInBounds_toArray,List.set_cons_zero,List.set_cons_succ]
   refine wpAnyH_take (i:=7) (oi:=?oi161) (v:=?v161) ?ho161 ?ka161 ?kb161 ?kc161 (fun _ _ _ h=>h) (Or.inl ⟨?kw161,?hy161⟩) (by assumption) ?rest161
   case ho161=>(simp only [List.getElem?_toArray,List.getElem?_cons_zero,List.getElem?_cons_succ];rfl)
   case ka161=>kernel_rfl
   case kb161=>kernel_rfl
   case kc161=>kernel_rfl
   case kw161=>rfl
   case hy161=>(intro wq hSw;(try dsimp only at hSw);go_simp;try with_reducible rfl)
   try simp only [Act.put,List.setIfInBounds_toArray,List.set_cons_zero,List.set_cons_succ]
   refine wpAnyH_take (i:=8) (oi:=?oi162) (v:=?v162) ?ho162 ?ka162 ?kb162 ?kc162 (fun _ _ _ h=>h) (Or.inl ⟨?kw162,?hy162⟩) (by assumption) ?rest162
   case ho162=>(simp only [List.getElem?_toArray,List.getElem?_cons_zero,List.getElem?_cons_succ];rfl)
   case ka162=>kernel_rfl
   case kb162=>kernel_rfl
   case kc162=>kernel_rfl
   case kw162=>rfl
   case hy162=>(intro wq hSw;(try dsimp only at hSw);go_simp;try with_reducible rfl)
   try simp only [Act.put,List.setIfInBounds_toArray,List.set_cons_zero,List.set_cons_succ]
   refine wpAnyH_done (by kernel_rfl) ?_ _
   refine NoPanic.normal ?_
   clear hHeld HS
   have HKR:=hid (HKB.out.fr (Fr.of_below (F:=fun _=>False) HB4.out) (fun h=>h))
   have HBR:=hid (HB0.out.trans (HB4.out.mono HB0.out.size))
   go_wp2_with (first|(refine wpl_store rfl 39 (.tmp 8) (.tmp 82) rfl (w.heap.size+1) 0 rfl sub0 rfl HKR.out (Nat.le_refl 34) sub0 rfl (by kernel_rfl) sub0_one ?_;intro wz hkz hfz))
   exact ret_cell2 rfl rfl rfl rfl hkz _ Tryz.underlying39 rfl (by kernel_rfl) (HRT.out _ _ (below_upfr HBR.out (Nat.le_refl _) hfz (fun k e=>by omega)) HE.out)
  .have HE:=hid hx
   rw [h1] at HTK
   have htk:0<=now/\now<=549755813888:=by
    unfold tickB at h1
    simp only [Bool.and_eq_true,decide_eq_true_eq] at h1
    exact h1
   have HTI:=hid htk
   have HST:=hid h2
   have d2:(x.s.state == 2)=false:=by simpa using h2
   have HTA:Hid (∀ W,Below w0.heap.size w0 W->Calls Tryz.prog 42 #[.agg (dlgA x.s.dlg x.v),.agg (reqA r q)] W fun e w'=>∃ v',e=.returned (.tuple #[.agg (dlgA (agaN x.s r).dlg v'),.int .i64 (takR x.s.dlg r).err])/\DlgM w' (agaN x.s r).dlg v'/\Below W.heap.size W w'):=hid (fun W hW=>by
    have m:=HTB.out.sub x HX.out
    exact Take_any (Nat.le_trans HBB.out hW.size) (DlgM.below ⟨⟨m.lp,m.lh,m.la⟩,⟨m.rp,m.rh,m.ra⟩,m.tp,m.th,m.ro⟩ hW) (HR0.out.below (hW.mono HBB.out)) HZX.out.pl HZX.out.pr HZ.out.co)
   have HSEC:Hid (∀ W,Calls Tryz.prog 36 #[.agg #[.string (str c.host),.int .i64 c.calls,.int .i64 c.pubs,.int .i64 c.subs,.int .i64 c.least,.int .i64 c.most,.int .i64 c.usual],.int .i64 r.exp] W fun e w'=>e=.returned (.tuple #[.int .i64 (secN c r.exp),.bool (secK c r.exp)])/\Below W.heap.size W w'):=hid (fun W=>seconds_any c r.exp W)
   have HIS:Hid (∀ W,Below w0.heap.size w0 W->Calls Tryz.prog 43 #[.agg #[.string (str x.s.ev.name),x.v.ev],.agg #[.string (str r.ev.name),q.ev]] W fun e w'=>e=.returned (.bool (evIs x.s.ev r.ev))/\Below W.heap.size W w'):=hid (fun W hW=>Is_any (B:=w0.heap.size) hW.size ((HTB.out.sub x HX.out).ev.prB.below hW) ((HR0.out.ev.up HBB.out).below hW) HZX.out.pe HZ.out.evP)
   have HSN:=hid (sec_lo HQ.out.right r.exp)
   rw [hq0] at HTA
   have hd0:∃ d0,Value.agg (dlgA x.s.dlg x.v)=d0:=⟨_,rfl⟩
   obtain ⟨d0,hd0⟩:=hd0
   rw [hd0] at HTA
   rw [h3] at HTA
   rw [h4] at HIS
   rw [h5] at HSEC
   generalize hN:secN c r.exp=N at HE HSEC HSN
   clear h3 h4 h5
   clear hx h1 h2 htk
   go_upto_region 8 with (first|(go_at_call 33;refine (hm.out).mono ?_;rintro e w' ⟨rfl,rfl⟩)|(go_at_call 34;refine (HTK.out _).mono ?_;rintro e w' ⟨rfl,rfl⟩))
   have HS:Hid (∀ W,Below w0.heap.size w0 W->W.rangeAt x.b 8 (dlgA x.s.dlg x.v).toList/\W.rangeAt w.heap.size 0 (reqA r q).toList):=hid (fun W hW=>⟨blk_range (off:=8) ((HTB.out.its x HX.out).fr (Fr.of_below (F:=fun _=>False) hW) (fun h=>h)) rfl,blk_range (off:=0) (HKA.out.fr (Fr.of_below (F:=fun _=>False) hW) (fun h=>h)) rfl⟩)
   have HX0:Hid (Below w0.heap.size w0 w0.drew):=hid (Below.refl _ _).drew
   refine wp_region_noPanic ?_
   refine wp_region_held_drew (S:=fun W=>W.rangeAt x.b 8 (dlgA x.s.dlg x.v).toList/\W.rangeAt w.heap.size 0 (reqA r q).toList) (by kernel_rfl) (HS.out _ HX0.out) (fun hHeld=>?_)
   refine wpAnyH_take (i:=0) (oi:=?oi163) (v:=?v163) ?ho163 ?ka163 ?kb163 ?kc163 (fun _ _ _ h=>h) (Or.inl ⟨?kw163,?hy163⟩) (by assumption) ?rest163
   case ho163=>(simp only [List.getElem?_toArray,List.getElem?_cons_zero,List.getElem?_cons_succ];rfl)
   case ka163=>kernel_rfl
   case kb163=>kernel_rfl
   case kc163=>kernel_rfl
   case kw163=>rfl
   case hy163=>(intro wq hSw;(try dsimp only at hSw);go_simp;try with_reducible rfl)
   try simp only [Act.put,List.setIfInBounds_toArray,List.set_cons_zero,List.set_cons_succ]
   refine wpAnyH_take (i:=1) (oi:=?oi164) (v:=?v164) ?ho164 ?ka164 ?kb164 ?kc164 (fun _ _ _ h=>h) (Or.inl ⟨?kw164,?hy164⟩) (by assumption) ?rest164
   case ho164=>(simp only [List.getElem?_toArray,List.getElem?_cons_zero,List.getElem?_cons_succ];rfl)
   case ka164=>kernel_rfl
   case kb164=>kernel_rfl
   case kc164=>kernel_rfl
   case kw164=>rfl
   case hy164=>(intro wq hSw;(try dsimp only at hSw);go_simp;try with_reducible rfl)
   try simp only [Act.put,List.setIfInBounds_toArray,List.set_cons_zero,List.set_cons_succ]
   refine wpAnyH_take (i:=2) (oi:=?oi165) (v:=?v165) ?ho165 ?ka165 ?kb165 ?kc165 (fun _ _ _ h=>h) (Or.inl ⟨?kw165,?hy165⟩) (by assumption) ?rest165
   case ho165=>(simp only [List.getElem?_toArray,List.getElem?_cons_zero,List.getElem?_cons_succ];rfl)
   case ka165=>kernel_rfl
   case kb165=>kernel_rfl
   case kc165=>kernel_rfl
   case kw165=>rfl
   case hy165=>(intro wq hSw;(try dsimp only at hSw);go_simp;try with_reducible rfl)
   try simp only [Act.put,List.setIfInBounds_toArray,List.set_cons_zero,List.set_cons_succ]
   refine wpAnyH_take (i:=3) (oi:=?oi166) (v:=d0) ?ho166 ?ka166 ?kb166 ?kc166 (fun _ _ _ h=>h) ?hy166 (by assumption) ?rest166
   case ho166=>(simp only [List.getElem?_toArray,List.getElem?_cons_zero,List.getElem?_cons_succ];rfl)
   case ka166=>kernel_rfl
   case kb166=>kernel_rfl
   case kc166=>kernel_rfl
   case hy166=>(rw [<-hd0];exact yieldsIf_load_mid (by rfl) 37 (.tmp 48) rfl x.b 8 rfl (dlgA x.s.dlg x.v).toList _ (fun wq hSw=>hSw.1) Tryz.underlying37 rfl (by kernel_rfl))
   try simp only [Act.put,List.setIfInBounds_toArray,List.set_cons_zero,List.set_cons_succ]
   refine wpAnyH_take (i:=4) (oi:=?oi167) (v:=q0) ?ho167 ?ka167 ?kb167 ?kc167 (fun _ _ _ h=>h) ?hy167 (by assumption) ?rest167
   case ho167=>(simp only [List.getElem?_toArray,List.getElem?_cons_zero,List.getElem?_cons_succ];rfl)
   case ka167=>kernel_rfl
   case kb167=>kernel_rfl
   case kc167=>kernel_rfl
   case hy167=>(rw [<-hq0];exact yieldsIf_load_mid (by rfl) 45 (.tmp 7) rfl w.heap.size 0 rfl (reqA r q).toList _ (fun wq hSw=>hSw.2) Tryz.underlying45 rfl (by kernel_rfl))
   try simp only [Act.put,List.setIfInBounds_toArray,List.set_cons_zero,List.set_cons_succ]
   refine wpAnyH_ready (rs:=[5,9]) (by kernel_rfl) (by simp) ?_
   refine AllReadyH.cons (o:=?oi168) ?ho168 (fun K hK=>?st168) ?mo168
   case ho168=>(simp only [List.getElem?_toArray,List.getElem?_cons_zero,List.getElem?_cons_succ];rfl)
   .go_simp
    refine (HTA.out _ HX0.out).mono ?_
    rintro e w1 ⟨v1,rfl,m1,hb1⟩
    have HM1:=hid m1
    have HX1:Hid (Below w0.heap.size w0 w1):=hid (thenB_ HX0.out hb1)
    clear m1 hb1
    go_wp2_with fail
    refine hK.out _ _ (HS.out _ HX1.out) (fun hHeld=>?_)
    clear hK K
    try simp only [Act.put,List.setIfInBounds_toArray,List.set_cons_zero,List.set_cons_succ]
    refine wpAnyH_take (i:=6) (oi:=?oi169) (v:=?v169) ?ho169 ?ka169 ?kb169 ?kc169 (fun _ _ _ h=>h) (Or.inl ⟨?kw169,?hy169⟩) (by assumption) ?rest169
    case ho169=>(simp only [List.getElem?_toArray,List.getElem?_cons_zero,List.getElem?_cons_succ];rfl)
    case ka169=>kernel_rfl
    case kb169=>kernel_rfl
    case kc169=>kernel_rfl
    case kw169=>rfl
    case hy169=>(intro wq hSw;(try dsimp only at hSw);go_simp;try with_reducible rfl)
    try simp only [Act.put,List.setIfInBounds_toArray,List.set_cons_zero,List.set_cons_succ]
    refine wpAnyH_take (i:=7) (oi:=?oi170) (v:=?v170) ?ho170 ?ka170 ?kb170 ?kc170 (fun _ _ _ h=>h) (Or.inl ⟨?kw170,?hy170⟩) (by assumption) ?rest170
    case ho170=>(simp only [List.getElem?_toArray,List.getElem?_cons_zero,List.getElem?_cons_succ];rfl)
    case ka170=>kernel_rfl
    case kb170=>kernel_rfl
    case kc170=>kernel_rfl
    case kw170=>rfl
    case hy170=>(intro wq hSw;(try dsimp only at hSw);go_simp;try with_reducible rfl)
    try simp only [Act.put,List.setIfInBounds_toArray,List.set_cons_zero,List.set_cons_succ]
    refine wpAnyH_take (i:=8) (oi:=?oi171) (v:=?v171) ?ho171 ?ka171 ?kb171 ?kc171 (fun _ _ _ h=>h) (Or.inl ⟨?kw171,?hy171⟩) (by assumption) ?rest171
    case ho171=>(simp only [List.getElem?_toArray,List.getElem?_cons_zero,List.getElem?_cons_succ];rfl)
    case ka171=>kernel_rfl
    case kb171=>kernel_rfl
    case kc171=>kernel_rfl
    case kw171=>rfl
    case hy171=>(intro wq hSw;(try dsimp only at hSw);go_simp;try with_reducible rfl)
    try simp only [Act.put,List.setIfInBounds_toArray,List.set_cons_zero,List.set_cons_succ]
    refine wpAnyH_ready (rs:=[9]) (by kernel_rfl) (by simp) ?_
    refine AllReadyH.cons (o:=?oi172) ?ho172 (fun K hK=>?st172) AllReadyH.nil
    case ho172=>(simp only [List.getElem?_toArray,List.getElem?_cons_zero,List.getElem?_cons_succ];rfl)
    go_simp
    have HZ2:=hid (Blk.new w1 37 dlg0)
    have HXA:Hid (Below w0.heap.size w0 (w1.alloc (.cells dlg0 37))):=hid (thenB_ HX1.out ((Below.refl _ _).alloc (Nat.le_refl _) _))
    have HMA:=hid (HM1.out.below ((Below.refl w1.heap.size w1).alloc (Nat.le_refl _) (.cells dlg0 37)))
    obtain ⟨wa,hwa⟩:∃ u,w1.alloc (.cells #[.string ⟨#[]⟩,.string ⟨#[]⟩,.string ⟨#[]⟩,.string ⟨#[]⟩,.string ⟨#[]⟩,.int .i64 0,.slice none 0 0,.slice none 0 0,.slice none 0 0,.string ⟨#[]⟩,.string ⟨#[]⟩,.string ⟨#[]⟩,.string ⟨#[]⟩,.int .i64 0,.slice none 0 0,.slice none 0 0,.slice none 0 0,.string ⟨#[]⟩,.string ⟨#[]⟩,.string ⟨#[]⟩,.int .i64 0,.slice none 0 0,.slice none 0 0,.slice none 0 0,.int .i64 0,.int .i64 0] 37)=u:=⟨_,rfl⟩
    unfold dlg0 at HZ2 HXA HMA
    rw [hwa] at HZ2 HXA HMA ⊢
    clear hwa
    refine hK.out _ _ (HS.out _ HXA.out) (fun hHeld=>?_)
    clear hK K
    try simp only [Act.put,List.setIfInBounds_toArray,List.set_cons_zero,List.set_cons_succ]
    refine wpAnyH_ready (rs:=[10]) (by kernel_rfl) (by simp) ?_
    refine AllReadyH.cons (o:=?oi173) ?ho173 (fun K hK=>?st173) AllReadyH.nil
    case ho173=>(simp only [List.getElem?_toArray,List.getElem?_cons_zero,List.getElem?_cons_succ];rfl)
    rw [if_pos (by rfl)]
    refine wp_store_mid 37 (.tmp 12) (.tmp 52) rfl (w1.heap.size) 0 (dlgA (agaN x.s r).dlg v1) rfl rfl (blk_there HZ2.out (Nat.le_refl 26)) (by kernel_rfl) (dlgA_one HM1.out.one) ?_
    have hgd:w0.heap.size<=w1.heap.size:=HX1.out.size
    have hk2:Blk (World.setCells wa (w1.heap.size) 0 (dlgA (agaN x.s r).dlg v1).toList) (w1.heap.size) 37 (dlgA (agaN x.s r).dlg v1):=blk_setCells (dlgA (agaN x.s r).dlg v1).toList (off:=0) HZ2.out (Nat.le_refl 26)
    have hb2:=below_sc (off:=0) (l:=(dlgA (agaN x.s r).dlg v1).toList) HXA.out (Nat.le_refl _) hgd
    have hm2:=HMA.out.fr (fr_setCells (w1.heap.size) (dlgA (agaN x.s r).dlg v1).toList 0 wa) (keepP_blk HZ2.out (by decide) (by decide))
    obtain ⟨w2,hu⟩:∃ u,World.setCells wa (w1.heap.size) 0 (dlgA (agaN x.s r).dlg v1).toList=u:=⟨_,rfl⟩
    rw [hu] at hk2 hb2 hm2 ⊢
    clear hu
    have HK2:=hid hk2
    have HB2:=hid hb2
    have HM2:=hid hm2
    have HGD:=hid hgd
    clear hk2 hb2 hm2 hgd
    refine hK.out _ _ (HS.out _ HB2.out) (fun hHeld=>?_)
    clear hK K
    try simp only [Act.put,List.setIfInBounds_toArray,List.set_cons_zero,List.set_cons_succ]
    refine wpAnyH_take (i:=11) (oi:=?oi174) (v:=?v174) ?ho174 ?ka174 ?kb174 ?kc174 (fun _ _ _ h=>h) (Or.inl ⟨?kw174,?hy174⟩) (by assumption) ?rest174
    case ho174=>(simp only [List.getElem?_toArray,List.getElem?_cons_zero,List.getElem?_cons_succ];rfl)
    case ka174=>kernel_rfl
    case kb174=>kernel_rfl
    case kc174=>kernel_rfl
    case kw174=>rfl
    case hy174=>(intro wq hSw;(try dsimp only at hSw);go_simp;try with_reducible rfl)
    try simp only [Act.put,List.setIfInBounds_toArray,List.set_cons_zero,List.set_cons_succ]
    refine wpAnyH_done (by kernel_rfl) ?_ _
    refine NoPanic.normal ?_
    clear hHeld HS
    obtain ⟨gd,hgd⟩:∃ gd,w1.heap.size=gd:=⟨_,rfl⟩
    simp only [hgd] at HK2 HGD ⊢
    clear hgd
    have HS:Hid (∀ W,Below w2.heap.size w2 W->W.cell? ⟨p,0,none⟩=some (.string (str c.host))/\W.cell? ⟨p,1,none⟩=some (.int .i64 c.calls)/\W.cell? ⟨p,2,none⟩=some (.int .i64 c.pubs)/\W.cell? ⟨p,3,none⟩=some (.int .i64 c.subs)/\W.cell? ⟨p,4,none⟩=some (.int .i64 c.least)/\W.cell? ⟨p,5,none⟩=some (.int .i64 c.most)/\W.cell? ⟨p,6,none⟩=some (.int .i64 c.usual)/\W.cell? ⟨w.heap.size,29,none⟩=some (.int .i64 r.exp)):=hid (fun W hW=>by
     have k1:=(HTB.out.below (HB2.out.trans (hW.mono HB2.out.size))).top
     have k2:=HKA.out.fr (Fr.of_below (F:=fun _=>False) (HB2.out.trans (hW.mono HB2.out.size))) (fun h=>h)
     exact ⟨k1.cell 0,k1.cell 1,k1.cell 2,k1.cell 3,k1.cell 4,k1.cell 5,k1.cell 6,k2.cell 29⟩)
    have HX0:Hid (Below w2.heap.size w2 w2.drew):=hid (Below.refl _ _).drew
    go_upto_region 9 with (fail)
    refine wp_region_noPanic ?_
    refine wp_region_held_drew (S:=fun W=>W.cell? ⟨p,0,none⟩=some (.string (str c.host))/\W.cell? ⟨p,1,none⟩=some (.int .i64 c.calls)/\W.cell? ⟨p,2,none⟩=some (.int .i64 c.pubs)/\W.cell? ⟨p,3,none⟩=some (.int .i64 c.subs)/\W.cell? ⟨p,4,none⟩=some (.int .i64 c.least)/\W.cell? ⟨p,5,none⟩=some (.int .i64 c.most)/\W.cell? ⟨p,6,none⟩=some (.int .i64 c.usual)/\W.cell? ⟨w.heap.size,29,none⟩=some (.int .i64 r.exp)) (by kernel_rfl) (HS.out _ HX0.out) (fun hHeld=>?_)
    refine wpAnyH_take (i:=0) (oi:=?oi181) (v:=?v181) ?ho181 ?ka181 ?kb181 ?kc181 (fun _ _ _ h=>h) (Or.inl ⟨?kw181,?hy181⟩) (by assumption) ?rest181
    case ho181=>(simp only [List.getElem?_toArray,List.getElem?_cons_zero,List.getElem?_cons_succ];rfl)
    case ka181=>kernel_rfl
    case kb181=>kernel_rfl
    case kc181=>kernel_rfl
    case kw181=>rfl
    case hy181=>(intro wq hSw;(try dsimp only at hSw);go_simp;try with_reducible rfl)
    try simp only [Act.put,List.setIfInBounds_toArray,List.set_cons_zero,List.set_cons_succ]
    refine wpAnyH_take (i:=1) (oi:=?oi182) (v:=?v182) ?ho182 ?ka182 ?kb182 ?kc182 (fun _ _ _ h=>h) (Or.inl ⟨?kw182,?hy182⟩) (by assumption) ?rest182
    case ho182=>(simp only [List.getElem?_toArray,List.getElem?_cons_zero,List.getElem?_cons_succ];rfl)
    case ka182=>kernel_rfl
    case kb182=>kernel_rfl
    case kc182=>kernel_rfl
    case kw182=>rfl
    case hy182=>(intro wq hSw;(try dsimp only at hSw);go_simp;try with_reducible rfl)
    try simp only [Act.put,List.setIfInBounds_toArray,List.set_cons_zero,List.set_cons_succ]
    refine wpAnyH_take (i:=2) (oi:=?oi183) (v:=?v183) ?ho183 ?ka183 ?kb183 ?kc183 (fun _ _ _ h=>h) (Or.inl ⟨?kw183,?hy183⟩) (by assumption) ?rest183
    case ho183=>(simp only [List.getElem?_toArray,List.getElem?_cons_zero,List.getElem?_cons_succ];rfl)
    case ka183=>kernel_rfl
    case kb183=>kernel_rfl
    case kc183=>kernel_rfl
    case kw183=>rfl
    case hy183=>(intro wq hSw;(try dsimp only at hSw);go_simp;try with_reducible rfl)
    try simp only [Act.put,List.setIfInBounds_toArray,List.set_cons_zero,List.set_cons_succ]
    refine wpAnyH_take (i:=3) (oi:=?oi184) (v:=?v184) ?ho184 ?ka184 ?kb184 ?kc184 (fun _ _ _ h=>h) (Or.inl ⟨?kw184,?hy184⟩) (by assumption) ?rest184
    case ho184=>(simp only [List.getElem?_toArray,List.getElem?_cons_zero,List.getElem?_cons_succ];rfl)
    case ka184=>kernel_rfl
    case kb184=>kernel_rfl
    case kc184=>kernel_rfl
    case kw184=>rfl
    case hy184=>(intro wq hSw;(try dsimp only at hSw);go_simp;try with_reducible rfl)
    try simp only [Act.put,List.setIfInBounds_toArray,List.set_cons_zero,List.set_cons_succ]
    refine wpAnyH_take (i:=4) (oi:=?oi185) (v:=?v185) ?ho185 ?ka185 ?kb185 ?kc185 (fun _ _ _ h=>h) (Or.inl ⟨?kw185,?hy185⟩) (by assumption) ?rest185
    case ho185=>(simp only [List.getElem?_toArray,List.getElem?_cons_zero,List.getElem?_cons_succ];rfl)
    case ka185=>kernel_rfl
    case kb185=>kernel_rfl
    case kc185=>kernel_rfl
    case kw185=>rfl
    case hy185=>(intro wq hSw;(try dsimp only at hSw);go_simp;try with_reducible rfl)
    try simp only [Act.put,List.setIfInBounds_toArray,List.set_cons_zero,List.set_cons_succ]
    refine wpAnyH_take (i:=5) (oi:=?oi186) (v:=?v186) ?ho186 ?ka186 ?kb186 ?kc186 (fun _ _ _ h=>h) (Or.inl ⟨?kw186,?hy186⟩) (by assumption) ?rest186
    case ho186=>(simp only [List.getElem?_toArray,List.getElem?_cons_zero,List.getElem?_cons_succ];rfl)
    case ka186=>kernel_rfl
    case kb186=>kernel_rfl
    case kc186=>kernel_rfl
    case kw186=>rfl
    case hy186=>(intro wq hSw;(try dsimp only at hSw);go_simp;try with_reducible rfl)
    try simp only [Act.put,List.setIfInBounds_toArray,List.set_cons_zero,List.set_cons_succ]
    refine wpAnyH_ready (rs:=[6]) (by kernel_rfl) (by simp) ?_
    refine AllReadyH.cons (o:=?oi187) ?ho187 (fun K hK=>?st187) AllReadyH.nil
    case ho187=>(simp only [List.getElem?_toArray,List.getElem?_cons_zero,List.getElem?_cons_succ];rfl)
    go_simp
    refine (HSEC.out _).mono ?_
    rintro e w3 ⟨rfl,hb3⟩
    have HX3:Hid (Below w2.heap.size w2 w3):=hid (thenB_ HX0.out hb3)
    clear hb3
    go_wp2_with fail
    refine hK.out _ _ (HS.out _ HX3.out) (fun hHeld=>?_)
    clear hK K
    try simp only [Act.put,List.setIfInBounds_toArray,List.set_cons_zero,List.set_cons_succ]
    refine wpAnyH_take (i:=7) (oi:=?oi188) (v:=?v188) ?ho188 ?ka188 ?kb188 ?kc188 (fun _ _ _ h=>h) (Or.inl ⟨?kw188,?hy188⟩) (by assumption) ?rest188
    case ho188=>(simp only [List.getElem?_toArray,List.getElem?_cons_zero,List.getElem?_cons_succ];rfl)
    case ka188=>kernel_rfl
    case kb188=>kernel_rfl
    case kc188=>kernel_rfl
    case kw188=>rfl
    case hy188=>(intro wq hSw;(try dsimp only at hSw);go_simp;try with_reducible rfl)
    try simp only [Act.put,List.setIfInBounds_toArray,List.set_cons_zero,List.set_cons_succ]
    refine wpAnyH_take (i:=8) (oi:=?oi189) (v:=?v189) ?ho189 ?ka189 ?kb189 ?kc189 (fun _ _ _ h=>h) (Or.inl ⟨?kw189,?hy189⟩) (by assumption) ?rest189
    case ho189=>(simp only [List.getElem?_toArray,List.getElem?_cons_zero,List.getElem?_cons_succ];rfl)
    case ka189=>kernel_rfl
    case kb189=>kernel_rfl
    case kc189=>kernel_rfl
    case kw189=>rfl
    case hy189=>(intro wq hSw;(try dsimp only at hSw);go_simp;try with_reducible rfl)
    try simp only [Act.put,List.setIfInBounds_toArray,List.set_cons_zero,List.set_cons_succ]
    refine wpAnyH_take (i:=9) (oi:=?oi190) (v:=?v190) ?ho190 ?ka190 ?kb190 ?kc190 (fun _ _ _ h=>h) (Or.inl ⟨?kw190,?hy190⟩) (by assumption) ?rest190
    case ho190=>(simp only [List.getElem?_toArray,List.getElem?_cons_zero,List.getElem?_cons_succ];rfl)
    case ka190=>kernel_rfl
    case kb190=>kernel_rfl
    case kc190=>kernel_rfl
    case kw190=>rfl
    case hy190=>(intro wq hSw;(try dsimp only at hSw);go_simp;try with_reducible rfl)
    try simp only [Act.put,List.setIfInBounds_toArray,List.set_cons_zero,List.set_cons_succ]
    refine wpAnyH_take (i:=10) (oi:=?oi191) (v:=?v191) ?ho191 ?ka191 ?kb191 ?kc191 (fun _ _ _ h=>h) (Or.inl ⟨?kw191,?hy191⟩) (by assumption) ?rest191
    case ho191=>(simp only [List.getElem?_toArray,List.getElem?_cons_zero,List.getElem?_cons_succ];rfl)
    case ka191=>kernel_rfl
    case kb191=>kernel_rfl
    case kc191=>kernel_rfl
    case kw191=>rfl
    case hy191=>(intro wq hSw;(try dsimp only at hSw);go_simp;try with_reducible rfl)
    try simp only [Act.put,List.setIfInBounds_toArray,List.set_cons_zero,List.set_cons_succ]
    refine wpAnyH_take (i:=11) (oi:=?oi192) (v:=?v192) ?ho192 ?ka192 ?kb192 ?kc192 (fun _ _ _ h=>h) (Or.inl ⟨?kw192,?hy192⟩) (by assumption) ?rest192
    case ho192=>(simp only [List.getElem?_toArray,List.getElem?_cons_zero,List.getElem?_cons_succ];rfl)
    case ka192=>kernel_rfl
    case kb192=>kernel_rfl
    case kc192=>kernel_rfl
    case kw192=>rfl
    case hy192=>(intro wq hSw;(try dsimp only at hSw);go_simp;try with_reducible rfl)
    try simp only [Act.put,List.setIfInBounds_toArray,List.set_cons_zero,List.set_cons_succ]
    refine wpAnyH_done (by kernel_rfl) ?_ _
    refine NoPanic.normal ?_
    clear hHeld
    have HBX:=hid (HB2.out.trans (HX3.out.mono HB2.out.size))
    clear HS HX0
    go_upto_region 12 with (fail)
    have HS:Hid (∀ W,Below w0.heap.size w0 W->W.rangeAt x.b 3 [.string (str x.s.ev.name),x.v.ev]/\W.rangeAt w.heap.size 30 [.string (str r.ev.name),q.ev]):=hid (fun W hW=>⟨blk_range (off:=3) ((HTB.out.its x HX.out).fr (Fr.of_below (F:=fun _=>False) hW) (fun h=>h)) rfl,blk_range (off:=30) (HKA.out.fr (Fr.of_below (F:=fun _=>False) hW) (fun h=>h)) rfl⟩)
    refine wp_region_noPanic ?_
    refine wp_region_held_drew (S:=fun W=>W.rangeAt x.b 3 [.string (str x.s.ev.name),x.v.ev]/\W.rangeAt w.heap.size 30 [.string (str r.ev.name),q.ev]) (by kernel_rfl) (HS.out _ HBX.out.drew) (fun hHeld=>?_)
    refine wpAnyH_take (i:=0) (oi:=?oi193) (v:=?v193) ?ho193 ?ka193 ?kb193 ?kc193 (fun _ _ _ h=>h) (Or.inl ⟨?kw193,?hy193⟩) (by assumption) ?rest193
    case ho193=>(simp only [List.getElem?_toArray,List.getElem?_cons_zero,List.getElem?_cons_succ];rfl)
    case ka193=>kernel_rfl
    case kb193=>kernel_rfl
    case kc193=>kernel_rfl
    case kw193=>rfl
    case hy193=>(intro wq hSw;(try dsimp only at hSw);go_simp;try with_reducible rfl)
    try simp only [Act.put,List.setIfInBounds_toArray,List.set_cons_zero,List.set_cons_succ]
    refine wpAnyH_take (i:=1) (oi:=?oi194) (v:=?v194) ?ho194 ?ka194 ?kb194 ?kc194 (fun _ _ _ h=>h) (Or.inl ⟨?kw194,?hy194⟩) (by assumption) ?rest194
    case ho194=>(simp only [List.getElem?_toArray,List.getElem?_cons_zero,List.getElem?_cons_succ];rfl)
    case ka194=>kernel_rfl
    case kb194=>kernel_rfl
    case kc194=>kernel_rfl
    case kw194=>rfl
    case hy194=>(intro wq hSw;(try dsimp only at hSw);go_simp;try with_reducible rfl)
    try simp only [Act.put,List.setIfInBounds_toArray,List.set_cons_zero,List.set_cons_succ]
    refine wpAnyH_take (i:=2) (oi:=?oi195) (v:=?v195) ?ho195 ?ka195 ?kb195 ?kc195 (fun _ _ _ h=>h) (Or.inl ⟨?kw195,?hy195⟩) (by assumption) ?rest195
    case ho195=>(simp only [List.getElem?_toArray,List.getElem?_cons_zero,List.getElem?_cons_succ];rfl)
    case ka195=>kernel_rfl
    case kb195=>kernel_rfl
    case kc195=>kernel_rfl
    case kw195=>rfl
    case hy195=>(intro wq hSw;(try dsimp only at hSw);go_simp;try with_reducible rfl)
    try simp only [Act.put,List.setIfInBounds_toArray,List.set_cons_zero,List.set_cons_succ]
    refine wpAnyH_take (i:=3) (oi:=?oi196) (v:=.agg #[.string (str x.s.ev.name),x.v.ev]) ?ho196 ?ka196 ?kb196 ?kc196 (fun _ _ _ h=>h) ?hy196 (by assumption) ?rest196
    case ho196=>(simp only [List.getElem?_toArray,List.getElem?_cons_zero,List.getElem?_cons_succ];rfl)
    case ka196=>kernel_rfl
    case kb196=>kernel_rfl
    case kc196=>kernel_rfl
    case hy196=>(exact yieldsIf_load_mid (by rfl) 30 (.tmp 72) rfl x.b 3 rfl [.string (str x.s.ev.name),x.v.ev] _ (fun wq hSw=>hSw.1) Tryz.underlying30 rfl (by kernel_rfl))
    try simp only [Act.put,List.setIfInBounds_toArray,List.set_cons_zero,List.set_cons_succ]
    refine wpAnyH_take (i:=4) (oi:=?oi197) (v:=?v197) ?ho197 ?ka197 ?kb197 ?kc197 (fun _ _ _ h=>h) (Or.inl ⟨?kw197,?hy197⟩) (by assumption) ?rest197
    case ho197=>(simp only [List.getElem?_toArray,List.getElem?_cons_zero,List.getElem?_cons_succ];rfl)
    case ka197=>kernel_rfl
    case kb197=>kernel_rfl
    case kc197=>kernel_rfl
    case kw197=>rfl
    case hy197=>(intro wq hSw;(try dsimp only at hSw);go_simp;try with_reducible rfl)
    try simp only [Act.put,List.setIfInBounds_toArray,List.set_cons_zero,List.set_cons_succ]
    refine wpAnyH_take (i:=5) (oi:=?oi198) (v:=.agg #[.string (str r.ev.name),q.ev]) ?ho198 ?ka198 ?kb198 ?kc198 (fun _ _ _ h=>h) ?hy198 (by assumption) ?rest198
    case ho198=>(simp only [List.getElem?_toArray,List.getElem?_cons_zero,List.getElem?_cons_succ];rfl)
    case ka198=>kernel_rfl
    case kb198=>kernel_rfl
    case kc198=>kernel_rfl
    case hy198=>(exact yieldsIf_load_mid (by rfl) 30 (.tmp 74) rfl w.heap.size 30 rfl [.string (str r.ev.name),q.ev] _ (fun wq hSw=>hSw.2) Tryz.underlying30 rfl (by kernel_rfl))
    try simp only [Act.put,List.setIfInBounds_toArray,List.set_cons_zero,List.set_cons_succ]
    refine wpAnyH_ready (rs:=[6]) (by kernel_rfl) (by simp) ?_
    refine AllReadyH.cons (o:=?oi199) ?ho199 (fun K hK=>?st199) AllReadyH.nil
    case ho199=>(simp only [List.getElem?_toArray,List.getElem?_cons_zero,List.getElem?_cons_succ];rfl)
    go_simp
    refine (HIS.out _ HBX.out.drew).mono ?_
    rintro e w4 ⟨rfl,hb4⟩
    have hb4':Below w3.heap.size w3 w4:=thenB_ (Below.refl w3.heap.size w3).drew hb4
    have HB34:=hid hb4'
    have HB4:Hid (Below w0.heap.size w0 w4):=hid (thenB_ HBX.out.drew hb4)
    clear hb4 hb4'
    go_wp2_with fail
    refine hK.out _ _ (HS.out _ HB4.out) (fun hHeld=>?_)
    clear hK K
    try simp only [Act.put,List.setIfInBounds_toArray,List.set_cons_zero,List.set_cons_succ]
    refine wpAnyH_take (i:=7) (oi:=?oi200) (v:=?v200) ?ho200 ?ka200 ?kb200 ?kc200 (fun _ _ _ h=>h) (Or.inl ⟨?kw200,?hy200⟩) (by assumption) ?rest200
    case ho200=>(simp only [List.getElem?_toArray,List.getElem?_cons_zero,List.getElem?_cons_succ];rfl)
    case ka200=>kernel_rfl
    case kb200=>kernel_rfl
    case kc200=>kernel_rfl
    case kw200=>rfl
    case hy200=>(intro wq hSw;(try dsimp only at hSw);go_simp;try with_reducible rfl)
    try simp only [Act.put,List.setIfInBounds_toArray,List.set_cons_zero,List.set_cons_succ]
    refine wpAnyH_take (i:=8) (oi:=?oi201) (v:=?v201) ?ho201 ?ka201 ?kb201 ?kc201 (fun _ _ _ h=>h) (Or.inl ⟨?kw201,?hy201⟩) (by assumption) ?rest201
    case ho201=>(simp only [List.getElem?_toArray,List.getElem?_cons_zero,List.getElem?_cons_succ];rfl)
    case ka201=>kernel_rfl
    case kb201=>kernel_rfl
    case kc201=>kernel_rfl
    case kw201=>rfl
    case hy201=>(intro wq hSw;(try dsimp only at hSw);go_simp;try with_reducible rfl)
    try simp only [Act.put,List.setIfInBounds_toArray,List.set_cons_zero,List.set_cons_succ]
    refine wpAnyH_done (by kernel_rfl) ?_ _
    refine NoPanic.normal ?_
    clear hHeld HS
    have HK4:=hid (HK2.out.fr (Fr.of_below (F:=fun _=>False) (HX3.out.trans (HB34.out.mono HX3.out.size))) (fun h=>h))
    have HM4:=hid (HM2.out.below (HX3.out.trans (HB34.out.mono HX3.out.size)))
    have HI4:=hid (HTB.out.below HB4.out)
    have HKX:=hid (HI4.out.its x HX.out)
    have HKR:=hid (HKB.out.fr (Fr.of_below (F:=fun _=>False) HB4.out) (fun h=>h))
    have HBW:=hid (HB0.out.trans (HB4.out.mono HB0.out.size))
    go_upto_region 17 with (first|(refine wpl_load rfl 37 (.tmp 12) rfl gd 0 rfl HK4.out (dlgA (agaN x.s r).dlg v1).toList rfl _ Tryz.underlying37 rfl (by kernel_rfl) ?_)|(refine wpl_store rfl 37 (.tmp 86) (.tmp 84) rfl x.b 8 rfl (dlgA (agaN x.s r).dlg v1) rfl HKX.out (Nat.le_refl 34) (subA (agaN x.s r) (agaV x.v v1)) rfl (by kernel_rfl) (dlgA_one HM4.out.one) ?_;intro w5 hk5 hf5))
    have HK5:=hid hk5
    have HF5:=hid hf5
    have hxp:p≠x.b:=HI4.out.top.ne_ HKX.out (by decide)
    have HLS:=hid (lasts_any (now:=now) (n:=N) (HI4.out.top.fr hf5 hxp) hk5 (HI4.out.wh.fr hf5 (fun k hk e=>HI4.out.fwx HX.out (e▸hk))) HTI.out.1 HTI.out.2 HSN.out.1 HSN.out.2)
    clear hk5 hf5 hxp
    go_wp2_with fail
    refine (HLS.out).mono ?_
    rintro e w6 ⟨rfl,ht⟩
    obtain ⟨t6,m6,r6,k6⟩:=aga_mid HI.out HX.out HBW.out HM4.out HF5.out ht HKR.out
    have HT6:=hid t6
    have HM6:=hid m6
    have HR6:=hid r6
    have HCP:=hid (scopied_any k6 m6 ((aga_z HZX.out HZ.out).lasts now N))
    clear ht t6 m6 r6 k6
    go_wp2_with fail
    refine (HCP.out).mono ?_
    rintro e w7 ⟨v7,rfl,m7,hb7⟩
    have HM7:=hid m7
    have HB7:=hid hb7
    have HK7:=hid (HR6.out.fr (Fr.of_below (F:=fun _=>False) hb7) (fun h=>h))
    clear m7 hb7
    go_wp2_with (first|(refine wpl_store rfl 39 (.tmp 8) (.tmp 93) rfl (w.heap.size+1) 0 rfl (subA (lastsS (agaN x.s r) now N) v7) rfl HK7.out (Nat.le_refl 34) (subA (lastsS (agaN x.s r) now N) v7) rfl (by kernel_rfl) (subA_one HM7.out.ok.1 HM7.out.ok.2) ?_;intro wz hkz hfz))
    exact ret_cell2 rfl rfl rfl rfl hkz _ Tryz.underlying39 rfl (by kernel_rfl) (aga_fin HI.out HQ.out HX.out HBW.out (aga_z HZX.out HZ.out) HST.out HTI.out.1 HTI.out.2 HSN.out.1 HSN.out.2 HT6.out HM6.out HR6.out HB7.out HK7.out HM7.out hfz HE.out)
   refine AllReadyH.cons (o:=?oi9993) ?ho9993 (fun K hK=>?st9993) AllReadyH.nil
   case ho9993=>(simp only [List.getElem?_toArray,List.getElem?_cons_zero,List.getElem?_cons_succ];rfl)
   go_simp
   have HZ0:=hid ((Blk.new w0 37 dlg0).drewN 1)
   have HXA:Hid (Below w0.heap.size w0 ((w0.alloc (.cells dlg0 37)).drew)):=hid ((Below.refl _ _).alloc (Nat.le_refl _) _).drew
   unfold dlg0 at HZ0 HXA
   change Hid (Blk (World.drew (w0.alloc (.cells #[.string ⟨#[]⟩,.string ⟨#[]⟩,.string ⟨#[]⟩,.string ⟨#[]⟩,.string ⟨#[]⟩,.int .i64 0,.slice none 0 0,.slice none 0 0,.slice none 0 0,.string ⟨#[]⟩,.string ⟨#[]⟩,.string ⟨#[]⟩,.string ⟨#[]⟩,.int .i64 0,.slice none 0 0,.slice none 0 0,.slice none 0 0,.string ⟨#[]⟩,.string ⟨#[]⟩,.string ⟨#[]⟩,.int .i64 0,.slice none 0 0,.slice none 0 0,.slice none 0 0,.int .i64 0,.int .i64 0] 37))) _ _ _) at HZ0
   obtain ⟨wa,hwa⟩:∃ u,(w0.alloc (.cells #[.string ⟨#[]⟩,.string ⟨#[]⟩,.string ⟨#[]⟩,.string ⟨#[]⟩,.string ⟨#[]⟩,.int .i64 0,.slice none 0 0,.slice none 0 0,.slice none 0 0,.string ⟨#[]⟩,.string ⟨#[]⟩,.string ⟨#[]⟩,.string ⟨#[]⟩,.int .i64 0,.slice none 0 0,.slice none 0 0,.slice none 0 0,.string ⟨#[]⟩,.string ⟨#[]⟩,.string ⟨#[]⟩,.int .i64 0,.slice none 0 0,.slice none 0 0,.slice none 0 0,.int .i64 0,.int .i64 0] 37)).drew=u:=⟨_,rfl⟩
   rw [hwa] at HZ0 HXA ⊢
   clear hwa
   refine hK.out _ _ (HS.out _ HXA.out) (fun hHeld=>?_)
   clear hK K
   try simp only [Act.put,List.setIfInBounds_toArray,List.set_cons_zero,List.set_cons_succ]
   refine wpAnyH_ready (rs:=[5]) (by kernel_rfl) (by simp) ?_
   refine AllReadyH.cons (o:=?oi175) ?ho175 (fun K hK=>?st175) AllReadyH.nil
   case ho175=>(simp only [List.getElem?_toArray,List.getElem?_cons_zero,List.getElem?_cons_succ];rfl)
   go_simp
   refine (HTA.out _ HXA.out).mono ?_
   rintro e w1 ⟨v1,rfl,m1,hb1⟩
   have HM1:=hid m1
   have HX1:Hid (Below w0.heap.size w0 w1):=hid (thenB_ HXA.out hb1)
   have HZ1:=hid (HZ0.out.fr (Fr.of_below (F:=fun _=>False) hb1) (fun h=>h))
   clear m1 hb1
   go_wp2_with fail
   refine hK.out _ _ (HS.out _ HX1.out) (fun hHeld=>?_)
   clear hK K
   try simp only [Act.put,List.setIfInBounds_toArray,List.set_cons_zero,List.set_cons_succ]
   refine wpAnyH_take (i:=6) (oi:=?oi176) (v:=?v176) ?ho176 ?ka176 ?kb176 ?kc176 (fun _ _ _ h=>h) (Or.inl ⟨?kw176,?hy176⟩) (by assumption) ?rest176
   case ho176=>(simp only [List.getElem?_toArray,List.getElem?_cons_zero,List.getElem?_cons_succ];rfl)
   case ka176=>kernel_rfl
   case kb176=>kernel_rfl
   case kc176=>kernel_rfl
   case kw176=>rfl
   case hy176=>(intro wq hSw;(try dsimp only at hSw);go_simp;try with_reducible rfl)
   try simp only [Act.put,List.setIfInBounds_toArray,List.set_cons_zero,List.set_cons_succ]
   refine wpAnyH_take (i:=7) (oi:=?oi177) (v:=?v177) ?ho177 ?ka177 ?kb177 ?kc177 (fun _ _ _ h=>h) (Or.inl ⟨?kw177,?hy177⟩) (by assumption) ?rest177
   case ho177=>(simp only [List.getElem?_toArray,List.getElem?_cons_zero,List.getElem?_cons_succ];rfl)
   case ka177=>kernel_rfl
   case kb177=>kernel_rfl
   case kc177=>kernel_rfl
   case kw177=>rfl
   case hy177=>(intro wq hSw;(try dsimp only at hSw);go_simp;try with_reducible rfl)
   try simp only [Act.put,List.setIfInBounds_toArray,List.set_cons_zero,List.set_cons_succ]
   refine wpAnyH_take (i:=8) (oi:=?oi178) (v:=?v178) ?ho178 ?ka178 ?kb178 ?kc178 (fun _ _ _ h=>h) (Or.inl ⟨?kw178,?hy178⟩) (by assumption) ?rest178
   case ho178=>(simp only [List.getElem?_toArray,List.getElem?_cons_zero,List.getElem?_cons_succ];rfl)
   case ka178=>kernel_rfl
   case kb178=>kernel_rfl
   case kc178=>kernel_rfl
   case kw178=>rfl
   case hy178=>(intro wq hSw;(try dsimp only at hSw);go_simp;try with_reducible rfl)
   try simp only [Act.put,List.setIfInBounds_toArray,List.set_cons_zero,List.set_cons_succ]
   refine wpAnyH_ready (rs:=[10]) (by kernel_rfl) (by simp) ?_
   refine AllReadyH.cons (o:=?oi179) ?ho179 (fun K hK=>?st179) AllReadyH.nil
   case ho179=>(simp only [List.getElem?_toArray,List.getElem?_cons_zero,List.getElem?_cons_succ];rfl)
   rw [if_pos (by rfl)]
   refine wp_store_mid 37 (.tmp 12) (.tmp 52) rfl (w0.heap.size) 0 (dlgA (agaN x.s r).dlg v1) rfl rfl (blk_there HZ1.out (Nat.le_refl 26)) (by kernel_rfl) (dlgA_one HM1.out.one) ?_
   have hgd:w0.heap.size<=w0.heap.size:=Nat.le_refl _
   have hk2:Blk (World.setCells w1 (w0.heap.size) 0 (dlgA (agaN x.s r).dlg v1).toList) (w0.heap.size) 37 (dlgA (agaN x.s r).dlg v1):=blk_setCells (dlgA (agaN x.s r).dlg v1).toList (off:=0) HZ1.out (Nat.le_refl 26)
   have hb2:=below_sc (off:=0) (l:=(dlgA (agaN x.s r).dlg v1).toList) HX1.out (Nat.le_refl _) hgd
   have hm2:=HM1.out.fr (fr_setCells (w0.heap.size) (dlgA (agaN x.s r).dlg v1).toList 0 w1) (keepP_blk HZ1.out (by decide) (by decide))
   obtain ⟨w2,hu⟩:∃ u,World.setCells w1 (w0.heap.size) 0 (dlgA (agaN x.s r).dlg v1).toList=u:=⟨_,rfl⟩
   rw [hu] at hk2 hb2 hm2 ⊢
   clear hu
   have HK2:=hid hk2
   have HB2:=hid hb2
   have HM2:=hid hm2
   have HGD:=hid hgd
   clear hk2 hb2 hm2 hgd
   refine hK.out _ _ (HS.out _ HB2.out) (fun hHeld=>?_)
   clear hK K
   try simp only [Act.put,List.setIfInBounds_toArray,List.set_cons_zero,List.set_cons_succ]
   refine wpAnyH_take (i:=11) (oi:=?oi180) (v:=?v180) ?ho180 ?ka180 ?kb180 ?kc180 (fun _ _ _ h=>h) (Or.inl ⟨?kw180,?hy180⟩) (by assumption) ?rest180
   case ho180=>(simp only [List.getElem?_toArray,List.getElem?_cons_zero,List.getElem?_cons_succ];rfl)
   case ka180=>kernel_rfl
   case kb180=>kernel_rfl
   case kc180=>kernel_rfl
   case kw180=>rfl
   case hy180=>(intro wq hSw;(try dsimp only at hSw);go_simp;try with_reducible rfl)
   try simp only [Act.put,List.setIfInBounds_toArray,List.set_cons_zero,List.set_cons_succ]
   refine wpAnyH_done (by kernel_rfl) ?_ _
   refine NoPanic.normal ?_
   clear hHeld HS
   obtain ⟨gd,hgd⟩:∃ gd,w0.heap.size=gd:=⟨_,rfl⟩
   simp only [hgd] at HK2 HGD ⊢
   clear hgd
   have HS:Hid (∀ W,Below w2.heap.size w2 W->W.cell? ⟨p,0,none⟩=some (.string (str c.host))/\W.cell? ⟨p,1,none⟩=some (.int .i64 c.calls)/\W.cell? ⟨p,2,none⟩=some (.int .i64 c.pubs)/\W.cell? ⟨p,3,none⟩=some (.int .i64 c.subs)/\W.cell? ⟨p,4,none⟩=some (.int .i64 c.least)/\W.cell? ⟨p,5,none⟩=some (.int .i64 c.most)/\W.cell? ⟨p,6,none⟩=some (.int .i64 c.usual)/\W.cell? ⟨w.heap.size,29,none⟩=some (.int .i64 r.exp)):=hid (fun W hW=>by
    have k1:=(HTB.out.below (HB2.out.trans (hW.mono HB2.out.size))).top
    have k2:=HKA.out.fr (Fr.of_below (F:=fun _=>False) (HB2.out.trans (hW.mono HB2.out.size))) (fun h=>h)
    exact ⟨k1.cell 0,k1.cell 1,k1.cell 2,k1.cell 3,k1.cell 4,k1.cell 5,k1.cell 6,k2.cell 29⟩)
   have HX0:Hid (Below w2.heap.size w2 w2.drew):=hid (Below.refl _ _).drew
   go_upto_region 9 with (fail)
   refine wp_region_noPanic ?_
   refine wp_region_held_drew (S:=fun W=>W.cell? ⟨p,0,none⟩=some (.string (str c.host))/\W.cell? ⟨p,1,none⟩=some (.int .i64 c.calls)/\W.cell? ⟨p,2,none⟩=some (.int .i64 c.pubs)/\W.cell? ⟨p,3,none⟩=some (.int .i64 c.subs)/\W.cell? ⟨p,4,none⟩=some (.int .i64 c.least)/\W.cell? ⟨p,5,none⟩=some (.int .i64 c.most)/\W.cell? ⟨p,6,none⟩=some (.int .i64 c.usual)/\W.cell? ⟨w.heap.size,29,none⟩=some (.int .i64 r.exp)) (by kernel_rfl) (HS.out _ HX0.out) (fun hHeld=>?_)
   refine wpAnyH_take (i:=0) (oi:=?oi202) (v:=?v202) ?ho202 ?ka202 ?kb202 ?kc202 (fun _ _ _ h=>h) (Or.inl ⟨?kw202,?hy202⟩) (by assumption) ?rest202
   case ho202=>(simp only [List.getElem?_toArray,List.getElem?_cons_zero,List.getElem?_cons_succ];rfl)
   case ka202=>kernel_rfl
   case kb202=>kernel_rfl
   case kc202=>kernel_rfl
   case kw202=>rfl
   case hy202=>(intro wq hSw;(try dsimp only at hSw);go_simp;try with_reducible rfl)
   try simp only [Act.put,List.setIfInBounds_toArray,List.set_cons_zero,List.set_cons_succ]
   refine wpAnyH_take (i:=1) (oi:=?oi203) (v:=?v203) ?ho203 ?ka203 ?kb203 ?kc203 (fun _ _ _ h=>h) (Or.inl ⟨?kw203,?hy203⟩) (by assumption) ?rest203
   case ho203=>(simp only [List.getElem?_toArray,List.getElem?_cons_zero,List.getElem?_cons_succ];rfl)
   case ka203=>kernel_rfl
   case kb203=>kernel_rfl
   case kc203=>kernel_rfl
   case kw203=>rfl
   case hy203=>(intro wq hSw;(try dsimp only at hSw);go_simp;try with_reducible rfl)
   try simp only [Act.put,List.setIfInBounds_toArray,List.set_cons_zero,List.set_cons_succ]
   refine wpAnyH_take (i:=2) (oi:=?oi204) (v:=?v204) ?ho204 ?ka204 ?kb204 ?kc204 (fun _ _ _ h=>h) (Or.inl ⟨?kw204,?hy204⟩) (by assumption) ?rest204
   case ho204=>(simp only [List.getElem?_toArray,List.getElem?_cons_zero,List.getElem?_cons_succ];rfl)
   case ka204=>kernel_rfl
   case kb204=>kernel_rfl
   case kc204=>kernel_rfl
   case kw204=>rfl
   case hy204=>(intro wq hSw;(try dsimp only at hSw);go_simp;try with_reducible rfl)
   try simp only [Act.put,List.setIfInBounds_toArray,List.set_cons_zero,List.set_cons_succ]
   refine wpAnyH_take (i:=3) (oi:=?oi205) (v:=?v205) ?ho205 ?ka205 ?kb205 ?kc205 (fun _ _ _ h=>h) (Or.inl ⟨?kw205,?hy205⟩) (by assumption) ?rest205
   case ho205=>(simp only [List.getElem?_toArray,List.getElem?_cons_zero,List.getElem?_cons_succ];rfl)
   case ka205=>kernel_rfl
   case kb205=>kernel_rfl
   case kc205=>kernel_rfl
   case kw205=>rfl
   case hy205=>(intro wq hSw;(try dsimp only at hSw);go_simp;try with_reducible rfl)
   try simp only [Act.put,List.setIfInBounds_toArray,List.set_cons_zero,List.set_cons_succ]
   refine wpAnyH_take (i:=4) (oi:=?oi206) (v:=?v206) ?ho206 ?ka206 ?kb206 ?kc206 (fun _ _ _ h=>h) (Or.inl ⟨?kw206,?hy206⟩) (by assumption) ?rest206
   case ho206=>(simp only [List.getElem?_toArray,List.getElem?_cons_zero,List.getElem?_cons_succ];rfl)
   case ka206=>kernel_rfl
   case kb206=>kernel_rfl
   case kc206=>kernel_rfl
   case kw206=>rfl
   case hy206=>(intro wq hSw;(try dsimp only at hSw);go_simp;try with_reducible rfl)
   try simp only [Act.put,List.setIfInBounds_toArray,List.set_cons_zero,List.set_cons_succ]
   refine wpAnyH_take (i:=5) (oi:=?oi207) (v:=?v207) ?ho207 ?ka207 ?kb207 ?kc207 (fun _ _ _ h=>h) (Or.inl ⟨?kw207,?hy207⟩) (by assumption) ?rest207
   case ho207=>(simp only [List.getElem?_toArray,List.getElem?_cons_zero,List.getElem?_cons_succ];rfl)
   case ka207=>kernel_rfl
   case kb207=>kernel_rfl
   case kc207=>kernel_rfl
   case kw207=>rfl
   case hy207=>(intro wq hSw;(try dsimp only at hSw);go_simp;try with_reducible rfl)
   try simp only [Act.put,List.setIfInBounds_toArray,List.set_cons_zero,List.set_cons_succ]
   refine wpAnyH_ready (rs:=[6]) (by kernel_rfl) (by simp) ?_
   refine AllReadyH.cons (o:=?oi208) ?ho208 (fun K hK=>?st208) AllReadyH.nil
   case ho208=>(simp only [List.getElem?_toArray,List.getElem?_cons_zero,List.getElem?_cons_succ];rfl)
   go_simp
   refine (HSEC.out _).mono ?_
   rintro e w3 ⟨rfl,hb3⟩
   have HX3:Hid (Below w2.heap.size w2 w3):=hid (thenB_ HX0.out hb3)
   clear hb3
   go_wp2_with fail
   refine hK.out _ _ (HS.out _ HX3.out) (fun hHeld=>?_)
   clear hK K
   try simp only [Act.put,List.setIfInBounds_toArray,List.set_cons_zero,List.set_cons_succ]
   refine wpAnyH_take (i:=7) (oi:=?oi209) (v:=?v209) ?ho209 ?ka209 ?kb209 ?kc209 (fun _ _ _ h=>h) (Or.inl ⟨?kw209,?hy209⟩) (by assumption) ?rest209
   case ho209=>(simp only [List.getElem?_toArray,List.getElem?_cons_zero,List.getElem?_cons_succ];rfl)
   case ka209=>kernel_rfl
   case kb209=>kernel_rfl
   case kc209=>kernel_rfl
   case kw209=>rfl
   case hy209=>(intro wq hSw;(try dsimp only at hSw);go_simp;try with_reducible rfl)
   try simp only [Act.put,List.setIfInBounds_toArray,List.set_cons_zero,List.set_cons_succ]
   refine wpAnyH_take (i:=8) (oi:=?oi210) (v:=?v210) ?ho210 ?ka210 ?kb210 ?kc210 (fun _ _ _ h=>h) (Or.inl ⟨?kw210,?hy210⟩) (by assumption) ?rest210
   case ho210=>(simp only [List.getElem?_toArray,List.getElem?_cons_zero,List.getElem?_cons_succ];rfl)
   case ka210=>kernel_rfl
   case kb210=>kernel_rfl
   case kc210=>kernel_rfl
   case kw210=>rfl
   case hy210=>(intro wq hSw;(try dsimp only at hSw);go_simp;try with_reducible rfl)
   try simp only [Act.put,List.setIfInBounds_toArray,List.set_cons_zero,List.set_cons_succ]
   refine wpAnyH_take (i:=9) (oi:=?oi211) (v:=?v211) ?ho211 ?ka211 ?kb211 ?kc211 (fun _ _ _ h=>h) (Or.inl ⟨?kw211,?hy211⟩) (by assumption) ?rest211
   case ho211=>(simp only [List.getElem?_toArray,List.getElem?_cons_zero,List.getElem?_cons_succ];rfl)
   case ka211=>kernel_rfl
   case kb211=>kernel_rfl
   case kc211=>kernel_rfl
   case kw211=>rfl
   case hy211=>(intro wq hSw;(try dsimp only at hSw);go_simp;try with_reducible rfl)
   try simp only [Act.put,List.setIfInBounds_toArray,List.set_cons_zero,List.set_cons_succ]
   refine wpAnyH_take (i:=10) (oi:=?oi212) (v:=?v212) ?ho212 ?ka212 ?kb212 ?kc212 (fun _ _ _ h=>h) (Or.inl ⟨?kw212,?hy212⟩) (by assumption) ?rest212
   case ho212=>(simp only [List.getElem?_toArray,List.getElem?_cons_zero,List.getElem?_cons_succ];rfl)
   case ka212=>kernel_rfl
   case kb212=>kernel_rfl
   case kc212=>kernel_rfl
   case kw212=>rfl
   case hy212=>(intro wq hSw;(try dsimp only at hSw);go_simp;try with_reducible rfl)
   try simp only [Act.put,List.setIfInBounds_toArray,List.set_cons_zero,List.set_cons_succ]
   refine wpAnyH_take (i:=11) (oi:=?oi213) (v:=?v213) ?ho213 ?ka213 ?kb213 ?kc213 (fun _ _ _ h=>h) (Or.inl ⟨?kw213,?hy213⟩) (by assumption) ?rest213
   case ho213=>(simp only [List.getElem?_toArray,List.getElem?_cons_zero,List.getElem?_cons_succ];rfl)
   case ka213=>kernel_rfl
   case kb213=>kernel_rfl
   case kc213=>kernel_rfl
   case kw213=>rfl
   case hy213=>(intro wq hSw;(try dsimp only at hSw);go_simp;try with_reducible rfl)
   try simp only [Act.put,List.setIfInBounds_toArray,List.set_cons_zero,List.set_cons_succ]
   refine wpAnyH_done (by kernel_rfl) ?_ _
   refine NoPanic.normal ?_
   clear hHeld
   have HBX:=hid (HB2.out.trans (HX3.out.mono HB2.out.size))
   clear HS HX0
   go_upto_region 12 with (fail)
   have HS:Hid (∀ W,Below w0.heap.size w0 W->W.rangeAt x.b 3 [.string (str x.s.ev.name),x.v.ev]/\W.rangeAt w.heap.size 30 [.string (str r.ev.name),q.ev]):=hid (fun W hW=>⟨blk_range (off:=3) ((HTB.out.its x HX.out).fr (Fr.of_below (F:=fun _=>False) hW) (fun h=>h)) rfl,blk_range (off:=30) (HKA.out.fr (Fr.of_below (F:=fun _=>False) hW) (fun h=>h)) rfl⟩)
   refine wp_region_noPanic ?_
   refine wp_region_held_drew (S:=fun W=>W.rangeAt x.b 3 [.string (str x.s.ev.name),x.v.ev]/\W.rangeAt w.heap.size 30 [.string (str r.ev.name),q.ev]) (by kernel_rfl) (HS.out _ HBX.out.drew) (fun hHeld=>?_)
   refine wpAnyH_take (i:=0) (oi:=?oi214) (v:=?v214) ?ho214 ?ka214 ?kb214 ?kc214 (fun _ _ _ h=>h) (Or.inl ⟨?kw214,?hy214⟩) (by assumption) ?rest214
   case ho214=>(simp only [List.getElem?_toArray,List.getElem?_cons_zero,List.getElem?_cons_succ];rfl)
   case ka214=>kernel_rfl
   case kb214=>kernel_rfl
   case kc214=>kernel_rfl
   case kw214=>rfl
   case hy214=>(intro wq hSw;(try dsimp only at hSw);go_simp;try with_reducible rfl)
   try simp only [Act.put,List.setIfInBounds_toArray,List.set_cons_zero,List.set_cons_succ]
   refine wpAnyH_take (i:=1) (oi:=?oi215) (v:=?v215) ?ho215 ?ka215 ?kb215 ?kc215 (fun _ _ _ h=>h) (Or.inl ⟨?kw215,?hy215⟩) (by assumption) ?rest215
   case ho215=>(simp only [List.getElem?_toArray,List.getElem?_cons_zero,List.getElem?_cons_succ];rfl)
   case ka215=>kernel_rfl
   case kb215=>kernel_rfl
   case kc215=>kernel_rfl
   case kw215=>rfl
   case hy215=>(intro wq hSw;(try dsimp only at hSw);go_simp;try with_reducible rfl)
   try simp only [Act.put,List.setIfInBounds_toArray,List.set_cons_zero,List.set_cons_succ]
   refine wpAnyH_take (i:=2) (oi:=?oi216) (v:=?v216) ?ho216 ?ka216 ?kb216 ?kc216 (fun _ _ _ h=>h) (Or.inl ⟨?kw216,?hy216⟩) (by assumption) ?rest216
   case ho216=>(simp only [List.getElem?_toArray,List.getElem?_cons_zero,List.getElem?_cons_succ];rfl)
   case ka216=>kernel_rfl
   case kb216=>kernel_rfl
   case kc216=>kernel_rfl
   case kw216=>rfl
   case hy216=>(intro wq hSw;(try dsimp only at hSw);go_simp;try with_reducible rfl)
   try simp only [Act.put,List.setIfInBounds_toArray,List.set_cons_zero,List.set_cons_succ]
   refine wpAnyH_take (i:=3) (oi:=?oi217) (v:=.agg #[.string (str x.s.ev.name),x.v.ev]) ?ho217 ?ka217 ?kb217 ?kc217 (fun _ _ _ h=>h) ?hy217 (by assumption) ?rest217
   case ho217=>(simp only [List.getElem?_toArray,List.getElem?_cons_zero,List.getElem?_cons_succ];rfl)
   case ka217=>kernel_rfl
   case kb217=>kernel_rfl
   case kc217=>kernel_rfl
   case hy217=>(exact yieldsIf_load_mid (by rfl) 30 (.tmp 72) rfl x.b 3 rfl [.string (str x.s.ev.name),x.v.ev] _ (fun wq hSw=>hSw.1) Tryz.underlying30 rfl (by kernel_rfl))
   try simp only [Act.put,List.setIfInBounds_toArray,List.set_cons_zero,List.set_cons_succ]
   refine wpAnyH_take (i:=4) (oi:=?oi218) (v:=?v218) ?ho218 ?ka218 ?kb218 ?kc218 (fun _ _ _ h=>h) (Or.inl ⟨?kw218,?hy218⟩) (by assumption) ?rest218
   case ho218=>(simp only [List.getElem?_toArray,List.getElem?_cons_zero,List.getElem?_cons_succ];rfl)
   case ka218=>kernel_rfl
   case kb218=>kernel_rfl
   case kc218=>kernel_rfl
   case kw218=>rfl
   case hy218=>(intro wq hSw;(try dsimp only at hSw);go_simp;try with_reducible rfl)
   try simp only [Act.put,List.setIfInBounds_toArray,List.set_cons_zero,List.set_cons_succ]
   refine wpAnyH_take (i:=5) (oi:=?oi219) (v:=.agg #[.string (str r.ev.name),q.ev]) ?ho219 ?ka219 ?kb219 ?kc219 (fun _ _ _ h=>h) ?hy219 (by assumption) ?rest219
   case ho219=>(simp only [List.getElem?_toArray,List.getElem?_cons_zero,List.getElem?_cons_succ];rfl)
   case ka219=>kernel_rfl
   case kb219=>kernel_rfl
   case kc219=>kernel_rfl
   case hy219=>(exact yieldsIf_load_mid (by rfl) 30 (.tmp 74) rfl w.heap.size 30 rfl [.string (str r.ev.name),q.ev] _ (fun wq hSw=>hSw.2) Tryz.underlying30 rfl (by kernel_rfl))
   try simp only [Act.put,List.setIfInBounds_toArray,List.set_cons_zero,List.set_cons_succ]
   refine wpAnyH_ready (rs:=[6]) (by kernel_rfl) (by simp) ?_
   refine AllReadyH.cons (o:=?oi220) ?ho220 (fun K hK=>?st220) AllReadyH.nil
   case ho220=>(simp only [List.getElem?_toArray,List.getElem?_cons_zero,List.getElem?_cons_succ];rfl)
   go_simp
   refine (HIS.out _ HBX.out.drew).mono ?_
   rintro e w4 ⟨rfl,hb4⟩
   have hb4':Below w3.heap.size w3 w4:=thenB_ (Below.refl w3.heap.size w3).drew hb4
   have HB34:=hid hb4'
   have HB4:Hid (Below w0.heap.size w0 w4):=hid (thenB_ HBX.out.drew hb4)
   clear hb4 hb4'
   go_wp2_with fail
   refine hK.out _ _ (HS.out _ HB4.out) (fun hHeld=>?_)
   clear hK K
   try simp only [Act.put,List.setIfInBounds_toArray,List.set_cons_zero,List.set_cons_succ]
   refine wpAnyH_take (i:=7) (oi:=?oi221) (v:=?v221) ?ho221 ?ka221 ?kb221 ?kc221 (fun _ _ _ h=>h) (Or.inl ⟨?kw221,?hy221⟩) (by assumption) ?rest221
   case ho221=>(simp only [List.getElem?_toArray,List.getElem?_cons_zero,List.getElem?_cons_succ];rfl)
   case ka221=>kernel_rfl
   case kb221=>kernel_rfl
   case kc221=>kernel_rfl
   case kw221=>rfl
   case hy221=>(intro wq hSw;(try dsimp only at hSw);go_simp;try with_reducible rfl)
   try simp only [Act.put,List.setIfInBounds_toArray,List.set_cons_zero,List.set_cons_succ]
   refine wpAnyH_take (i:=8) (oi:=?oi222) (v:=?v222) ?ho222 ?ka222 ?kb222 ?kc222 (fun _ _ _ h=>h) (Or.inl ⟨?kw222,?hy222⟩) (by assumption) ?rest222
   case ho222=>(simp only [List.getElem?_toArray,List.getElem?_cons_zero,List.getElem?_cons_succ];rfl)
   case ka222=>kernel_rfl
   case kb222=>kernel_rfl
   case kc222=>kernel_rfl
   case kw222=>rfl
   case hy222=>(intro wq hSw;(try dsimp only at hSw);go_simp;try with_reducible rfl)
   try simp only [Act.put,List.setIfInBounds_toArray,List.set_cons_zero,List.set_cons_succ]
   refine wpAnyH_done (by kernel_rfl) ?_ _
   refine NoPanic.normal ?_
   clear hHeld HS
   have HK4:=hid (HK2.out.fr (Fr.of_below (F:=fun _=>False) (HX3.out.trans (HB34.out.mono HX3.out.size))) (fun h=>h))
   have HM4:=hid (HM2.out.below (HX3.out.trans (HB34.out.mono HX3.out.size)))
   have HI4:=hid (HTB.out.below HB4.out)
   have HKX:=hid (HI4.out.its x HX.out)
   have HKR:=hid (HKB.out.fr (Fr.of_below (F:=fun _=>False) HB4.out) (fun h=>h))
   have HBW:=hid (HB0.out.trans (HB4.out.mono HB0.out.size))
   go_upto_region 17 with (first|(refine wpl_load rfl 37 (.tmp 12) rfl gd 0 rfl HK4.out (dlgA (agaN x.s r).dlg v1).toList rfl _ Tryz.underlying37 rfl (by kernel_rfl) ?_)|(refine wpl_store rfl 37 (.tmp 86) (.tmp 84) rfl x.b 8 rfl (dlgA (agaN x.s r).dlg v1) rfl HKX.out (Nat.le_refl 34) (subA (agaN x.s r) (agaV x.v v1)) rfl (by kernel_rfl) (dlgA_one HM4.out.one) ?_;intro w5 hk5 hf5))
   have HK5:=hid hk5
   have HF5:=hid hf5
   have hxp:p≠x.b:=HI4.out.top.ne_ HKX.out (by decide)
   have HLS:=hid (lasts_any (now:=now) (n:=N) (HI4.out.top.fr hf5 hxp) hk5 (HI4.out.wh.fr hf5 (fun k hk e=>HI4.out.fwx HX.out (e▸hk))) HTI.out.1 HTI.out.2 HSN.out.1 HSN.out.2)
   clear hk5 hf5 hxp
   go_wp2_with fail
   refine (HLS.out).mono ?_
   rintro e w6 ⟨rfl,ht⟩
   obtain ⟨t6,m6,r6,k6⟩:=aga_mid HI.out HX.out HBW.out HM4.out HF5.out ht HKR.out
   have HT6:=hid t6
   have HM6:=hid m6
   have HR6:=hid r6
   have HCP:=hid (scopied_any k6 m6 ((aga_z HZX.out HZ.out).lasts now N))
   clear ht t6 m6 r6 k6
   go_wp2_with fail
   refine (HCP.out).mono ?_
   rintro e w7 ⟨v7,rfl,m7,hb7⟩
   have HM7:=hid m7
   have HB7:=hid hb7
   have HK7:=hid (HR6.out.fr (Fr.of_below (F:=fun _=>False) hb7) (fun h=>h))
   clear m7 hb7
   go_wp2_with (first|(refine wpl_store rfl 39 (.tmp 8) (.tmp 93) rfl (w.heap.size+1) 0 rfl (subA (lastsS (agaN x.s r) now N) v7) rfl HK7.out (Nat.le_refl 34) (subA (lastsS (agaN x.s r) now N) v7) rfl (by kernel_rfl) (subA_one HM7.out.ok.1 HM7.out.ok.2) ?_;intro wz hkz hfz))
   exact ret_cell2 rfl rfl rfl rfl hkz _ Tryz.underlying39 rfl (by kernel_rfl) (aga_fin HI.out HQ.out HX.out HBW.out (aga_z HZX.out HZ.out) HST.out HTI.out.1 HTI.out.2 HSN.out.1 HSN.out.2 HT6.out HM6.out HR6.out HB7.out HK7.out HM7.out hfz HE.out)
 .have hg:=H0.nom hin
  have hlk':(Instr.lookup 82 (.map (some bm)) (.int .i64 num) true).run Tryz.prog w0=.ok (.tuple #[.pointer none,.bool false]) w0:=by rw [hg] at hlk;exact hlk
  have HW:=hid (aga_no (c:=c) (now:=now) (r:=r) hin)
  clear hlk hnd hin hg H0 Q hb0 hka hkb hB hr hz
  unfold sub0 at hw0
  go_enter Tryz.func14,Tryz.ntmps14
  go_upto_region 1 with (fail)
  try rw [hw0]
  clear hw0
  rcases HW.out with ⟨h1,hx⟩|⟨h1,hx⟩
  .have HE:=hid hx
   rw [h1] at HTK
   clear hx h1
   go_wp2_with (first|(go_at_call 33;refine (hm.out).mono ?_;rintro e w' ⟨rfl,rfl⟩)|(go_at_call 34;refine (HTK.out _).mono ?_;rintro e w' ⟨rfl,rfl⟩)|(refine wpl_store rfl 39 (.tmp 8) (.tmp 33) rfl (w.heap.size+1) 0 rfl sub0 rfl HKB.out (Nat.le_refl 34) sub0 rfl (by kernel_rfl) sub0_one ?_;intro wz hkz hfz))
   exact ret_cell2 rfl rfl rfl rfl hkz _ Tryz.underlying39 rfl (by kernel_rfl) (HRT.out _ _ (below_upfr HB0.out (Nat.le_refl _) hfz (fun k e=>by omega)) HE.out)
  .have HE:=hid hx
   rw [h1] at HTK
   clear hx h1
   go_wp2_with (first|(go_at_call 33;refine (hm.out).mono ?_;rintro e w' ⟨rfl,rfl⟩)|(go_at_call 34;refine (HTK.out _).mono ?_;rintro e w' ⟨rfl,rfl⟩)|(refine wpl_store rfl 39 (.tmp 8) (.tmp 44) rfl (w.heap.size+1) 0 rfl sub0 rfl HKB.out (Nat.le_refl 34) sub0 rfl (by kernel_rfl) sub0_one ?_;intro wz hkz hfz))
   exact ret_cell2 rfl rfl rfl rfl hkz _ Tryz.underlying39 rfl (by kernel_rfl) (HRT.out _ _ (below_upfr HB0.out (Nat.le_refl _) hfz (fun k e=>by omega)) HE.out)
end Go.Proofs.YthkadehlclcggaaGreatDoor
