/- Chapter 19: subs.Again. -/
import Derived.Test.YthkadehlclcggaaGreatDoorGx58
namespace Go.Proofs.YthkadehlclcggaaGreatDoor
set_option linter.unusedSimpArgs false
set_option linter.unusedVariables false
open Go.RowKit
open Go.Lib (hid)
def AgaTo (p:Nat) (c:Conf) (last:Int) (R:SbR) (F:Nat->Prop) (w:World) (e:Ending) (w':World):Prop:=∃ v',e=.returned (.tuple #[.agg (subA R.sub v'),.int .i64 R.err])/\SubM w' R.sub v'/\TabTo p c last R.L F w w'
theorem aga_err {w w':World} {p:Nat} {c:Conf} {last er:Int} {L:List SubP} {F:Nat->Prop} {R:SbR} (H:Sb w p c last L F) (hb:Below w.heap.size w w') (he:R=⟨0,L,noSub,er⟩):AgaTo p c last R F w (.returned (.tuple #[.agg sub0,.int .i64 er])) w':=by
 subst he
 exact ⟨nilV,rfl,sub_none _,F,H.below hb,Fr.of_below hb,fun k h=>.inl h⟩
def agaN (s:SubP) (r:ReqP):SubP:={ s with dlg:=(takR s.dlg r).dlg }
theorem aga_no {L:List SubP} {c:Conf} {now n:Int} {r:ReqP} (h:n∉L.map (·.number)):(tickB now=false/\agaS c L now n r=⟨0,L,noSub,1⟩)\/(tickB now=true/\agaS c L now n r=⟨0,L,noSub,6⟩):=by
 unfold agaS
 cases h1:tickB now
 .exact .inl ⟨rfl,if_pos rfl⟩
 .refine .inr ⟨rfl,?_⟩
  rw [if_neg (by simp),find_noneS h]
theorem aga_ways {L:List SubP} {c:Conf} {now:Int} {r:ReqP} {s:SubP} (hn:(L.map (·.number)).Nodup) (h:s∈L) :
 (tickB now=false/\agaS c L now s.number r=⟨0,L,noSub,1⟩)\/(tickB now=true/\s.state=2/\agaS c L now s.number r=⟨0,L,noSub,6⟩) \/
 (tickB now=true/\s.state≠2/\(takR s.dlg r).err≠0/\agaS c L now s.number r=⟨0,L,noSub,(takR s.dlg r).err⟩) \/
 (tickB now=true/\s.state≠2/\(takR s.dlg r).err=0/\evIs s.ev r.ev=false/\agaS c L now s.number r=⟨0,L,noSub,81⟩) \/
 (tickB now=true/\s.state≠2/\(takR s.dlg r).err=0/\evIs s.ev r.ev=true/\secK c r.exp=false/\agaS c L now s.number r=⟨0,L,noSub,161⟩) \/
 (tickB now=true/\s.state≠2/\(takR s.dlg r).err=0/\evIs s.ev r.ev=true/\secK c r.exp=true/\agaS c L now s.number r=⟨0,setS L (lastsS (agaN s r) now (secN c r.exp)),lastsS (agaN s r) now (secN c r.exp),0⟩):=by
 unfold agaS
 cases h1:tickB now
 .exact .inl ⟨rfl,if_pos rfl⟩
 .refine .inr ?_
  rw [if_neg (by simp),find_num hn h rfl]
  by_cases h2:s.state=2
  .exact .inl ⟨rfl,h2,if_pos h2⟩
  .refine .inr ?_
   by_cases h3:(takR s.dlg r).err=0
   .refine .inr ?_
    cases h4:evIs s.ev r.ev
    .exact .inl ⟨rfl,h2,h3,rfl,by simp [h2,h3,h4]⟩
    .refine .inr ?_
     cases h5:secK c r.exp
     .exact .inl ⟨rfl,h2,h3,rfl,rfl,by simp [h2,h3,h4,h5]⟩
     .exact .inr ⟨rfl,h2,h3,rfl,rfl,by simp [h2,h3,h4,h5,agaN]⟩
   .exact .inl ⟨rfl,h2,h3,by simp [h2,h3]⟩
theorem aga_z {s:SubP} {r:ReqP} (h:SubZ s) (hz:ReqZ r):SubZ (agaN s r):=by
 unfold agaN takR
 split
 .exact h
 .split
  .exact h
  .have htg:((match r.contact with|[k]=>k.uri|_=>s.dlg.tgt:Uri)).params.length<=2000000/\((match r.contact with|[k]=>k.uri|_=>s.dlg.tgt:Uri)).headers.length<=2000000:=by
    split
    .next k hk=>exact hz.co k (by rw [hk];simp)
    .exact ⟨h.tp,h.th⟩
   exact ⟨h.ev,h.lp,h.lh,h.la,h.rp,h.rh,h.ra,htg.1,htg.2,h.ro,h.pe,h.pl,h.pr⟩
def agaV (v x:SlV):SlV:={ x with ev:=v.ev }
section
variable {w wN w1 w2 w3 w4:World} {p bm pw:Nat} {c:Conf} {last now n:Int} {xs:List XS} {l l':List TM} {F FW:Nat->Prop} {km:List (Int × Value)} {x:XS} {r:ReqP} {v' v3:SlV} {R:SbR}
theorem aga_mid (H:SbI w p c last xs l F bm pw km FW) (hx:x∈xs) (hb:Below w.heap.size w wN) (hd:DlgM wN (agaN x.s r).dlg v') (hf1:Fr (fun k=>k=x.b) wN w1)
 (ht:TurnS w1 w2 x.b pw (lastsS (agaN x.s r) now n) (agaV x.v v') l' FW) (hr:Blk wN (w.heap.size+1) 39 sub0) :
 TurnS wN w2 x.b pw (lastsS (agaN x.s r) now n) (agaV x.v v') l' FW/\SubM w2 (lastsS (agaN x.s r) now n) (agaV x.v v')/\Blk w2 (w.heap.size+1) 39 sub0/\Blk w2 x.b 39 (subA (lastsS (agaN x.s r) now n) (agaV x.v v')):=by
 have HN:=H.below hb
 obtain ⟨FW',hk,hw,hf,he⟩:=ht.ex
 have f:Fr (fun k=>k=x.b\/FW k) wN w2:=(hf1.mono fun k _ e=>.inl e).trans hf (fun k _ e=>e)
 have hs:=hf1.size
 have kp:KeepP (fun k=>k=x.b\/FW k) wN:=fun b ds T fr hb hT e=>by
  rcases e with e|e
  .exact keepP_blk (HN.its x hx) (by decide) (by decide) b ds T fr hb hT e
  .exact wh_keep HN.wh b ds T fr hb hT e
 have hm:SubM wN (agaN x.s r) (agaV x.v v'):=⟨(HN.sub x hx).ev,hd.loc.p,hd.loc.h,hd.loc.a,hd.rem.p,hd.rem.h,hd.rem.a,hd.tp,hd.th,hd.ro⟩
 have nr:¬(w.heap.size+1=x.b\/FW (w.heap.size+1)):=by
  rintro (e|e)
  .have:=(H.its x hx).lt;omega
  .have:=H.wh.lt e;omega
 exact ⟨⟨FW',hk,hw,f,fun k hk=>(he k hk).elim .inl (fun q=>.inr (by omega))⟩,(hm.fr f kp).lasts now n,hr.fr f nr,hk⟩
theorem aga_fin (H:SbI w p c last xs l F bm pw km FW) (Q:SbQ c last (xs.map (·.s)) l) (hx:x∈xs) (hb:Below w.heap.size w wN) (hz:SubZ (agaN x.s r)) (ho:x.s.state≠2) (h1:0<=now) (h2:now<=549755813888) (h3:0<=n) (h4:n<=2147483647)
 (ht:TurnS wN w2 x.b pw (lastsS (agaN x.s r) now n) (agaV x.v v') (lastsT l x.s.number now n) FW) (hm2:SubM w2 (lastsS (agaN x.s r) now n) (agaV x.v v')) (hr:Blk w2 (w.heap.size+1) 39 sub0) (hb3:Below w2.heap.size w2 w3) (hk3:Blk w3 (w.heap.size+1) 39 sub0) (hm3:SubM w3 (lastsS (agaN x.s r) now n) v3) (hf4:Fr (fun k=>k=w.heap.size+1) w3 w4)
 (hR:R=⟨0,setS (xs.map (·.s)) (lastsS (agaN x.s r) now n),lastsS (agaN x.s r) now n,0⟩):AgaTo p c last R F w (.returned (.tuple #[.agg (subA (lastsS (agaN x.s r) now n) v3),.int .i64 0])) w4:=by
 subst hR
 have HN:=H.below hb
 have hs:=hb.size
 have hnum:(lastsS (agaN x.s r) now n).number=x.s.number:=lasts_num _ _ _
 obtain ⟨FW',a,b,d⟩:=HN.put hx hnum hm2 ht
 have f24:Fr (fun k=>k=w.heap.size+1) w2 w4:=(Fr.of_below (F:=fun k=>k=w.heap.size+1) hb3).trans hf4 (fun k _ e=>e)
 have hfresh:∀ k,QF p bm (putX xs ⟨x.b,lastsS (agaN x.s r) now n,agaV x.v v'⟩) FW' k->¬k=w.heap.size+1:=fun k hk e=>by
  subst e
  rcases hk with e|e|e|e
  .have:=H.top.lt;omega
  .have:=H.mm.lt;omega
  .rw [putX_b] at e
   obtain ⟨y,hy,e⟩:=List.mem_map.1 e
   have:=(H.its y hy).lt;omega
  .exact a.wh.notT hr (by decide) (by decide) (by decide) e
 have Q':SbQ c last (setS (xs.map (·.s)) (lastsS (agaN x.s r) now n)) (lastsT l x.s.number now n):=Q.putN (s:=agaN x.s r) (List.mem_map.2 ⟨x,hx,rfl⟩) rfl hz ho h1 h2 h3 h4
 refine ⟨v3,rfl,hm3.fr hf4 (keepP_blk hk3 (by decide) (by decide)),_,⟨_,_,_,_,_,_,putX_s H.nd (subs_idnd Q.ids) hx hnum,a.fr f24 hfresh (keepP_blk hr (by decide) (by decide)),Q'⟩,((Fr.of_below (F:=F) hb).trans b (fun k _ e=>e)).trans f24 (fun k hk e=>by omega),fun k hk=>(d k hk).elim .inl (fun q=>.inr (by omega))⟩
end
set_option maxRecDepth 100000 in
set_option maxHeartbeats 16000000 in
theorem sagain_any {w:World} {p:Nat} {c:Conf} {last now num:Int} {L:List SubP} {F:Nat->Prop} {r:ReqP} {q:RqV} {B:Nat} (H:Sb w p c last L F) (hB:B<=w.heap.size) (hr:ReqB w B r q) (hz:ReqZ r) :
 Calls Tryz.prog 14 #[.pointer (some ⟨p,0,none⟩),.int .i64 now,.int .i64 num,.agg (reqA r q)] w (AgaTo p c last (agaS c L now num r) F w):=by
 obtain ⟨w0,hw0⟩:∃ w0,(w.alloc (.cells (reqA r q) 45)).alloc (.cells sub0 39)=w0:=⟨_,rfl⟩
 have hb0:Below w.heap.size w w0:=hw0▸((Below.refl _ _).alloc (Nat.le_refl _) _).alloc (by simp) _
 have hka:Blk w0 w.heap.size 45 (reqA r q):=hw0▸(Blk.new w _ _).alloc _
 have hkb:Blk w0 (w.heap.size+1) 39 sub0:=hw0▸Blk.new' _ _ _ (by simp)
 have HSB:=hid H
 obtain ⟨xs,l,bm,pw,km,FW,rfl,H0,Q⟩:=H
 have HI:=hid H0
 have HQ:=hid Q
 have H0:=H0.below hb0
 have hm:=hid (smade_any (pw:=pw) H0.top)
 have HTK:Hid (∀ W,Calls Tryz.prog 34 #[.int .i64 now] W fun e w'=>e=.returned (.bool (tickB now))/\W=w'):=hid (fun W=>tick_any now W)
 have k8:w0.cell? ⟨p,8,none⟩=some (.map (some bm)):=H0.top.cell 8
 have hlk:=H0.mm.lookup (T:=82) (E:=92) (intLaw Tryz.underlying3) Tryz.underlying82 (zsub w0) num true
 have hnd:=subs_idnd Q.ids
 have HKB:=hid hkb
 have HB0:=hid hb0
 have HRT:Hid (∀ w' er,Below w.heap.size w w'->agaS c (xs.map (·.s)) now num r=⟨0,xs.map (·.s),noSub,er⟩->AgaTo p c last (agaS c (xs.map (·.s)) now num r) F w (.returned (.tuple #[.agg sub0,.int .i64 er])) w'):=hid (fun w' er hb he=>aga_err HSB.out hb he)
 by_cases hin:num∈(xs.map (·.s)).map (·.number)
 .obtain ⟨x,hx,hxn⟩:∃ x∈xs,x.s.number=num:=by
   rw [List.map_map] at hin
   exact List.mem_map.1 hin
  have hg:=H0.getm hnd hx
  rw [hxn] at hg
  have hlk':(Instr.lookup 82 (.map (some bm)) (.int .i64 num) true).run Tryz.prog w0=.ok (.tuple #[.pointer (some ⟨x.b,0,none⟩),.bool true]) w0:=by rw [hg] at hlk;exact hlk
  have hw9:=aga_ways (c:=c) (now:=now) (r:=r) hnd (List.mem_map.2 ⟨x,hx,rfl⟩)
  rw [hxn] at hw9
  have HW:=hid hw9
  clear hw9
  have c5:w0.cell? ⟨x.b,5,none⟩=some (.int .i64 x.s.state):=(H0.its x hx).cell 5
  have HX:=hid hx
  have HZX:=hid (Q.z _ (List.mem_map.2 ⟨x,hx,rfl⟩))
  have HTB:=hid H0
  have HKA:=hid hka
  have HR0:=hid (hr.below (hb0.mono hB))
  have HBB:=hid (Nat.le_trans hB hb0.size)
  have HZ:=hid hz
  clear hlk hnd hin hg H0 Q hb0 hka hkb hB hr hz hx hxn
  unfold sub0 at hw0
  go_enter Tryz.func14,Tryz.ntmps14
  go_upto_region 1 with (fail)
  try rw [hw0]
  clear hw0
  generalize hq0:Value.agg (reqA r q)=q0
  rcases HW.out with ⟨h1,hx⟩|⟨h1,h2,hx⟩|⟨h1,h2,h3,hx⟩|⟨h1,h2,h3,h4,hx⟩|⟨h1,h2,h3,h4,h5,hx⟩|⟨h1,h2,h3,h4,h5,hx⟩
  .have HE:=hid hx
   rw [h1] at HTK
   clear hx h1
   go_wp2_with (first|(go_at_call 33;refine (hm.out).mono ?_;rintro e w' ⟨rfl,rfl⟩)|(go_at_call 34;refine (HTK.out _).mono ?_;rintro e w' ⟨rfl,rfl⟩)|(refine wpl_store rfl 39 (.tmp 8) (.tmp 33) rfl (w.heap.size+1) 0 rfl sub0 rfl HKB.out (Nat.le_refl 34) sub0 rfl (by kernel_rfl) sub0_one ?_;intro wz hkz hfz))
   exact ret_cell2 rfl rfl rfl rfl hkz _ Tryz.underlying39 rfl (by kernel_rfl) (HRT.out _ _ (below_upfr HB0.out (Nat.le_refl _) hfz (fun k e=>by omega)) HE.out)
  .have HE:=hid hx
   rw [h1] at HTK
   have d2:(x.s.state == 2)=true:=by rw [h2];rfl
   clear hx h1
   go_wp2_with (first|(go_at_call 33;refine (hm.out).mono ?_;rintro e w' ⟨rfl,rfl⟩)|(go_at_call 34;refine (HTK.out _).mono ?_;rintro e w' ⟨rfl,rfl⟩)|(refine wpl_store rfl 39 (.tmp 8) (.tmp 44) rfl (w.heap.size+1) 0 rfl sub0 rfl HKB.out (Nat.le_refl 34) sub0 rfl (by kernel_rfl) sub0_one ?_;intro wz hkz hfz))
   exact ret_cell2 rfl rfl rfl rfl hkz _ Tryz.underlying39 rfl (by kernel_rfl) (HRT.out _ _ (below_upfr HB0.out (Nat.le_refl _) hfz (fun k e=>by omega)) HE.out)
  .have HE:=hid hx
   rw [h1] at HTK
   have htk:0<=now/\now<=549755813888:=by
    unfold tickB at h1
    simp only [Bool.and_eq_true,decide_eq_true_eq] at h1
    exact h1
   have HTI:=hid htk
   have HST:=hid h2
   have d2:(x.s.state == 2)=false:=by simpa using h2
   have HTA:Hid (∀ W,Below w0.heap.size w0 W->Calls Tryz.prog 42 #[.agg (dlgA x.s.dlg x.v),.agg (reqA r q)] W fun e w'=>∃ v',e=.returned (.tuple #[.agg (dlgA (agaN x.s r).dlg v'),.int .i64 (takR x.s.dlg r).err])/\DlgM w' (agaN x.s r).dlg v'/\Below W.heap.size W w'):=hid (fun W hW=>by
    have m:=HTB.out.sub x HX.out
    exact Take_any (Nat.le_trans HBB.out hW.size) (DlgM.below ⟨⟨m.lp,m.lh,m.la⟩,⟨m.rp,m.rh,m.ra⟩,m.tp,m.th,m.ro⟩ hW) (HR0.out.below (hW.mono HBB.out)) HZX.out.pl HZX.out.pr HZ.out.co)
   have HSEC:Hid (∀ W,Calls Tryz.prog 36 #[.agg #[.string (str c.host),.int .i64 c.calls,.int .i64 c.pubs,.int .i64 c.subs,.int .i64 c.least,.int .i64 c.most,.int .i64 c.usual],.int .i64 r.exp] W fun e w'=>e=.returned (.tuple #[.int .i64 (secN c r.exp),.bool (secK c r.exp)])/\Below W.heap.size W w'):=hid (fun W=>seconds_any c r.exp W)
   have HIS:Hid (∀ W,Below w0.heap.size w0 W->Calls Tryz.prog 43 #[.agg #[.string (str x.s.ev.name),x.v.ev],.agg #[.string (str r.ev.name),q.ev]] W fun e w'=>e=.returned (.bool (evIs x.s.ev r.ev))/\Below W.heap.size W w'):=hid (fun W hW=>Is_any (B:=w0.heap.size) hW.size ((HTB.out.sub x HX.out).ev.prB.below hW) ((HR0.out.ev.up HBB.out).below hW) HZX.out.pe HZ.out.evP)
   have HSN:=hid (sec_lo HQ.out.right r.exp)
   rw [hq0] at HTA
   have hd0:∃ d0,Value.agg (dlgA x.s.dlg x.v)=d0:=⟨_,rfl⟩
   obtain ⟨d0,hd0⟩:=hd0
   rw [hd0] at HTA
   have d5:((takR x.s.dlg r).err != 0)=true:=by simpa using h3
   clear h3
   generalize hte:(takR x.s.dlg r).err=te at HTA HE d5
   clear hx h1 h2 htk
   go_upto_region 8 with (first|(go_at_call 33;refine (hm.out).mono ?_;rintro e w' ⟨rfl,rfl⟩)|(go_at_call 34;refine (HTK.out _).mono ?_;rintro e w' ⟨rfl,rfl⟩))
   have HS:Hid (∀ W,Below w0.heap.size w0 W->W.rangeAt x.b 8 (dlgA x.s.dlg x.v).toList/\W.rangeAt w.heap.size 0 (reqA r q).toList):=hid (fun W hW=>⟨blk_range (off:=8) ((HTB.out.its x HX.out).fr (Fr.of_below (F:=fun _=>False) hW) (fun h=>h)) rfl,blk_range (off:=0) (HKA.out.fr (Fr.of_below (F:=fun _=>False) hW) (fun h=>h)) rfl⟩)
   have HX0:Hid (Below w0.heap.size w0 w0.drew):=hid (Below.refl _ _).drew
   refine wp_region_noPanic (rgn HS.out HX0.out fun hHeld=>?_)
   refine tk 0 ?_
   refine tk 1 ?_
   refine tk 2 ?_
   refine tkv 3 (d0) ?_ ?_
   .rw [<-hd0];exact yieldsIf_load_mid (by rfl) 37 (.tmp 48) rfl x.b 8 rfl (dlgA x.s.dlg x.v).toList _ (fun wq hSw=>hSw.1) Tryz.underlying37 rfl (by kernel_rfl)
   refine tkv 4 (q0) ?_ ?_
   .rw [<-hq0];exact yieldsIf_load_mid (by rfl) 45 (.tmp 7) rfl w.heap.size 0 rfl (reqA r q).toList _ (fun wq hSw=>hSw.2) Tryz.underlying45 rfl (by kernel_rfl)
   refine wpAnyH_ready (rs:=[5,9]) (by kernel_rfl) (by simp) ?_
   refine rdc (fun K hK=>?_) ?_
   .go_simp
    refine (HTA.out _ HX0.out).mono ?_
    rintro e w1 ⟨v1,rfl,m1,hb1⟩
    have HM1:=hid m1
    have HX1:Hid (Below w0.heap.size w0 w1):=hid (thenB_ HX0.out hb1)
    clear m1 hb1
    go_wp2_with fail
    refine bk hK (HS.out _ HX1.out) fun hHeld=>?_
    clear hK K
    refine tk 6 ?_
    refine tk 7 ?_
    refine tk 8 ?_
    refine rd1 9 fun K hK=>?_
    go_simp
    have HZ2:=hid (Blk.new w1 37 dlg0)
    have HXA:Hid (Below w0.heap.size w0 (w1.alloc (.cells dlg0 37))):=hid (thenB_ HX1.out ((Below.refl _ _).alloc (Nat.le_refl _) _))
    have HMA:=hid (HM1.out.below ((Below.refl w1.heap.size w1).alloc (Nat.le_refl _) (.cells dlg0 37)))
    obtain ⟨wa,hwa⟩:∃ u,w1.alloc (.cells #[.string ⟨#[]⟩,.string ⟨#[]⟩,.string ⟨#[]⟩,.string ⟨#[]⟩,.string ⟨#[]⟩,.int .i64 0,.slice none 0 0,.slice none 0 0,.slice none 0 0,.string ⟨#[]⟩,.string ⟨#[]⟩,.string ⟨#[]⟩,.string ⟨#[]⟩,.int .i64 0,.slice none 0 0,.slice none 0 0,.slice none 0 0,.string ⟨#[]⟩,.string ⟨#[]⟩,.string ⟨#[]⟩,.int .i64 0,.slice none 0 0,.slice none 0 0,.slice none 0 0,.int .i64 0,.int .i64 0] 37)=u:=⟨_,rfl⟩
    unfold dlg0 at HZ2 HXA HMA
    rw [hwa] at HZ2 HXA HMA ⊢
    clear hwa
    refine bk hK (HS.out _ HXA.out) fun hHeld=>?_
    clear hK K
    refine rd1 10 fun K hK=>?_
    rw [if_pos (by rfl)]
    refine wp_store_mid 37 (.tmp 12) (.tmp 52) rfl (w1.heap.size) 0 (dlgA (agaN x.s r).dlg v1) rfl rfl (blk_there HZ2.out (Nat.le_refl 26)) (by kernel_rfl) (dlgA_one HM1.out.one) ?_
    have hgd:w0.heap.size<=w1.heap.size:=HX1.out.size
    have hk2:Blk (World.setCells wa (w1.heap.size) 0 (dlgA (agaN x.s r).dlg v1).toList) (w1.heap.size) 37 (dlgA (agaN x.s r).dlg v1):=blk_setCells (dlgA (agaN x.s r).dlg v1).toList (off:=0) HZ2.out (Nat.le_refl 26)
    have hb2:=below_sc (off:=0) (l:=(dlgA (agaN x.s r).dlg v1).toList) HXA.out (Nat.le_refl _) hgd
    have hm2:=HMA.out.fr (fr_setCells (w1.heap.size) (dlgA (agaN x.s r).dlg v1).toList 0 wa) (keepP_blk HZ2.out (by decide) (by decide))
    obtain ⟨w2,hu⟩:∃ u,World.setCells wa (w1.heap.size) 0 (dlgA (agaN x.s r).dlg v1).toList=u:=⟨_,rfl⟩
    rw [hu] at hk2 hb2 hm2 ⊢
    clear hu
    have HK2:=hid hk2
    have HB2:=hid hb2
    have HM2:=hid hm2
    have HGD:=hid hgd
    clear hk2 hb2 hm2 hgd
    refine bk hK (HS.out _ HB2.out) fun hHeld=>?_
    clear hK K
    refine tk 11 ?_
    refine dn9 (NoPanic.normal ?_)
    clear hHeld HS
    obtain ⟨gd,hgd⟩:∃ gd,w1.heap.size=gd:=⟨_,rfl⟩
    simp only [hgd] at HK2 HGD ⊢
    clear hgd
    have HS:Hid (∀ W,Below w2.heap.size w2 W->W.cell? ⟨p,0,none⟩=some (.string (str c.host))/\W.cell? ⟨p,1,none⟩=some (.int .i64 c.calls)/\W.cell? ⟨p,2,none⟩=some (.int .i64 c.pubs)/\W.cell? ⟨p,3,none⟩=some (.int .i64 c.subs)/\W.cell? ⟨p,4,none⟩=some (.int .i64 c.least)/\W.cell? ⟨p,5,none⟩=some (.int .i64 c.most)/\W.cell? ⟨p,6,none⟩=some (.int .i64 c.usual)/\W.cell? ⟨w.heap.size,29,none⟩=some (.int .i64 r.exp)):=hid (fun W hW=>by
     have k1:=(HTB.out.below (HB2.out.trans (hW.mono HB2.out.size))).top
     have k2:=HKA.out.fr (Fr.of_below (F:=fun _=>False) (HB2.out.trans (hW.mono HB2.out.size))) (fun h=>h)
     exact ⟨k1.cell 0,k1.cell 1,k1.cell 2,k1.cell 3,k1.cell 4,k1.cell 5,k1.cell 6,k2.cell 29⟩)
    have HX0:Hid (Below w2.heap.size w2 w2.drew):=hid (Below.refl _ _).drew
    go_upto_region 9 with (fail)
    refine wp_region_noPanic (rgn HS.out HX0.out fun hHeld=>?_)
    refine tk 0 ?_
    refine tk 1 ?_
    refine tk 2 ?_
    refine tk 3 ?_
    refine tk 4 ?_
    refine tk 5 ?_
    refine rd1 6 fun K hK=>?_
    go_simp
    refine (HSEC.out _).mono ?_
    rintro e w3 ⟨rfl,hb3⟩
    have HX3:Hid (Below w2.heap.size w2 w3):=hid (thenB_ HX0.out hb3)
    clear hb3
    go_wp2_with fail
    refine bk hK (HS.out _ HX3.out) fun hHeld=>?_
    clear hK K
    refine tk 7 ?_
    refine tk 8 ?_
    refine tk 9 ?_
    refine tk 10 ?_
    refine tk 11 ?_
    refine dn9 (NoPanic.normal ?_)
    clear hHeld
    have HBX:=hid (HB2.out.trans (HX3.out.mono HB2.out.size))
    clear HS HX0
    have HKR:=hid (HKB.out.fr (Fr.of_below (F:=fun _=>False) HBX.out) (fun h=>h))
    have HBR:=hid (HB0.out.trans (HBX.out.mono HB0.out.size))
    go_wp2_with (first|(refine wpl_store rfl 39 (.tmp 8) (.tmp 67) rfl (w.heap.size+1) 0 rfl sub0 rfl HKR.out (Nat.le_refl 34) sub0 rfl (by kernel_rfl) sub0_one ?_;intro wz hkz hfz))
    exact ret_cell2 rfl rfl rfl rfl hkz _ Tryz.underlying39 rfl (by kernel_rfl) (HRT.out _ _ (below_upfr HBR.out (Nat.le_refl _) hfz (fun k e=>by omega)) HE.out)
   refine AllReadyH.cons (o:=?oi9990) ?ho9990 (fun K hK=>?st9990) AllReadyH.nil
   case ho9990=>(simp only [List.getElem?_toArray,List.getElem?_cons_zero,List.getElem?_cons_succ];rfl)
   go_simp
   have HZ0:=hid ((Blk.new w0 37 dlg0).drewN 1)
   have HXA:Hid (Below w0.heap.size w0 ((w0.alloc (.cells dlg0 37)).drew)):=hid ((Below.refl _ _).alloc (Nat.le_refl _) _).drew
   unfold dlg0 at HZ0 HXA
   change Hid (Blk (World.drew (w0.alloc (.cells #[.string ⟨#[]⟩,.string ⟨#[]⟩,.string ⟨#[]⟩,.string ⟨#[]⟩,.string ⟨#[]⟩,.int .i64 0,.slice none 0 0,.slice none 0 0,.slice none 0 0,.string ⟨#[]⟩,.string ⟨#[]⟩,.string ⟨#[]⟩,.string ⟨#[]⟩,.int .i64 0,.slice none 0 0,.slice none 0 0,.slice none 0 0,.string ⟨#[]⟩,.string ⟨#[]⟩,.string ⟨#[]⟩,.int .i64 0,.slice none 0 0,.slice none 0 0,.slice none 0 0,.int .i64 0,.int .i64 0] 37))) _ _ _) at HZ0
   obtain ⟨wa,hwa⟩:∃ u,(w0.alloc (.cells #[.string ⟨#[]⟩,.string ⟨#[]⟩,.string ⟨#[]⟩,.string ⟨#[]⟩,.string ⟨#[]⟩,.int .i64 0,.slice none 0 0,.slice none 0 0,.slice none 0 0,.string ⟨#[]⟩,.string ⟨#[]⟩,.string ⟨#[]⟩,.string ⟨#[]⟩,.int .i64 0,.slice none 0 0,.slice none 0 0,.slice none 0 0,.string ⟨#[]⟩,.string ⟨#[]⟩,.string ⟨#[]⟩,.int .i64 0,.slice none 0 0,.slice none 0 0,.slice none 0 0,.int .i64 0,.int .i64 0] 37)).drew=u:=⟨_,rfl⟩
   rw [hwa] at HZ0 HXA ⊢
   clear hwa
   refine bk hK (HS.out _ HXA.out) fun hHeld=>?_
   clear hK K
   refine rd1 5 fun K hK=>?_
   go_simp
   refine (HTA.out _ HXA.out).mono ?_
   rintro e w1 ⟨v1,rfl,m1,hb1⟩
   have HM1:=hid m1
   have HX1:Hid (Below w0.heap.size w0 w1):=hid (thenB_ HXA.out hb1)
   have HZ1:=hid (HZ0.out.fr (Fr.of_below (F:=fun _=>False) hb1) (fun h=>h))
   clear m1 hb1
   go_wp2_with fail
   refine bk hK (HS.out _ HX1.out) fun hHeld=>?_
   clear hK K
   refine tk 6 ?_
   refine tk 7 ?_
   refine tk 8 ?_
   refine rd1 10 fun K hK=>?_
   rw [if_pos (by rfl)]
   refine wp_store_mid 37 (.tmp 12) (.tmp 52) rfl (w0.heap.size) 0 (dlgA (agaN x.s r).dlg v1) rfl rfl (blk_there HZ1.out (Nat.le_refl 26)) (by kernel_rfl) (dlgA_one HM1.out.one) ?_
   have hgd:w0.heap.size<=w0.heap.size:=Nat.le_refl _
   have hk2:Blk (World.setCells w1 (w0.heap.size) 0 (dlgA (agaN x.s r).dlg v1).toList) (w0.heap.size) 37 (dlgA (agaN x.s r).dlg v1):=blk_setCells (dlgA (agaN x.s r).dlg v1).toList (off:=0) HZ1.out (Nat.le_refl 26)
   have hb2:=below_sc (off:=0) (l:=(dlgA (agaN x.s r).dlg v1).toList) HX1.out (Nat.le_refl _) hgd
   have hm2:=HM1.out.fr (fr_setCells (w0.heap.size) (dlgA (agaN x.s r).dlg v1).toList 0 w1) (keepP_blk HZ1.out (by decide) (by decide))
   obtain ⟨w2,hu⟩:∃ u,World.setCells w1 (w0.heap.size) 0 (dlgA (agaN x.s r).dlg v1).toList=u:=⟨_,rfl⟩
   rw [hu] at hk2 hb2 hm2 ⊢
   clear hu
   have HK2:=hid hk2
   have HB2:=hid hb2
   have HM2:=hid hm2
   have HGD:=hid hgd
   clear hk2 hb2 hm2 hgd
   refine bk hK (HS.out _ HB2.out) fun hHeld=>?_
   clear hK K
   refine tk 11 ?_
   refine dn9 (NoPanic.normal ?_)
   clear hHeld HS
   obtain ⟨gd,hgd⟩:∃ gd,w0.heap.size=gd:=⟨_,rfl⟩
   simp only [hgd] at HK2 HGD ⊢
   clear hgd
   have HS:Hid (∀ W,Below w2.heap.size w2 W->W.cell? ⟨p,0,none⟩=some (.string (str c.host))/\W.cell? ⟨p,1,none⟩=some (.int .i64 c.calls)/\W.cell? ⟨p,2,none⟩=some (.int .i64 c.pubs)/\W.cell? ⟨p,3,none⟩=some (.int .i64 c.subs)/\W.cell? ⟨p,4,none⟩=some (.int .i64 c.least)/\W.cell? ⟨p,5,none⟩=some (.int .i64 c.most)/\W.cell? ⟨p,6,none⟩=some (.int .i64 c.usual)/\W.cell? ⟨w.heap.size,29,none⟩=some (.int .i64 r.exp)):=hid (fun W hW=>by
    have k1:=(HTB.out.below (HB2.out.trans (hW.mono HB2.out.size))).top
    have k2:=HKA.out.fr (Fr.of_below (F:=fun _=>False) (HB2.out.trans (hW.mono HB2.out.size))) (fun h=>h)
    exact ⟨k1.cell 0,k1.cell 1,k1.cell 2,k1.cell 3,k1.cell 4,k1.cell 5,k1.cell 6,k2.cell 29⟩)
   have HX0:Hid (Below w2.heap.size w2 w2.drew):=hid (Below.refl _ _).drew
   go_upto_region 9 with (fail)
   refine wp_region_noPanic (rgn HS.out HX0.out fun hHeld=>?_)
   refine tk 0 ?_
   refine tk 1 ?_
   refine tk 2 ?_
   refine tk 3 ?_
   refine tk 4 ?_
   refine tk 5 ?_
   refine rd1 6 fun K hK=>?_
   go_simp
   refine (HSEC.out _).mono ?_
   rintro e w3 ⟨rfl,hb3⟩
   have HX3:Hid (Below w2.heap.size w2 w3):=hid (thenB_ HX0.out hb3)
   clear hb3
   go_wp2_with fail
   refine bk hK (HS.out _ HX3.out) fun hHeld=>?_
   clear hK K
   refine tk 7 ?_
   refine tk 8 ?_
   refine tk 9 ?_
   refine tk 10 ?_
   refine tk 11 ?_
   refine dn9 (NoPanic.normal ?_)
   clear hHeld
   have HBX:=hid (HB2.out.trans (HX3.out.mono HB2.out.size))
   clear HS HX0
   have HKR:=hid (HKB.out.fr (Fr.of_below (F:=fun _=>False) HBX.out) (fun h=>h))
   have HBR:=hid (HB0.out.trans (HBX.out.mono HB0.out.size))
   go_wp2_with (first|(refine wpl_store rfl 39 (.tmp 8) (.tmp 67) rfl (w.heap.size+1) 0 rfl sub0 rfl HKR.out (Nat.le_refl 34) sub0 rfl (by kernel_rfl) sub0_one ?_;intro wz hkz hfz))
   exact ret_cell2 rfl rfl rfl rfl hkz _ Tryz.underlying39 rfl (by kernel_rfl) (HRT.out _ _ (below_upfr HBR.out (Nat.le_refl _) hfz (fun k e=>by omega)) HE.out)
  .have HE:=hid hx
   rw [h1] at HTK
   have htk:0<=now/\now<=549755813888:=by
    unfold tickB at h1
    simp only [Bool.and_eq_true,decide_eq_true_eq] at h1
    exact h1
   have HTI:=hid htk
   have HST:=hid h2
   have d2:(x.s.state == 2)=false:=by simpa using h2
   have HTA:Hid (∀ W,Below w0.heap.size w0 W->Calls Tryz.prog 42 #[.agg (dlgA x.s.dlg x.v),.agg (reqA r q)] W fun e w'=>∃ v',e=.returned (.tuple #[.agg (dlgA (agaN x.s r).dlg v'),.int .i64 (takR x.s.dlg r).err])/\DlgM w' (agaN x.s r).dlg v'/\Below W.heap.size W w'):=hid (fun W hW=>by
    have m:=HTB.out.sub x HX.out
    exact Take_any (Nat.le_trans HBB.out hW.size) (DlgM.below ⟨⟨m.lp,m.lh,m.la⟩,⟨m.rp,m.rh,m.ra⟩,m.tp,m.th,m.ro⟩ hW) (HR0.out.below (hW.mono HBB.out)) HZX.out.pl HZX.out.pr HZ.out.co)
   have HSEC:Hid (∀ W,Calls Tryz.prog 36 #[.agg #[.string (str c.host),.int .i64 c.calls,.int .i64 c.pubs,.int .i64 c.subs,.int .i64 c.least,.int .i64 c.most,.int .i64 c.usual],.int .i64 r.exp] W fun e w'=>e=.returned (.tuple #[.int .i64 (secN c r.exp),.bool (secK c r.exp)])/\Below W.heap.size W w'):=hid (fun W=>seconds_any c r.exp W)
   have HIS:Hid (∀ W,Below w0.heap.size w0 W->Calls Tryz.prog 43 #[.agg #[.string (str x.s.ev.name),x.v.ev],.agg #[.string (str r.ev.name),q.ev]] W fun e w'=>e=.returned (.bool (evIs x.s.ev r.ev))/\Below W.heap.size W w'):=hid (fun W hW=>Is_any (B:=w0.heap.size) hW.size ((HTB.out.sub x HX.out).ev.prB.below hW) ((HR0.out.ev.up HBB.out).below hW) HZX.out.pe HZ.out.evP)
   have HSN:=hid (sec_lo HQ.out.right r.exp)
   rw [hq0] at HTA
   have hd0:∃ d0,Value.agg (dlgA x.s.dlg x.v)=d0:=⟨_,rfl⟩
   obtain ⟨d0,hd0⟩:=hd0
   rw [hd0] at HTA
   rw [h3] at HTA
   rw [h4] at HIS
   clear h3 h4
   clear hx h1 h2 htk
   go_upto_region 8 with (first|(go_at_call 33;refine (hm.out).mono ?_;rintro e w' ⟨rfl,rfl⟩)|(go_at_call 34;refine (HTK.out _).mono ?_;rintro e w' ⟨rfl,rfl⟩))
   have HS:Hid (∀ W,Below w0.heap.size w0 W->W.rangeAt x.b 8 (dlgA x.s.dlg x.v).toList/\W.rangeAt w.heap.size 0 (reqA r q).toList):=hid (fun W hW=>⟨blk_range (off:=8) ((HTB.out.its x HX.out).fr (Fr.of_below (F:=fun _=>False) hW) (fun h=>h)) rfl,blk_range (off:=0) (HKA.out.fr (Fr.of_below (F:=fun _=>False) hW) (fun h=>h)) rfl⟩)
   have HX0:Hid (Below w0.heap.size w0 w0.drew):=hid (Below.refl _ _).drew
   refine wp_region_noPanic (rgn HS.out HX0.out fun hHeld=>?_)
   refine tk 0 ?_
   refine tk 1 ?_
   refine tk 2 ?_
   refine tkv 3 (d0) ?_ ?_
   .rw [<-hd0];exact yieldsIf_load_mid (by rfl) 37 (.tmp 48) rfl x.b 8 rfl (dlgA x.s.dlg x.v).toList _ (fun wq hSw=>hSw.1) Tryz.underlying37 rfl (by kernel_rfl)
   refine tkv 4 (q0) ?_ ?_
   .rw [<-hq0];exact yieldsIf_load_mid (by rfl) 45 (.tmp 7) rfl w.heap.size 0 rfl (reqA r q).toList _ (fun wq hSw=>hSw.2) Tryz.underlying45 rfl (by kernel_rfl)
   refine wpAnyH_ready (rs:=[5,9]) (by kernel_rfl) (by simp) ?_
   refine rdc (fun K hK=>?_) ?_
   .go_simp
    refine (HTA.out _ HX0.out).mono ?_
    rintro e w1 ⟨v1,rfl,m1,hb1⟩
    have HM1:=hid m1
    have HX1:Hid (Below w0.heap.size w0 w1):=hid (thenB_ HX0.out hb1)
    clear m1 hb1
    go_wp2_with fail
    refine bk hK (HS.out _ HX1.out) fun hHeld=>?_
    clear hK K
    refine tk 6 ?_
    refine tk 7 ?_
    refine tk 8 ?_
    refine rd1 9 fun K hK=>?_
    go_simp
    have HZ2:=hid (Blk.new w1 37 dlg0)
    have HXA:Hid (Below w0.heap.size w0 (w1.alloc (.cells dlg0 37))):=hid (thenB_ HX1.out ((Below.refl _ _).alloc (Nat.le_refl _) _))
    have HMA:=hid (HM1.out.below ((Below.refl w1.heap.size w1).alloc (Nat.le_refl _) (.cells dlg0 37)))
    obtain ⟨wa,hwa⟩:∃ u,w1.alloc (.cells #[.string ⟨#[]⟩,.string ⟨#[]⟩,.string ⟨#[]⟩,.string ⟨#[]⟩,.string ⟨#[]⟩,.int .i64 0,.slice none 0 0,.slice none 0 0,.slice none 0 0,.string ⟨#[]⟩,.string ⟨#[]⟩,.string ⟨#[]⟩,.string ⟨#[]⟩,.int .i64 0,.slice none 0 0,.slice none 0 0,.slice none 0 0,.string ⟨#[]⟩,.string ⟨#[]⟩,.string ⟨#[]⟩,.int .i64 0,.slice none 0 0,.slice none 0 0,.slice none 0 0,.int .i64 0,.int .i64 0] 37)=u:=⟨_,rfl⟩
    unfold dlg0 at HZ2 HXA HMA
    rw [hwa] at HZ2 HXA HMA ⊢
    clear hwa
    refine bk hK (HS.out _ HXA.out) fun hHeld=>?_
    clear hK K
    refine rd1 10 fun K hK=>?_
    rw [if_pos (by rfl)]
    refine wp_store_mid 37 (.tmp 12) (.tmp 52) rfl (w1.heap.size) 0 (dlgA (agaN x.s r).dlg v1) rfl rfl (blk_there HZ2.out (Nat.le_refl 26)) (by kernel_rfl) (dlgA_one HM1.out.one) ?_
    have hgd:w0.heap.size<=w1.heap.size:=HX1.out.size
    have hk2:Blk (World.setCells wa (w1.heap.size) 0 (dlgA (agaN x.s r).dlg v1).toList) (w1.heap.size) 37 (dlgA (agaN x.s r).dlg v1):=blk_setCells (dlgA (agaN x.s r).dlg v1).toList (off:=0) HZ2.out (Nat.le_refl 26)
    have hb2:=below_sc (off:=0) (l:=(dlgA (agaN x.s r).dlg v1).toList) HXA.out (Nat.le_refl _) hgd
    have hm2:=HMA.out.fr (fr_setCells (w1.heap.size) (dlgA (agaN x.s r).dlg v1).toList 0 wa) (keepP_blk HZ2.out (by decide) (by decide))
    obtain ⟨w2,hu⟩:∃ u,World.setCells wa (w1.heap.size) 0 (dlgA (agaN x.s r).dlg v1).toList=u:=⟨_,rfl⟩
    rw [hu] at hk2 hb2 hm2 ⊢
    clear hu
    have HK2:=hid hk2
    have HB2:=hid hb2
    have HM2:=hid hm2
    have HGD:=hid hgd
    clear hk2 hb2 hm2 hgd
    refine bk hK (HS.out _ HB2.out) fun hHeld=>?_
    clear hK K
    refine tk 11 ?_
    refine dn9 (NoPanic.normal ?_)
    clear hHeld HS
    obtain ⟨gd,hgd⟩:∃ gd,w1.heap.size=gd:=⟨_,rfl⟩
    simp only [hgd] at HK2 HGD ⊢
    clear hgd
    have HS:Hid (∀ W,Below w2.heap.size w2 W->W.cell? ⟨p,0,none⟩=some (.string (str c.host))/\W.cell? ⟨p,1,none⟩=some (.int .i64 c.calls)/\W.cell? ⟨p,2,none⟩=some (.int .i64 c.pubs)/\W.cell? ⟨p,3,none⟩=some (.int .i64 c.subs)/\W.cell? ⟨p,4,none⟩=some (.int .i64 c.least)/\W.cell? ⟨p,5,none⟩=some (.int .i64 c.most)/\W.cell? ⟨p,6,none⟩=some (.int .i64 c.usual)/\W.cell? ⟨w.heap.size,29,none⟩=some (.int .i64 r.exp)):=hid (fun W hW=>by
     have k1:=(HTB.out.below (HB2.out.trans (hW.mono HB2.out.size))).top
     have k2:=HKA.out.fr (Fr.of_below (F:=fun _=>False) (HB2.out.trans (hW.mono HB2.out.size))) (fun h=>h)
     exact ⟨k1.cell 0,k1.cell 1,k1.cell 2,k1.cell 3,k1.cell 4,k1.cell 5,k1.cell 6,k2.cell 29⟩)
    have HX0:Hid (Below w2.heap.size w2 w2.drew):=hid (Below.refl _ _).drew
    go_upto_region 9 with (fail)
    refine wp_region_noPanic (rgn HS.out HX0.out fun hHeld=>?_)
    refine tk 0 ?_
    refine tk 1 ?_
    refine tk 2 ?_
    refine tk 3 ?_
    refine tk 4 ?_
    refine tk 5 ?_
    refine rd1 6 fun K hK=>?_
    go_simp
    refine (HSEC.out _).mono ?_
    rintro e w3 ⟨rfl,hb3⟩
    have HX3:Hid (Below w2.heap.size w2 w3):=hid (thenB_ HX0.out hb3)
    clear hb3
    go_wp2_with fail
    refine bk hK (HS.out _ HX3.out) fun hHeld=>?_
    clear hK K
    refine tk 7 ?_
    refine tk 8 ?_
    refine tk 9 ?_
    refine tk 10 ?_
    refine tk 11 ?_
    refine dn9 (NoPanic.normal ?_)
    clear hHeld
    have HBX:=hid (HB2.out.trans (HX3.out.mono HB2.out.size))
    clear HS HX0
    go_upto_region 12 with (fail)
    have HS:Hid (∀ W,Below w0.heap.size w0 W->W.rangeAt x.b 3 [.string (str x.s.ev.name),x.v.ev]/\W.rangeAt w.heap.size 30 [.string (str r.ev.name),q.ev]):=hid (fun W hW=>⟨blk_range (off:=3) ((HTB.out.its x HX.out).fr (Fr.of_below (F:=fun _=>False) hW) (fun h=>h)) rfl,blk_range (off:=30) (HKA.out.fr (Fr.of_below (F:=fun _=>False) hW) (fun h=>h)) rfl⟩)
    refine wp_region_noPanic (rgn HS.out HBX.out.drew fun hHeld=>?_)
    refine tk 0 ?_
    refine tk 1 ?_
    refine tk 2 ?_
    refine tkm 3 #[.string (str x.s.ev.name),x.v.ev] x.b 3 (fun wq hSw=>hSw.1) Tryz.underlying30 ?_
    refine tk 4 ?_
    refine tkm 5 #[.string (str r.ev.name),q.ev] w.heap.size 30 (fun wq hSw=>hSw.2) Tryz.underlying30 ?_
    refine rd1 6 fun K hK=>?_
    go_simp
    refine (HIS.out _ HBX.out.drew).mono ?_
    rintro e w4 ⟨rfl,hb4⟩
    have HB4:Hid (Below w0.heap.size w0 w4):=hid (thenB_ HBX.out.drew hb4)
    clear hb4
    go_wp2_with fail
    refine bk hK (HS.out _ HB4.out) fun hHeld=>?_
    clear hK K
    refine tk 7 ?_
    refine tk 8 ?_
    refine dn9 (NoPanic.normal ?_)
    clear hHeld HS
    have HKR:=hid (HKB.out.fr (Fr.of_below (F:=fun _=>False) HB4.out) (fun h=>h))
    have HBR:=hid (HB0.out.trans (HB4.out.mono HB0.out.size))
    go_wp2_with (first|(refine wpl_store rfl 39 (.tmp 8) (.tmp 78) rfl (w.heap.size+1) 0 rfl sub0 rfl HKR.out (Nat.le_refl 34) sub0 rfl (by kernel_rfl) sub0_one ?_;intro wz hkz hfz))
    exact ret_cell2 rfl rfl rfl rfl hkz _ Tryz.underlying39 rfl (by kernel_rfl) (HRT.out _ _ (below_upfr HBR.out (Nat.le_refl _) hfz (fun k e=>by omega)) HE.out)
   refine AllReadyH.cons (o:=?oi9991) ?ho9991 (fun K hK=>?st9991) AllReadyH.nil
   case ho9991=>(simp only [List.getElem?_toArray,List.getElem?_cons_zero,List.getElem?_cons_succ];rfl)
   go_simp
   have HZ0:=hid ((Blk.new w0 37 dlg0).drewN 1)
   have HXA:Hid (Below w0.heap.size w0 ((w0.alloc (.cells dlg0 37)).drew)):=hid ((Below.refl _ _).alloc (Nat.le_refl _) _).drew
   unfold dlg0 at HZ0 HXA
   change Hid (Blk (World.drew (w0.alloc (.cells #[.string ⟨#[]⟩,.string ⟨#[]⟩,.string ⟨#[]⟩,.string ⟨#[]⟩,.string ⟨#[]⟩,.int .i64 0,.slice none 0 0,.slice none 0 0,.slice none 0 0,.string ⟨#[]⟩,.string ⟨#[]⟩,.string ⟨#[]⟩,.string ⟨#[]⟩,.int .i64 0,.slice none 0 0,.slice none 0 0,.slice none 0 0,.string ⟨#[]⟩,.string ⟨#[]⟩,.string ⟨#[]⟩,.int .i64 0,.slice none 0 0,.slice none 0 0,.slice none 0 0,.int .i64 0,.int .i64 0] 37))) _ _ _) at HZ0
   obtain ⟨wa,hwa⟩:∃ u,(w0.alloc (.cells #[.string ⟨#[]⟩,.string ⟨#[]⟩,.string ⟨#[]⟩,.string ⟨#[]⟩,.string ⟨#[]⟩,.int .i64 0,.slice none 0 0,.slice none 0 0,.slice none 0 0,.string ⟨#[]⟩,.string ⟨#[]⟩,.string ⟨#[]⟩,.string ⟨#[]⟩,.int .i64 0,.slice none 0 0,.slice none 0 0,.slice none 0 0,.string ⟨#[]⟩,.string ⟨#[]⟩,.string ⟨#[]⟩,.int .i64 0,.slice none 0 0,.slice none 0 0,.slice none 0 0,.int .i64 0,.int .i64 0] 37)).drew=u:=⟨_,rfl⟩
   rw [hwa] at HZ0 HXA ⊢
   clear hwa
   refine bk hK (HS.out _ HXA.out) fun hHeld=>?_
   clear hK K
   refine rd1 5 fun K hK=>?_
   go_simp
   refine (HTA.out _ HXA.out).mono ?_
   rintro e w1 ⟨v1,rfl,m1,hb1⟩
   have HM1:=hid m1
   have HX1:Hid (Below w0.heap.size w0 w1):=hid (thenB_ HXA.out hb1)
   have HZ1:=hid (HZ0.out.fr (Fr.of_below (F:=fun _=>False) hb1) (fun h=>h))
   clear m1 hb1
   go_wp2_with fail
   refine bk hK (HS.out _ HX1.out) fun hHeld=>?_
   clear hK K
   refine tk 6 ?_
   refine tk 7 ?_
   refine tk 8 ?_
   refine rd1 10 fun K hK=>?_
   rw [if_pos (by rfl)]
   refine wp_store_mid 37 (.tmp 12) (.tmp 52) rfl (w0.heap.size) 0 (dlgA (agaN x.s r).dlg v1) rfl rfl (blk_there HZ1.out (Nat.le_refl 26)) (by kernel_rfl) (dlgA_one HM1.out.one) ?_
   have hgd:w0.heap.size<=w0.heap.size:=Nat.le_refl _
   have hk2:Blk (World.setCells w1 (w0.heap.size) 0 (dlgA (agaN x.s r).dlg v1).toList) (w0.heap.size) 37 (dlgA (agaN x.s r).dlg v1):=blk_setCells (dlgA (agaN x.s r).dlg v1).toList (off:=0) HZ1.out (Nat.le_refl 26)
   have hb2:=below_sc (off:=0) (l:=(dlgA (agaN x.s r).dlg v1).toList) HX1.out (Nat.le_refl _) hgd
   have hm2:=HM1.out.fr (fr_setCells (w0.heap.size) (dlgA (agaN x.s r).dlg v1).toList 0 w1) (keepP_blk HZ1.out (by decide) (by decide))
   obtain ⟨w2,hu⟩:∃ u,World.setCells w1 (w0.heap.size) 0 (dlgA (agaN x.s r).dlg v1).toList=u:=⟨_,rfl⟩
   rw [hu] at hk2 hb2 hm2 ⊢
   clear hu
   have HK2:=hid hk2
   have HB2:=hid hb2
   have HM2:=hid hm2
   have HGD:=hid hgd
   clear hk2 hb2 hm2 hgd
   refine bk hK (HS.out _ HB2.out) fun hHeld=>?_
   clear hK K
   refine tk 11 ?_
   refine dn9 (NoPanic.normal ?_)
   clear hHeld HS
   obtain ⟨gd,hgd⟩:∃ gd,w0.heap.size=gd:=⟨_,rfl⟩
   simp only [hgd] at HK2 HGD ⊢
   clear hgd
   have HS:Hid (∀ W,Below w2.heap.size w2 W->W.cell? ⟨p,0,none⟩=some (.string (str c.host))/\W.cell? ⟨p,1,none⟩=some (.int .i64 c.calls)/\W.cell? ⟨p,2,none⟩=some (.int .i64 c.pubs)/\W.cell? ⟨p,3,none⟩=some (.int .i64 c.subs)/\W.cell? ⟨p,4,none⟩=some (.int .i64 c.least)/\W.cell? ⟨p,5,none⟩=some (.int .i64 c.most)/\W.cell? ⟨p,6,none⟩=some (.int .i64 c.usual)/\W.cell? ⟨w.heap.size,29,none⟩=some (.int .i64 r.exp)):=hid (fun W hW=>by
    have k1:=(HTB.out.below (HB2.out.trans (hW.mono HB2.out.size))).top
    have k2:=HKA.out.fr (Fr.of_below (F:=fun _=>False) (HB2.out.trans (hW.mono HB2.out.size))) (fun h=>h)
    exact ⟨k1.cell 0,k1.cell 1,k1.cell 2,k1.cell 3,k1.cell 4,k1.cell 5,k1.cell 6,k2.cell 29⟩)
   have HX0:Hid (Below w2.heap.size w2 w2.drew):=hid (Below.refl _ _).drew
   go_upto_region 9 with (fail)
   refine wp_region_noPanic (rgn HS.out HX0.out fun hHeld=>?_)
   refine tk 0 ?_
   refine tk 1 ?_
   refine tk 2 ?_
   refine tk 3 ?_
   refine tk 4 ?_
   refine tk 5 ?_
   refine rd1 6 fun K hK=>?_
   go_simp
   refine (HSEC.out _).mono ?_
   rintro e w3 ⟨rfl,hb3⟩
   have HX3:Hid (Below w2.heap.size w2 w3):=hid (thenB_ HX0.out hb3)
   clear hb3
   go_wp2_with fail
   refine bk hK (HS.out _ HX3.out) fun hHeld=>?_
   clear hK K
   refine tk 7 ?_
   refine tk 8 ?_
   refine tk 9 ?_
   refine tk 10 ?_
   refine tk 11 ?_
   refine dn9 (NoPanic.normal ?_)
   clear hHeld
   have HBX:=hid (HB2.out.trans (HX3.out.mono HB2.out.size))
   clear HS HX0
   go_upto_region 12 with (fail)
   have HS:Hid (∀ W,Below w0.heap.size w0 W->W.rangeAt x.b 3 [.string (str x.s.ev.name),x.v.ev]/\W.rangeAt w.heap.size 30 [.string (str r.ev.name),q.ev]):=hid (fun W hW=>⟨blk_range (off:=3) ((HTB.out.its x HX.out).fr (Fr.of_below (F:=fun _=>False) hW) (fun h=>h)) rfl,blk_range (off:=30) (HKA.out.fr (Fr.of_below (F:=fun _=>False) hW) (fun h=>h)) rfl⟩)
   refine wp_region_noPanic (rgn HS.out HBX.out.drew fun hHeld=>?_)
   refine tk 0 ?_
   refine tk 1 ?_
   refine tk 2 ?_
   refine tkm 3 #[.string (str x.s.ev.name),x.v.ev] x.b 3 (fun wq hSw=>hSw.1) Tryz.underlying30 ?_
   refine tk 4 ?_
   refine tkm 5 #[.string (str r.ev.name),q.ev] w.heap.size 30 (fun wq hSw=>hSw.2) Tryz.underlying30 ?_
   refine rd1 6 fun K hK=>?_
   go_simp
   refine (HIS.out _ HBX.out.drew).mono ?_
   rintro e w4 ⟨rfl,hb4⟩
   have HB4:Hid (Below w0.heap.size w0 w4):=hid (thenB_ HBX.out.drew hb4)
   clear hb4
   go_wp2_with fail
   refine bk hK (HS.out _ HB4.out) fun hHeld=>?_
   clear hK K
   refine tk 7 ?_
   refine tk 8 ?_
   refine dn9 (NoPanic.normal ?_)
   clear hHeld HS
   have HKR:=hid (HKB.out.fr (Fr.of_below (F:=fun _=>False) HB4.out) (fun h=>h))
   have HBR:=hid (HB0.out.trans (HB4.out.mono HB0.out.size))
   go_wp2_with (first|(refine wpl_store rfl 39 (.tmp 8) (.tmp 78) rfl (w.heap.size+1) 0 rfl sub0 rfl HKR.out (Nat.le_refl 34) sub0 rfl (by kernel_rfl) sub0_one ?_;intro wz hkz hfz))
   exact ret_cell2 rfl rfl rfl rfl hkz _ Tryz.underlying39 rfl (by kernel_rfl) (HRT.out _ _ (below_upfr HBR.out (Nat.le_refl _) hfz (fun k e=>by omega)) HE.out)
  .have HE:=hid hx
   rw [h1] at HTK
   have htk:0<=now/\now<=549755813888:=by
    unfold tickB at h1
    simp only [Bool.and_eq_true,decide_eq_true_eq] at h1
    exact h1
   have HTI:=hid htk
   have HST:=hid h2
   have d2:(x.s.state == 2)=false:=by simpa using h2
   have HTA:Hid (∀ W,Below w0.heap.size w0 W->Calls Tryz.prog 42 #[.agg (dlgA x.s.dlg x.v),.agg (reqA r q)] W fun e w'=>∃ v',e=.returned (.tuple #[.agg (dlgA (agaN x.s r).dlg v'),.int .i64 (takR x.s.dlg r).err])/\DlgM w' (agaN x.s r).dlg v'/\Below W.heap.size W w'):=hid (fun W hW=>by
    have m:=HTB.out.sub x HX.out
    exact Take_any (Nat.le_trans HBB.out hW.size) (DlgM.below ⟨⟨m.lp,m.lh,m.la⟩,⟨m.rp,m.rh,m.ra⟩,m.tp,m.th,m.ro⟩ hW) (HR0.out.below (hW.mono HBB.out)) HZX.out.pl HZX.out.pr HZ.out.co)
   have HSEC:Hid (∀ W,Calls Tryz.prog 36 #[.agg #[.string (str c.host),.int .i64 c.calls,.int .i64 c.pubs,.int .i64 c.subs,.int .i64 c.least,.int .i64 c.most,.int .i64 c.usual],.int .i64 r.exp] W fun e w'=>e=.returned (.tuple #[.int .i64 (secN c r.exp),.bool (secK c r.exp)])/\Below W.heap.size W w'):=hid (fun W=>seconds_any c r.exp W)
   have HIS:Hid (∀ W,Below w0.heap.size w0 W->Calls Tryz.prog 43 #[.agg #[.string (str x.s.ev.name),x.v.ev],.agg #[.string (str r.ev.name),q.ev]] W fun e w'=>e=.returned (.bool (evIs x.s.ev r.ev))/\Below W.heap.size W w'):=hid (fun W hW=>Is_any (B:=w0.heap.size) hW.size ((HTB.out.sub x HX.out).ev.prB.below hW) ((HR0.out.ev.up HBB.out).below hW) HZX.out.pe HZ.out.evP)
   have HSN:=hid (sec_lo HQ.out.right r.exp)
   rw [hq0] at HTA
   have hd0:∃ d0,Value.agg (dlgA x.s.dlg x.v)=d0:=⟨_,rfl⟩
   obtain ⟨d0,hd0⟩:=hd0
   rw [hd0] at HTA
   rw [h3] at HTA
   rw [h4] at HIS
   rw [h5] at HSEC
   clear h3 h4 h5
   clear hx h1 h2 htk
   go_upto_region 8 with (first|(go_at_call 33;refine (hm.out).mono ?_;rintro e w' ⟨rfl,rfl⟩)|(go_at_call 34;refine (HTK.out _).mono ?_;rintro e w' ⟨rfl,rfl⟩))
   have HS:Hid (∀ W,Below w0.heap.size w0 W->W.rangeAt x.b 8 (dlgA x.s.dlg x.v).toList/\W.rangeAt w.heap.size 0 (reqA r q).toList):=hid (fun W hW=>⟨blk_range (off:=8) ((HTB.out.its x HX.out).fr (Fr.of_below (F:=fun _=>False) hW) (fun h=>h)) rfl,blk_range (off:=0) (HKA.out.fr (Fr.of_below (F:=fun _=>False) hW) (fun h=>h)) rfl⟩)
   have HX0:Hid (Below w0.heap.size w0 w0.drew):=hid (Below.refl _ _).drew
   refine wp_region_noPanic (rgn HS.out HX0.out fun hHeld=>?_)
   refine tk 0 ?_
   refine tk 1 ?_
   refine tk 2 ?_
   refine tkv 3 (d0) ?_ ?_
   .rw [<-hd0];exact yieldsIf_load_mid (by rfl) 37 (.tmp 48) rfl x.b 8 rfl (dlgA x.s.dlg x.v).toList _ (fun wq hSw=>hSw.1) Tryz.underlying37 rfl (by kernel_rfl)
   refine tkv 4 (q0) ?_ ?_
   .rw [<-hq0];exact yieldsIf_load_mid (by rfl) 45 (.tmp 7) rfl w.heap.size 0 rfl (reqA r q).toList _ (fun wq hSw=>hSw.2) Tryz.underlying45 rfl (by kernel_rfl)
   refine wpAnyH_ready (rs:=[5,9]) (by kernel_rfl) (by simp) ?_
   refine rdc (fun K hK=>?_) ?_
   .go_simp
    refine (HTA.out _ HX0.out).mono ?_
    rintro e w1 ⟨v1,rfl,m1,hb1⟩
    have HM1:=hid m1
    have HX1:Hid (Below w0.heap.size w0 w1):=hid (thenB_ HX0.out hb1)
    clear m1 hb1
    go_wp2_with fail
    refine bk hK (HS.out _ HX1.out) fun hHeld=>?_
    clear hK K
    refine tk 6 ?_
    refine tk 7 ?_
    refine tk 8 ?_
    refine rd1 9 fun K hK=>?_
    go_simp
    have HZ2:=hid (Blk.new w1 37 dlg0)
    have HXA:Hid (Below w0.heap.size w0 (w1.alloc (.cells dlg0 37))):=hid (thenB_ HX1.out ((Below.refl _ _).alloc (Nat.le_refl _) _))
    have HMA:=hid (HM1.out.below ((Below.refl w1.heap.size w1).alloc (Nat.le_refl _) (.cells dlg0 37)))
    obtain ⟨wa,hwa⟩:∃ u,w1.alloc (.cells #[.string ⟨#[]⟩,.string ⟨#[]⟩,.string ⟨#[]⟩,.string ⟨#[]⟩,.string ⟨#[]⟩,.int .i64 0,.slice none 0 0,.slice none 0 0,.slice none 0 0,.string ⟨#[]⟩,.string ⟨#[]⟩,.string ⟨#[]⟩,.string ⟨#[]⟩,.int .i64 0,.slice none 0 0,.slice none 0 0,.slice none 0 0,.string ⟨#[]⟩,.string ⟨#[]⟩,.string ⟨#[]⟩,.int .i64 0,.slice none 0 0,.slice none 0 0,.slice none 0 0,.int .i64 0,.int .i64 0] 37)=u:=⟨_,rfl⟩
    unfold dlg0 at HZ2 HXA HMA
    rw [hwa] at HZ2 HXA HMA ⊢
    clear hwa
    refine bk hK (HS.out _ HXA.out) fun hHeld=>?_
    clear hK K
    refine rd1 10 fun K hK=>?_
    rw [if_pos (by rfl)]
    refine wp_store_mid 37 (.tmp 12) (.tmp 52) rfl (w1.heap.size) 0 (dlgA (agaN x.s r).dlg v1) rfl rfl (blk_there HZ2.out (Nat.le_refl 26)) (by kernel_rfl) (dlgA_one HM1.out.one) ?_
    have hgd:w0.heap.size<=w1.heap.size:=HX1.out.size
    have hk2:Blk (World.setCells wa (w1.heap.size) 0 (dlgA (agaN x.s r).dlg v1).toList) (w1.heap.size) 37 (dlgA (agaN x.s r).dlg v1):=blk_setCells (dlgA (agaN x.s r).dlg v1).toList (off:=0) HZ2.out (Nat.le_refl 26)
    have hb2:=below_sc (off:=0) (l:=(dlgA (agaN x.s r).dlg v1).toList) HXA.out (Nat.le_refl _) hgd
    have hm2:=HMA.out.fr (fr_setCells (w1.heap.size) (dlgA (agaN x.s r).dlg v1).toList 0 wa) (keepP_blk HZ2.out (by decide) (by decide))
    obtain ⟨w2,hu⟩:∃ u,World.setCells wa (w1.heap.size) 0 (dlgA (agaN x.s r).dlg v1).toList=u:=⟨_,rfl⟩
    rw [hu] at hk2 hb2 hm2 ⊢
    clear hu
    have HK2:=hid hk2
    have HB2:=hid hb2
    have HM2:=hid hm2
    have HGD:=hid hgd
    clear hk2 hb2 hm2 hgd
    refine bk hK (HS.out _ HB2.out) fun hHeld=>?_
    clear hK K
    refine tk 11 ?_
    refine dn9 (NoPanic.normal ?_)
    clear hHeld HS
    obtain ⟨gd,hgd⟩:∃ gd,w1.heap.size=gd:=⟨_,rfl⟩
    simp only [hgd] at HK2 HGD ⊢
    clear hgd
    have HS:Hid (∀ W,Below w2.heap.size w2 W->W.cell? ⟨p,0,none⟩=some (.string (str c.host))/\W.cell? ⟨p,1,none⟩=some (.int .i64 c.calls)/\W.cell? ⟨p,2,none⟩=some (.int .i64 c.pubs)/\W.cell? ⟨p,3,none⟩=some (.int .i64 c.subs)/\W.cell? ⟨p,4,none⟩=some (.int .i64 c.least)/\W.cell? ⟨p,5,none⟩=some (.int .i64 c.most)/\W.cell? ⟨p,6,none⟩=some (.int .i64 c.usual)/\W.cell? ⟨w.heap.size,29,none⟩=some (.int .i64 r.exp)):=hid (fun W hW=>by
     have k1:=(HTB.out.below (HB2.out.trans (hW.mono HB2.out.size))).top
     have k2:=HKA.out.fr (Fr.of_below (F:=fun _=>False) (HB2.out.trans (hW.mono HB2.out.size))) (fun h=>h)
     exact ⟨k1.cell 0,k1.cell 1,k1.cell 2,k1.cell 3,k1.cell 4,k1.cell 5,k1.cell 6,k2.cell 29⟩)
    have HX0:Hid (Below w2.heap.size w2 w2.drew):=hid (Below.refl _ _).drew
    go_upto_region 9 with (fail)
    refine wp_region_noPanic (rgn HS.out HX0.out fun hHeld=>?_)
    refine tk 0 ?_
    refine tk 1 ?_
    refine tk 2 ?_
    refine tk 3 ?_
    refine tk 4 ?_
    refine tk 5 ?_
    refine rd1 6 fun K hK=>?_
    go_simp
    refine (HSEC.out _).mono ?_
    rintro e w3 ⟨rfl,hb3⟩
    have HX3:Hid (Below w2.heap.size w2 w3):=hid (thenB_ HX0.out hb3)
    clear hb3
    go_wp2_with fail
    refine bk hK (HS.out _ HX3.out) fun hHeld=>?_
    clear hK K
    refine tk 7 ?_
    refine tk 8 ?_
    refine tk 9 ?_
    refine tk 10 ?_
    refine tk 11 ?_
    refine dn9 (NoPanic.normal ?_)
    clear hHeld
    have HBX:=hid (HB2.out.trans (HX3.out.mono HB2.out.size))
    clear HS HX0
    go_upto_region 12 with (fail)
    have HS:Hid (∀ W,Below w0.heap.size w0 W->W.rangeAt x.b 3 [.string (str x.s.ev.name),x.v.ev]/\W.rangeAt w.heap.size 30 [.string (str r.ev.name),q.ev]):=hid (fun W hW=>⟨blk_range (off:=3) ((HTB.out.its x HX.out).fr (Fr.of_below (F:=fun _=>False) hW) (fun h=>h)) rfl,blk_range (off:=30) (HKA.out.fr (Fr.of_below (F:=fun _=>False) hW) (fun h=>h)) rfl⟩)
    refine wp_region_noPanic (rgn HS.out HBX.out.drew fun hHeld=>?_)
    refine tk 0 ?_
    refine tk 1 ?_
    refine tk 2 ?_
    refine tkm 3 #[.string (str x.s.ev.name),x.v.ev] x.b 3 (fun wq hSw=>hSw.1) Tryz.underlying30 ?_
    refine tk 4 ?_
    refine tkm 5 #[.string (str r.ev.name),q.ev] w.heap.size 30 (fun wq hSw=>hSw.2) Tryz.underlying30 ?_
    refine rd1 6 fun K hK=>?_
    go_simp
    refine (HIS.out _ HBX.out.drew).mono ?_
    rintro e w4 ⟨rfl,hb4⟩
    have HB4:Hid (Below w0.heap.size w0 w4):=hid (thenB_ HBX.out.drew hb4)
    clear hb4
    go_wp2_with fail
    refine bk hK (HS.out _ HB4.out) fun hHeld=>?_
    clear hK K
    refine tk 7 ?_
    refine tk 8 ?_
    refine dn9 (NoPanic.normal ?_)
    clear hHeld HS
    have HKR:=hid (HKB.out.fr (Fr.of_below (F:=fun _=>False) HB4.out) (fun h=>h))
    have HBR:=hid (HB0.out.trans (HB4.out.mono HB0.out.size))
    go_wp2_with (first|(refine wpl_store rfl 39 (.tmp 8) (.tmp 82) rfl (w.heap.size+1) 0 rfl sub0 rfl HKR.out (Nat.le_refl 34) sub0 rfl (by kernel_rfl) sub0_one ?_;intro wz hkz hfz))
    exact ret_cell2 rfl rfl rfl rfl hkz _ Tryz.underlying39 rfl (by kernel_rfl) (HRT.out _ _ (below_upfr HBR.out (Nat.le_refl _) hfz (fun k e=>by omega)) HE.out)
   refine AllReadyH.cons (o:=?oi9992) ?ho9992 (fun K hK=>?st9992) AllReadyH.nil
   case ho9992=>(simp only [List.getElem?_toArray,List.getElem?_cons_zero,List.getElem?_cons_succ];rfl)
   go_simp
   have HZ0:=hid ((Blk.new w0 37 dlg0).drewN 1)
   have HXA:Hid (Below w0.heap.size w0 ((w0.alloc (.cells dlg0 37)).drew)):=hid ((Below.refl _ _).alloc (Nat.le_refl _) _).drew
   unfold dlg0 at HZ0 HXA
   change Hid (Blk (World.drew (w0.alloc (.cells #[.string ⟨#[]⟩,.string ⟨#[]⟩,.string ⟨#[]⟩,.string ⟨#[]⟩,.string ⟨#[]⟩,.int .i64 0,.slice none 0 0,.slice none 0 0,.slice none 0 0,.string ⟨#[]⟩,.string ⟨#[]⟩,.string ⟨#[]⟩,.string ⟨#[]⟩,.int .i64 0,.slice none 0 0,.slice none 0 0,.slice none 0 0,.string ⟨#[]⟩,.string ⟨#[]⟩,.string ⟨#[]⟩,.int .i64 0,.slice none 0 0,.slice none 0 0,.slice none 0 0,.int .i64 0,.int .i64 0] 37))) _ _ _) at HZ0
   obtain ⟨wa,hwa⟩:∃ u,(w0.alloc (.cells #[.string ⟨#[]⟩,.string ⟨#[]⟩,.string ⟨#[]⟩,.string ⟨#[]⟩,.string ⟨#[]⟩,.int .i64 0,.slice none 0 0,.slice none 0 0,.slice none 0 0,.string ⟨#[]⟩,.string ⟨#[]⟩,.string ⟨#[]⟩,.string ⟨#[]⟩,.int .i64 0,.slice none 0 0,.slice none 0 0,.slice none 0 0,.string ⟨#[]⟩,.string ⟨#[]⟩,.string ⟨#[]⟩,.int .i64 0,.slice none 0 0,.slice none 0 0,.slice none 0 0,.int .i64 0,.int .i64 0] 37)).drew=u:=⟨_,rfl⟩
   rw [hwa] at HZ0 HXA ⊢
   clear hwa
   refine bk hK (HS.out _ HXA.out) fun hHeld=>?_
   clear hK K
   refine rd1 5 fun K hK=>?_
   go_simp
   refine (HTA.out _ HXA.out).mono ?_
   rintro e w1 ⟨v1,rfl,m1,hb1⟩
   have HM1:=hid m1
   have HX1:Hid (Below w0.heap.size w0 w1):=hid (thenB_ HXA.out hb1)
   have HZ1:=hid (HZ0.out.fr (Fr.of_below (F:=fun _=>False) hb1) (fun h=>h))
   clear m1 hb1
   go_wp2_with fail
   refine bk hK (HS.out _ HX1.out) fun hHeld=>?_
   clear hK K
   refine tk 6 ?_
   refine tk 7 ?_
   refine tk 8 ?_
   refine rd1 10 fun K hK=>?_
   rw [if_pos (by rfl)]
   refine wp_store_mid 37 (.tmp 12) (.tmp 52) rfl (w0.heap.size) 0 (dlgA (agaN x.s r).dlg v1) rfl rfl (blk_there HZ1.out (Nat.le_refl 26)) (by kernel_rfl) (dlgA_one HM1.out.one) ?_
   have hgd:w0.heap.size<=w0.heap.size:=Nat.le_refl _
   have hk2:Blk (World.setCells w1 (w0.heap.size) 0 (dlgA (agaN x.s r).dlg v1).toList) (w0.heap.size) 37 (dlgA (agaN x.s r).dlg v1):=blk_setCells (dlgA (agaN x.s r).dlg v1).toList (off:=0) HZ1.out (Nat.le_refl 26)
   have hb2:=below_sc (off:=0) (l:=(dlgA (agaN x.s r).dlg v1).toList) HX1.out (Nat.le_refl _) hgd
   have hm2:=HM1.out.fr (fr_setCells (w0.heap.size) (dlgA (agaN x.s r).dlg v1).toList 0 w1) (keepP_blk HZ1.out (by decide) (by decide))
   obtain ⟨w2,hu⟩:∃ u,World.setCells w1 (w0.heap.size) 0 (dlgA (agaN x.s r).dlg v1).toList=u:=⟨_,rfl⟩
   rw [hu] at hk2 hb2 hm2 ⊢
   clear hu
   have HK2:=hid hk2
   have HB2:=hid hb2
   have HM2:=hid hm2
   have HGD:=hid hgd
   clear hk2 hb2 hm2 hgd
   refine bk hK (HS.out _ HB2.out) fun hHeld=>?_
   clear hK K
   refine tk 11 ?_
   refine dn9 (NoPanic.normal ?_)
   clear hHeld HS
   obtain ⟨gd,hgd⟩:∃ gd,w0.heap.size=gd:=⟨_,rfl⟩
   simp only [hgd] at HK2 HGD ⊢
   clear hgd
   have HS:Hid (∀ W,Below w2.heap.size w2 W->W.cell? ⟨p,0,none⟩=some (.string (str c.host))/\W.cell? ⟨p,1,none⟩=some (.int .i64 c.calls)/\W.cell? ⟨p,2,none⟩=some (.int .i64 c.pubs)/\W.cell? ⟨p,3,none⟩=some (.int .i64 c.subs)/\W.cell? ⟨p,4,none⟩=some (.int .i64 c.least)/\W.cell? ⟨p,5,none⟩=some (.int .i64 c.most)/\W.cell? ⟨p,6,none⟩=some (.int .i64 c.usual)/\W.cell? ⟨w.heap.size,29,none⟩=some (.int .i64 r.exp)):=hid (fun W hW=>by
    have k1:=(HTB.out.below (HB2.out.trans (hW.mono HB2.out.size))).top
    have k2:=HKA.out.fr (Fr.of_below (F:=fun _=>False) (HB2.out.trans (hW.mono HB2.out.size))) (fun h=>h)
    exact ⟨k1.cell 0,k1.cell 1,k1.cell 2,k1.cell 3,k1.cell 4,k1.cell 5,k1.cell 6,k2.cell 29⟩)
   have HX0:Hid (Below w2.heap.size w2 w2.drew):=hid (Below.refl _ _).drew
   go_upto_region 9 with (fail)
   refine wp_region_noPanic (rgn HS.out HX0.out fun hHeld=>?_)
   refine tk 0 ?_
   refine tk 1 ?_
   refine tk 2 ?_
   refine tk 3 ?_
   refine tk 4 ?_
   refine tk 5 ?_
   refine rd1 6 fun K hK=>?_
   go_simp
   refine (HSEC.out _).mono ?_
   rintro e w3 ⟨rfl,hb3⟩
   have HX3:Hid (Below w2.heap.size w2 w3):=hid (thenB_ HX0.out hb3)
   clear hb3
   go_wp2_with fail
   refine bk hK (HS.out _ HX3.out) fun hHeld=>?_
   clear hK K
   refine tk 7 ?_
   refine tk 8 ?_
   refine tk 9 ?_
   refine tk 10 ?_
   refine tk 11 ?_
   refine dn9 (NoPanic.normal ?_)
   clear hHeld
   have HBX:=hid (HB2.out.trans (HX3.out.mono HB2.out.size))
   clear HS HX0
   go_upto_region 12 with (fail)
   have HS:Hid (∀ W,Below w0.heap.size w0 W->W.rangeAt x.b 3 [.string (str x.s.ev.name),x.v.ev]/\W.rangeAt w.heap.size 30 [.string (str r.ev.name),q.ev]):=hid (fun W hW=>⟨blk_range (off:=3) ((HTB.out.its x HX.out).fr (Fr.of_below (F:=fun _=>False) hW) (fun h=>h)) rfl,blk_range (off:=30) (HKA.out.fr (Fr.of_below (F:=fun _=>False) hW) (fun h=>h)) rfl⟩)
   refine wp_region_noPanic (rgn HS.out HBX.out.drew fun hHeld=>?_)
   refine tk 0 ?_
   refine tk 1 ?_
   refine tk 2 ?_
   refine tkm 3 #[.string (str x.s.ev.name),x.v.ev] x.b 3 (fun wq hSw=>hSw.1) Tryz.underlying30 ?_
   refine tk 4 ?_
   refine tkm 5 #[.string (str r.ev.name),q.ev] w.heap.size 30 (fun wq hSw=>hSw.2) Tryz.underlying30 ?_
   refine rd1 6 fun K hK=>?_
   go_simp
   refine (HIS.out _ HBX.out.drew).mono ?_
   rintro e w4 ⟨rfl,hb4⟩
   have HB4:Hid (Below w0.heap.size w0 w4):=hid (thenB_ HBX.out.drew hb4)
   clear hb4
   go_wp2_with fail
   refine bk hK (HS.out _ HB4.out) fun hHeld=>?_
   clear hK K
   refine tk 7 ?_
   refine tk 8 ?_
   refine dn9 (NoPanic.normal ?_)
   clear hHeld HS
   have HKR:=hid (HKB.out.fr (Fr.of_below (F:=fun _=>False) HB4.out) (fun h=>h))
   have HBR:=hid (HB0.out.trans (HB4.out.mono HB0.out.size))
   go_wp2_with (first|(refine wpl_store rfl 39 (.tmp 8) (.tmp 82) rfl (w.heap.size+1) 0 rfl sub0 rfl HKR.out (Nat.le_refl 34) sub0 rfl (by kernel_rfl) sub0_one ?_;intro wz hkz hfz))
   exact ret_cell2 rfl rfl rfl rfl hkz _ Tryz.underlying39 rfl (by kernel_rfl) (HRT.out _ _ (below_upfr HBR.out (Nat.le_refl _) hfz (fun k e=>by omega)) HE.out)
  .have HE:=hid hx
   rw [h1] at HTK
   have htk:0<=now/\now<=549755813888:=by
    unfold tickB at h1
    simp only [Bool.and_eq_true,decide_eq_true_eq] at h1
    exact h1
   have HTI:=hid htk
   have HST:=hid h2
   have d2:(x.s.state == 2)=false:=by simpa using h2
   have HTA:Hid (∀ W,Below w0.heap.size w0 W->Calls Tryz.prog 42 #[.agg (dlgA x.s.dlg x.v),.agg (reqA r q)] W fun e w'=>∃ v',e=.returned (.tuple #[.agg (dlgA (agaN x.s r).dlg v'),.int .i64 (takR x.s.dlg r).err])/\DlgM w' (agaN x.s r).dlg v'/\Below W.heap.size W w'):=hid (fun W hW=>by
    have m:=HTB.out.sub x HX.out
    exact Take_any (Nat.le_trans HBB.out hW.size) (DlgM.below ⟨⟨m.lp,m.lh,m.la⟩,⟨m.rp,m.rh,m.ra⟩,m.tp,m.th,m.ro⟩ hW) (HR0.out.below (hW.mono HBB.out)) HZX.out.pl HZX.out.pr HZ.out.co)
   have HSEC:Hid (∀ W,Calls Tryz.prog 36 #[.agg #[.string (str c.host),.int .i64 c.calls,.int .i64 c.pubs,.int .i64 c.subs,.int .i64 c.least,.int .i64 c.most,.int .i64 c.usual],.int .i64 r.exp] W fun e w'=>e=.returned (.tuple #[.int .i64 (secN c r.exp),.bool (secK c r.exp)])/\Below W.heap.size W w'):=hid (fun W=>seconds_any c r.exp W)
   have HIS:Hid (∀ W,Below w0.heap.size w0 W->Calls Tryz.prog 43 #[.agg #[.string (str x.s.ev.name),x.v.ev],.agg #[.string (str r.ev.name),q.ev]] W fun e w'=>e=.returned (.bool (evIs x.s.ev r.ev))/\Below W.heap.size W w'):=hid (fun W hW=>Is_any (B:=w0.heap.size) hW.size ((HTB.out.sub x HX.out).ev.prB.below hW) ((HR0.out.ev.up HBB.out).below hW) HZX.out.pe HZ.out.evP)
   have HSN:=hid (sec_lo HQ.out.right r.exp)
   rw [hq0] at HTA
   have hd0:∃ d0,Value.agg (dlgA x.s.dlg x.v)=d0:=⟨_,rfl⟩
   obtain ⟨d0,hd0⟩:=hd0
   rw [hd0] at HTA
   rw [h3] at HTA
   rw [h4] at HIS
   rw [h5] at HSEC
   generalize hN:secN c r.exp=N at HE HSEC HSN
   clear h3 h4 h5
   clear hx h1 h2 htk
   go_upto_region 8 with (first|(go_at_call 33;refine (hm.out).mono ?_;rintro e w' ⟨rfl,rfl⟩)|(go_at_call 34;refine (HTK.out _).mono ?_;rintro e w' ⟨rfl,rfl⟩))
   have HS:Hid (∀ W,Below w0.heap.size w0 W->W.rangeAt x.b 8 (dlgA x.s.dlg x.v).toList/\W.rangeAt w.heap.size 0 (reqA r q).toList):=hid (fun W hW=>⟨blk_range (off:=8) ((HTB.out.its x HX.out).fr (Fr.of_below (F:=fun _=>False) hW) (fun h=>h)) rfl,blk_range (off:=0) (HKA.out.fr (Fr.of_below (F:=fun _=>False) hW) (fun h=>h)) rfl⟩)
   have HX0:Hid (Below w0.heap.size w0 w0.drew):=hid (Below.refl _ _).drew
   refine wp_region_noPanic (rgn HS.out HX0.out fun hHeld=>?_)
   refine tk 0 ?_
   refine tk 1 ?_
   refine tk 2 ?_
   refine tkv 3 (d0) ?_ ?_
   .rw [<-hd0];exact yieldsIf_load_mid (by rfl) 37 (.tmp 48) rfl x.b 8 rfl (dlgA x.s.dlg x.v).toList _ (fun wq hSw=>hSw.1) Tryz.underlying37 rfl (by kernel_rfl)
   refine tkv 4 (q0) ?_ ?_
   .rw [<-hq0];exact yieldsIf_load_mid (by rfl) 45 (.tmp 7) rfl w.heap.size 0 rfl (reqA r q).toList _ (fun wq hSw=>hSw.2) Tryz.underlying45 rfl (by kernel_rfl)
   refine wpAnyH_ready (rs:=[5,9]) (by kernel_rfl) (by simp) ?_
   refine rdc (fun K hK=>?_) ?_
   .go_simp
    refine (HTA.out _ HX0.out).mono ?_
    rintro e w1 ⟨v1,rfl,m1,hb1⟩
    have HM1:=hid m1
    have HX1:Hid (Below w0.heap.size w0 w1):=hid (thenB_ HX0.out hb1)
    clear m1 hb1
    go_wp2_with fail
    refine bk hK (HS.out _ HX1.out) fun hHeld=>?_
    clear hK K
    refine tk 6 ?_
    refine tk 7 ?_
    refine tk 8 ?_
    refine rd1 9 fun K hK=>?_
    go_simp
    have HZ2:=hid (Blk.new w1 37 dlg0)
    have HXA:Hid (Below w0.heap.size w0 (w1.alloc (.cells dlg0 37))):=hid (thenB_ HX1.out ((Below.refl _ _).alloc (Nat.le_refl _) _))
    have HMA:=hid (HM1.out.below ((Below.refl w1.heap.size w1).alloc (Nat.le_refl _) (.cells dlg0 37)))
    obtain ⟨wa,hwa⟩:∃ u,w1.alloc (.cells #[.string ⟨#[]⟩,.string ⟨#[]⟩,.string ⟨#[]⟩,.string ⟨#[]⟩,.string ⟨#[]⟩,.int .i64 0,.slice none 0 0,.slice none 0 0,.slice none 0 0,.string ⟨#[]⟩,.string ⟨#[]⟩,.string ⟨#[]⟩,.string ⟨#[]⟩,.int .i64 0,.slice none 0 0,.slice none 0 0,.slice none 0 0,.string ⟨#[]⟩,.string ⟨#[]⟩,.string ⟨#[]⟩,.int .i64 0,.slice none 0 0,.slice none 0 0,.slice none 0 0,.int .i64 0,.int .i64 0] 37)=u:=⟨_,rfl⟩
    unfold dlg0 at HZ2 HXA HMA
    rw [hwa] at HZ2 HXA HMA ⊢
    clear hwa
    refine bk hK (HS.out _ HXA.out) fun hHeld=>?_
    clear hK K
    refine rd1 10 fun K hK=>?_
    rw [if_pos (by rfl)]
    refine wp_store_mid 37 (.tmp 12) (.tmp 52) rfl (w1.heap.size) 0 (dlgA (agaN x.s r).dlg v1) rfl rfl (blk_there HZ2.out (Nat.le_refl 26)) (by kernel_rfl) (dlgA_one HM1.out.one) ?_
    have hgd:w0.heap.size<=w1.heap.size:=HX1.out.size
    have hk2:Blk (World.setCells wa (w1.heap.size) 0 (dlgA (agaN x.s r).dlg v1).toList) (w1.heap.size) 37 (dlgA (agaN x.s r).dlg v1):=blk_setCells (dlgA (agaN x.s r).dlg v1).toList (off:=0) HZ2.out (Nat.le_refl 26)
    have hb2:=below_sc (off:=0) (l:=(dlgA (agaN x.s r).dlg v1).toList) HXA.out (Nat.le_refl _) hgd
    have hm2:=HMA.out.fr (fr_setCells (w1.heap.size) (dlgA (agaN x.s r).dlg v1).toList 0 wa) (keepP_blk HZ2.out (by decide) (by decide))
    obtain ⟨w2,hu⟩:∃ u,World.setCells wa (w1.heap.size) 0 (dlgA (agaN x.s r).dlg v1).toList=u:=⟨_,rfl⟩
    rw [hu] at hk2 hb2 hm2 ⊢
    clear hu
    have HK2:=hid hk2
    have HB2:=hid hb2
    have HM2:=hid hm2
    have HGD:=hid hgd
    clear hk2 hb2 hm2 hgd
    refine bk hK (HS.out _ HB2.out) fun hHeld=>?_
    clear hK K
    refine tk 11 ?_
    refine dn9 (NoPanic.normal ?_)
    clear hHeld HS
    obtain ⟨gd,hgd⟩:∃ gd,w1.heap.size=gd:=⟨_,rfl⟩
    simp only [hgd] at HK2 HGD ⊢
    clear hgd
    have HS:Hid (∀ W,Below w2.heap.size w2 W->W.cell? ⟨p,0,none⟩=some (.string (str c.host))/\W.cell? ⟨p,1,none⟩=some (.int .i64 c.calls)/\W.cell? ⟨p,2,none⟩=some (.int .i64 c.pubs)/\W.cell? ⟨p,3,none⟩=some (.int .i64 c.subs)/\W.cell? ⟨p,4,none⟩=some (.int .i64 c.least)/\W.cell? ⟨p,5,none⟩=some (.int .i64 c.most)/\W.cell? ⟨p,6,none⟩=some (.int .i64 c.usual)/\W.cell? ⟨w.heap.size,29,none⟩=some (.int .i64 r.exp)):=hid (fun W hW=>by
     have k1:=(HTB.out.below (HB2.out.trans (hW.mono HB2.out.size))).top
     have k2:=HKA.out.fr (Fr.of_below (F:=fun _=>False) (HB2.out.trans (hW.mono HB2.out.size))) (fun h=>h)
     exact ⟨k1.cell 0,k1.cell 1,k1.cell 2,k1.cell 3,k1.cell 4,k1.cell 5,k1.cell 6,k2.cell 29⟩)
    have HX0:Hid (Below w2.heap.size w2 w2.drew):=hid (Below.refl _ _).drew
    go_upto_region 9 with (fail)
    refine wp_region_noPanic (rgn HS.out HX0.out fun hHeld=>?_)
    refine tk 0 ?_
    refine tk 1 ?_
    refine tk 2 ?_
    refine tk 3 ?_
    refine tk 4 ?_
    refine tk 5 ?_
    refine rd1 6 fun K hK=>?_
    go_simp
    refine (HSEC.out _).mono ?_
    rintro e w3 ⟨rfl,hb3⟩
    have HX3:Hid (Below w2.heap.size w2 w3):=hid (thenB_ HX0.out hb3)
    clear hb3
    go_wp2_with fail
    refine bk hK (HS.out _ HX3.out) fun hHeld=>?_
    clear hK K
    refine tk 7 ?_
    refine tk 8 ?_
    refine tk 9 ?_
    refine tk 10 ?_
    refine tk 11 ?_
    refine dn9 (NoPanic.normal ?_)
    clear hHeld
    have HBX:=hid (HB2.out.trans (HX3.out.mono HB2.out.size))
    clear HS HX0
    go_upto_region 12 with (fail)
    have HS:Hid (∀ W,Below w0.heap.size w0 W->W.rangeAt x.b 3 [.string (str x.s.ev.name),x.v.ev]/\W.rangeAt w.heap.size 30 [.string (str r.ev.name),q.ev]):=hid (fun W hW=>⟨blk_range (off:=3) ((HTB.out.its x HX.out).fr (Fr.of_below (F:=fun _=>False) hW) (fun h=>h)) rfl,blk_range (off:=30) (HKA.out.fr (Fr.of_below (F:=fun _=>False) hW) (fun h=>h)) rfl⟩)
    refine wp_region_noPanic (rgn HS.out HBX.out.drew fun hHeld=>?_)
    refine tk 0 ?_
    refine tk 1 ?_
    refine tk 2 ?_
    refine tkm 3 #[.string (str x.s.ev.name),x.v.ev] x.b 3 (fun wq hSw=>hSw.1) Tryz.underlying30 ?_
    refine tk 4 ?_
    refine tkm 5 #[.string (str r.ev.name),q.ev] w.heap.size 30 (fun wq hSw=>hSw.2) Tryz.underlying30 ?_
    refine rd1 6 fun K hK=>?_
    go_simp
    refine (HIS.out _ HBX.out.drew).mono ?_
    rintro e w4 ⟨rfl,hb4⟩
    have hb4':Below w3.heap.size w3 w4:=thenB_ (Below.refl w3.heap.size w3).drew hb4
    have HB34:=hid hb4'
    have HB4:Hid (Below w0.heap.size w0 w4):=hid (thenB_ HBX.out.drew hb4)
    clear hb4 hb4'
    go_wp2_with fail
    refine bk hK (HS.out _ HB4.out) fun hHeld=>?_
    clear hK K
    refine tk 7 ?_
    refine tk 8 ?_
    refine dn9 (NoPanic.normal ?_)
    clear hHeld HS
    have HK4:=hid (HK2.out.fr (Fr.of_below (F:=fun _=>False) (HX3.out.trans (HB34.out.mono HX3.out.size))) (fun h=>h))
    have HM4:=hid (HM2.out.below (HX3.out.trans (HB34.out.mono HX3.out.size)))
    have HI4:=hid (HTB.out.below HB4.out)
    have HKX:=hid (HI4.out.its x HX.out)
    have HKR:=hid (HKB.out.fr (Fr.of_below (F:=fun _=>False) HB4.out) (fun h=>h))
    have HBW:=hid (HB0.out.trans (HB4.out.mono HB0.out.size))
    go_upto_region 17 with (first|(refine wpl_load rfl 37 (.tmp 12) rfl gd 0 rfl HK4.out (dlgA (agaN x.s r).dlg v1).toList rfl _ Tryz.underlying37 rfl (by kernel_rfl) ?_)|(refine wpl_store rfl 37 (.tmp 86) (.tmp 84) rfl x.b 8 rfl (dlgA (agaN x.s r).dlg v1) rfl HKX.out (Nat.le_refl 34) (subA (agaN x.s r) (agaV x.v v1)) rfl (by kernel_rfl) (dlgA_one HM4.out.one) ?_;intro w5 hk5 hf5))
    have HK5:=hid hk5
    have HF5:=hid hf5
    have hxp:p≠x.b:=HI4.out.top.ne_ HKX.out (by decide)
    have HLS:=hid (lasts_any (now:=now) (n:=N) (HI4.out.top.fr hf5 hxp) hk5 (HI4.out.wh.fr hf5 (fun k hk e=>HI4.out.fwx HX.out (e▸hk))) HTI.out.1 HTI.out.2 HSN.out.1 HSN.out.2)
    clear hk5 hf5 hxp
    go_wp2_with fail
    refine (HLS.out).mono ?_
    rintro e w6 ⟨rfl,ht⟩
    obtain ⟨t6,m6,r6,k6⟩:=aga_mid HI.out HX.out HBW.out HM4.out HF5.out ht HKR.out
    have HT6:=hid t6
    have HM6:=hid m6
    have HR6:=hid r6
    have HCP:=hid (scopied_any k6 m6 ((aga_z HZX.out HZ.out).lasts now N))
    clear ht t6 m6 r6 k6
    go_wp2_with fail
    refine (HCP.out).mono ?_
    rintro e w7 ⟨v7,rfl,m7,hb7⟩
    have HM7:=hid m7
    have HB7:=hid hb7
    have HK7:=hid (HR6.out.fr (Fr.of_below (F:=fun _=>False) hb7) (fun h=>h))
    clear m7 hb7
    go_wp2_with (first|(refine wpl_store rfl 39 (.tmp 8) (.tmp 93) rfl (w.heap.size+1) 0 rfl (subA (lastsS (agaN x.s r) now N) v7) rfl HK7.out (Nat.le_refl 34) (subA (lastsS (agaN x.s r) now N) v7) rfl (by kernel_rfl) (subA_one HM7.out.ok.1 HM7.out.ok.2) ?_;intro wz hkz hfz))
    exact ret_cell2 rfl rfl rfl rfl hkz _ Tryz.underlying39 rfl (by kernel_rfl) (aga_fin HI.out HQ.out HX.out HBW.out (aga_z HZX.out HZ.out) HST.out HTI.out.1 HTI.out.2 HSN.out.1 HSN.out.2 HT6.out HM6.out HR6.out HB7.out HK7.out HM7.out hfz HE.out)
   refine AllReadyH.cons (o:=?oi9993) ?ho9993 (fun K hK=>?st9993) AllReadyH.nil
   case ho9993=>(simp only [List.getElem?_toArray,List.getElem?_cons_zero,List.getElem?_cons_succ];rfl)
   go_simp
   have HZ0:=hid ((Blk.new w0 37 dlg0).drewN 1)
   have HXA:Hid (Below w0.heap.size w0 ((w0.alloc (.cells dlg0 37)).drew)):=hid ((Below.refl _ _).alloc (Nat.le_refl _) _).drew
   unfold dlg0 at HZ0 HXA
   change Hid (Blk (World.drew (w0.alloc (.cells #[.string ⟨#[]⟩,.string ⟨#[]⟩,.string ⟨#[]⟩,.string ⟨#[]⟩,.string ⟨#[]⟩,.int .i64 0,.slice none 0 0,.slice none 0 0,.slice none 0 0,.string ⟨#[]⟩,.string ⟨#[]⟩,.string ⟨#[]⟩,.string ⟨#[]⟩,.int .i64 0,.slice none 0 0,.slice none 0 0,.slice none 0 0,.string ⟨#[]⟩,.string ⟨#[]⟩,.string ⟨#[]⟩,.int .i64 0,.slice none 0 0,.slice none 0 0,.slice none 0 0,.int .i64 0,.int .i64 0] 37))) _ _ _) at HZ0
   obtain ⟨wa,hwa⟩:∃ u,(w0.alloc (.cells #[.string ⟨#[]⟩,.string ⟨#[]⟩,.string ⟨#[]⟩,.string ⟨#[]⟩,.string ⟨#[]⟩,.int .i64 0,.slice none 0 0,.slice none 0 0,.slice none 0 0,.string ⟨#[]⟩,.string ⟨#[]⟩,.string ⟨#[]⟩,.string ⟨#[]⟩,.int .i64 0,.slice none 0 0,.slice none 0 0,.slice none 0 0,.string ⟨#[]⟩,.string ⟨#[]⟩,.string ⟨#[]⟩,.int .i64 0,.slice none 0 0,.slice none 0 0,.slice none 0 0,.int .i64 0,.int .i64 0] 37)).drew=u:=⟨_,rfl⟩
   rw [hwa] at HZ0 HXA ⊢
   clear hwa
   refine bk hK (HS.out _ HXA.out) fun hHeld=>?_
   clear hK K
   refine rd1 5 fun K hK=>?_
   go_simp
   refine (HTA.out _ HXA.out).mono ?_
   rintro e w1 ⟨v1,rfl,m1,hb1⟩
   have HM1:=hid m1
   have HX1:Hid (Below w0.heap.size w0 w1):=hid (thenB_ HXA.out hb1)
   have HZ1:=hid (HZ0.out.fr (Fr.of_below (F:=fun _=>False) hb1) (fun h=>h))
   clear m1 hb1
   go_wp2_with fail
   refine bk hK (HS.out _ HX1.out) fun hHeld=>?_
   clear hK K
   refine tk 6 ?_
   refine tk 7 ?_
   refine tk 8 ?_
   refine rd1 10 fun K hK=>?_
   rw [if_pos (by rfl)]
   refine wp_store_mid 37 (.tmp 12) (.tmp 52) rfl (w0.heap.size) 0 (dlgA (agaN x.s r).dlg v1) rfl rfl (blk_there HZ1.out (Nat.le_refl 26)) (by kernel_rfl) (dlgA_one HM1.out.one) ?_
   have hgd:w0.heap.size<=w0.heap.size:=Nat.le_refl _
   have hk2:Blk (World.setCells w1 (w0.heap.size) 0 (dlgA (agaN x.s r).dlg v1).toList) (w0.heap.size) 37 (dlgA (agaN x.s r).dlg v1):=blk_setCells (dlgA (agaN x.s r).dlg v1).toList (off:=0) HZ1.out (Nat.le_refl 26)
   have hb2:=below_sc (off:=0) (l:=(dlgA (agaN x.s r).dlg v1).toList) HX1.out (Nat.le_refl _) hgd
   have hm2:=HM1.out.fr (fr_setCells (w0.heap.size) (dlgA (agaN x.s r).dlg v1).toList 0 w1) (keepP_blk HZ1.out (by decide) (by decide))
   obtain ⟨w2,hu⟩:∃ u,World.setCells w1 (w0.heap.size) 0 (dlgA (agaN x.s r).dlg v1).toList=u:=⟨_,rfl⟩
   rw [hu] at hk2 hb2 hm2 ⊢
   clear hu
   have HK2:=hid hk2
   have HB2:=hid hb2
   have HM2:=hid hm2
   have HGD:=hid hgd
   clear hk2 hb2 hm2 hgd
   refine bk hK (HS.out _ HB2.out) fun hHeld=>?_
   clear hK K
   refine tk 11 ?_
   refine dn9 (NoPanic.normal ?_)
   clear hHeld HS
   obtain ⟨gd,hgd⟩:∃ gd,w0.heap.size=gd:=⟨_,rfl⟩
   simp only [hgd] at HK2 HGD ⊢
   clear hgd
   have HS:Hid (∀ W,Below w2.heap.size w2 W->W.cell? ⟨p,0,none⟩=some (.string (str c.host))/\W.cell? ⟨p,1,none⟩=some (.int .i64 c.calls)/\W.cell? ⟨p,2,none⟩=some (.int .i64 c.pubs)/\W.cell? ⟨p,3,none⟩=some (.int .i64 c.subs)/\W.cell? ⟨p,4,none⟩=some (.int .i64 c.least)/\W.cell? ⟨p,5,none⟩=some (.int .i64 c.most)/\W.cell? ⟨p,6,none⟩=some (.int .i64 c.usual)/\W.cell? ⟨w.heap.size,29,none⟩=some (.int .i64 r.exp)):=hid (fun W hW=>by
    have k1:=(HTB.out.below (HB2.out.trans (hW.mono HB2.out.size))).top
    have k2:=HKA.out.fr (Fr.of_below (F:=fun _=>False) (HB2.out.trans (hW.mono HB2.out.size))) (fun h=>h)
    exact ⟨k1.cell 0,k1.cell 1,k1.cell 2,k1.cell 3,k1.cell 4,k1.cell 5,k1.cell 6,k2.cell 29⟩)
   have HX0:Hid (Below w2.heap.size w2 w2.drew):=hid (Below.refl _ _).drew
   go_upto_region 9 with (fail)
   refine wp_region_noPanic (rgn HS.out HX0.out fun hHeld=>?_)
   refine tk 0 ?_
   refine tk 1 ?_
   refine tk 2 ?_
   refine tk 3 ?_
   refine tk 4 ?_
   refine tk 5 ?_
   refine rd1 6 fun K hK=>?_
   go_simp
   refine (HSEC.out _).mono ?_
   rintro e w3 ⟨rfl,hb3⟩
   have HX3:Hid (Below w2.heap.size w2 w3):=hid (thenB_ HX0.out hb3)
   clear hb3
   go_wp2_with fail
   refine bk hK (HS.out _ HX3.out) fun hHeld=>?_
   clear hK K
   refine tk 7 ?_
   refine tk 8 ?_
   refine tk 9 ?_
   refine tk 10 ?_
   refine tk 11 ?_
   refine dn9 (NoPanic.normal ?_)
   clear hHeld
   have HBX:=hid (HB2.out.trans (HX3.out.mono HB2.out.size))
   clear HS HX0
   go_upto_region 12 with (fail)
   have HS:Hid (∀ W,Below w0.heap.size w0 W->W.rangeAt x.b 3 [.string (str x.s.ev.name),x.v.ev]/\W.rangeAt w.heap.size 30 [.string (str r.ev.name),q.ev]):=hid (fun W hW=>⟨blk_range (off:=3) ((HTB.out.its x HX.out).fr (Fr.of_below (F:=fun _=>False) hW) (fun h=>h)) rfl,blk_range (off:=30) (HKA.out.fr (Fr.of_below (F:=fun _=>False) hW) (fun h=>h)) rfl⟩)
   refine wp_region_noPanic (rgn HS.out HBX.out.drew fun hHeld=>?_)
   refine tk 0 ?_
   refine tk 1 ?_
   refine tk 2 ?_
   refine tkm 3 #[.string (str x.s.ev.name),x.v.ev] x.b 3 (fun wq hSw=>hSw.1) Tryz.underlying30 ?_
   refine tk 4 ?_
   refine tkm 5 #[.string (str r.ev.name),q.ev] w.heap.size 30 (fun wq hSw=>hSw.2) Tryz.underlying30 ?_
   refine rd1 6 fun K hK=>?_
   go_simp
   refine (HIS.out _ HBX.out.drew).mono ?_
   rintro e w4 ⟨rfl,hb4⟩
   have hb4':Below w3.heap.size w3 w4:=thenB_ (Below.refl w3.heap.size w3).drew hb4
   have HB34:=hid hb4'
   have HB4:Hid (Below w0.heap.size w0 w4):=hid (thenB_ HBX.out.drew hb4)
   clear hb4 hb4'
   go_wp2_with fail
   refine bk hK (HS.out _ HB4.out) fun hHeld=>?_
   clear hK K
   refine tk 7 ?_
   refine tk 8 ?_
   refine dn9 (NoPanic.normal ?_)
   clear hHeld HS
   have HK4:=hid (HK2.out.fr (Fr.of_below (F:=fun _=>False) (HX3.out.trans (HB34.out.mono HX3.out.size))) (fun h=>h))
   have HM4:=hid (HM2.out.below (HX3.out.trans (HB34.out.mono HX3.out.size)))
   have HI4:=hid (HTB.out.below HB4.out)
   have HKX:=hid (HI4.out.its x HX.out)
   have HKR:=hid (HKB.out.fr (Fr.of_below (F:=fun _=>False) HB4.out) (fun h=>h))
   have HBW:=hid (HB0.out.trans (HB4.out.mono HB0.out.size))
   go_upto_region 17 with (first|(refine wpl_load rfl 37 (.tmp 12) rfl gd 0 rfl HK4.out (dlgA (agaN x.s r).dlg v1).toList rfl _ Tryz.underlying37 rfl (by kernel_rfl) ?_)|(refine wpl_store rfl 37 (.tmp 86) (.tmp 84) rfl x.b 8 rfl (dlgA (agaN x.s r).dlg v1) rfl HKX.out (Nat.le_refl 34) (subA (agaN x.s r) (agaV x.v v1)) rfl (by kernel_rfl) (dlgA_one HM4.out.one) ?_;intro w5 hk5 hf5))
   have HK5:=hid hk5
   have HF5:=hid hf5
   have hxp:p≠x.b:=HI4.out.top.ne_ HKX.out (by decide)
   have HLS:=hid (lasts_any (now:=now) (n:=N) (HI4.out.top.fr hf5 hxp) hk5 (HI4.out.wh.fr hf5 (fun k hk e=>HI4.out.fwx HX.out (e▸hk))) HTI.out.1 HTI.out.2 HSN.out.1 HSN.out.2)
   clear hk5 hf5 hxp
   go_wp2_with fail
   refine (HLS.out).mono ?_
   rintro e w6 ⟨rfl,ht⟩
   obtain ⟨t6,m6,r6,k6⟩:=aga_mid HI.out HX.out HBW.out HM4.out HF5.out ht HKR.out
   have HT6:=hid t6
   have HM6:=hid m6
   have HR6:=hid r6
   have HCP:=hid (scopied_any k6 m6 ((aga_z HZX.out HZ.out).lasts now N))
   clear ht t6 m6 r6 k6
   go_wp2_with fail
   refine (HCP.out).mono ?_
   rintro e w7 ⟨v7,rfl,m7,hb7⟩
   have HM7:=hid m7
   have HB7:=hid hb7
   have HK7:=hid (HR6.out.fr (Fr.of_below (F:=fun _=>False) hb7) (fun h=>h))
   clear m7 hb7
   go_wp2_with (first|(refine wpl_store rfl 39 (.tmp 8) (.tmp 93) rfl (w.heap.size+1) 0 rfl (subA (lastsS (agaN x.s r) now N) v7) rfl HK7.out (Nat.le_refl 34) (subA (lastsS (agaN x.s r) now N) v7) rfl (by kernel_rfl) (subA_one HM7.out.ok.1 HM7.out.ok.2) ?_;intro wz hkz hfz))
   exact ret_cell2 rfl rfl rfl rfl hkz _ Tryz.underlying39 rfl (by kernel_rfl) (aga_fin HI.out HQ.out HX.out HBW.out (aga_z HZX.out HZ.out) HST.out HTI.out.1 HTI.out.2 HSN.out.1 HSN.out.2 HT6.out HM6.out HR6.out HB7.out HK7.out HM7.out hfz HE.out)
 .have hg:=H0.nom hin
  have hlk':(Instr.lookup 82 (.map (some bm)) (.int .i64 num) true).run Tryz.prog w0=.ok (.tuple #[.pointer none,.bool false]) w0:=by rw [hg] at hlk;exact hlk
  have HW:=hid (aga_no (c:=c) (now:=now) (r:=r) hin)
  clear hlk hnd hin hg H0 Q hb0 hka hkb hB hr hz
  unfold sub0 at hw0
  go_enter Tryz.func14,Tryz.ntmps14
  go_upto_region 1 with (fail)
  try rw [hw0]
  clear hw0
  rcases HW.out with ⟨h1,hx⟩|⟨h1,hx⟩
  .have HE:=hid hx
   rw [h1] at HTK
   clear hx h1
   go_wp2_with (first|(go_at_call 33;refine (hm.out).mono ?_;rintro e w' ⟨rfl,rfl⟩)|(go_at_call 34;refine (HTK.out _).mono ?_;rintro e w' ⟨rfl,rfl⟩)|(refine wpl_store rfl 39 (.tmp 8) (.tmp 33) rfl (w.heap.size+1) 0 rfl sub0 rfl HKB.out (Nat.le_refl 34) sub0 rfl (by kernel_rfl) sub0_one ?_;intro wz hkz hfz))
   exact ret_cell2 rfl rfl rfl rfl hkz _ Tryz.underlying39 rfl (by kernel_rfl) (HRT.out _ _ (below_upfr HB0.out (Nat.le_refl _) hfz (fun k e=>by omega)) HE.out)
  .have HE:=hid hx
   rw [h1] at HTK
   clear hx h1
   go_wp2_with (first|(go_at_call 33;refine (hm.out).mono ?_;rintro e w' ⟨rfl,rfl⟩)|(go_at_call 34;refine (HTK.out _).mono ?_;rintro e w' ⟨rfl,rfl⟩)|(refine wpl_store rfl 39 (.tmp 8) (.tmp 44) rfl (w.heap.size+1) 0 rfl sub0 rfl HKB.out (Nat.le_refl 34) sub0 rfl (by kernel_rfl) sub0_one ?_;intro wz hkz hfz))
   exact ret_cell2 rfl rfl rfl rfl hkz _ Tryz.underlying39 rfl (by kernel_rfl) (HRT.out _ _ (below_upfr HB0.out (Nat.le_refl _) hfz (fun k e=>by omega)) HE.out)
end Go.Proofs.YthkadehlclcggaaGreatDoor
