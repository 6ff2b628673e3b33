/- Chapter 19: subs.Begin where it begins. -/
import Derived.Test.YthkadehlclcggaaGreatDoorGx57
namespace Go.Proofs.YthkadehlclcggaaGreatDoor
set_option linter.unusedSimpArgs false
set_option linter.unusedVariables false
open Go.RowKit
open Go.Lib (hid)
theorem lasts_num (s:SubP) (now n:Int):(lastsS s now n).number=s.number:=by unfold lastsS;split <;> rfl
theorem SubZ.lasts {s:SubP} (h:SubZ s) (now n:Int):SubZ (lastsS s now n):=by
 unfold lastsS
 split
 .exact h.as rfl rfl rfl rfl rfl
 .exact h.as rfl rfl rfl rfl rfl
theorem SubM.lasts {w:World} {s:SubP} {v:SlV} (h:SubM w s v) (now n:Int):SubM w (lastsS s now n) v:=by
 unfold lastsS
 split
 .exact h.as rfl rfl rfl rfl rfl
 .exact h.as rfl rfl rfl rfl rfl
section
variable {c:Conf} {last now n:Int} {L:List SubP} {l:List TM} {s s0:SubP}
theorem SbQ.appN (H:SbQ c last L l) (hn:s.number=last+1) (hlen:(L.length:Int)<c.subs) (hz:SubZ s) (ho:s.state≠2) (h1:0<=now) (h2:now<=549755813888) (h3:0<=n) (h4:n<=2147483647) :
 SbQ c (last+1) (L++[lastsS s now n]) (lastsT l s.number now n):=by
 have hz':=hz.lasts now n
 have hn':=(lasts_num s now n).trans hn
 have e9:lastsT l s.number now n=lastsT l (last+1) now n:=by rw [hn]
 rw [e9]
 unfold lastsS lastsT at *
 by_cases h0:n=0
 .rw [if_pos h0] at hz' hn' ⊢
  rw [if_pos h0]
  exact H.appO hn' hlen hz' rfl
 .rw [if_neg h0] at hz' hn' ⊢
  rw [if_neg h0]
  exact (H.appL hn' hlen hz' ho (by show 0<=now+10*n;omega) (by show now+10*n<=_;omega)).2
theorem SbQ.putN (H:SbQ c last L l) (hs:s0∈L) (hn:s.number=s0.number) (hz:SubZ s) (ho:s.state≠2) (h1:0<=now) (h2:now<=549755813888) (h3:0<=n) (h4:n<=2147483647) :
 SbQ c last (setS L (lastsS s now n)) (lastsT l s.number now n):=by
 have hz':=hz.lasts now n
 have hn':=(lasts_num s now n).trans hn
 have e9:lastsT l s.number now n=lastsT l s0.number now n:=by rw [hn]
 rw [e9]
 unfold lastsS lastsT at *
 by_cases h0:n=0
 .rw [if_pos h0] at hz' hn' ⊢
  rw [if_pos h0]
  exact H.putO hs hn' hz' rfl
 .rw [if_neg h0] at hz' hn' ⊢
  rw [if_neg h0]
  exact (H.putL hs hn' hz' ho (by show 0<=now+10*n;omega) (by show now+10*n<=_;omega)).2
end
section
variable {w w':World} {p bm pw:Nat} {c:Conf} {last:Int} {xs:List XS} {l l':List TM} {F FW FW' G:Nat->Prop} {km:List (Int × Value)}
theorem sbegin_end (H:SbI w p c last xs l F bm pw km FW) (Q:SbQ c last (xs.map (·.s)) l) {q:SubP} {b:Nat} {v:SlV} (hn:q.number=last+1) (Q':SbQ c (last+1) (xs.map (·.s)++[q]) l') (hb:w.heap.size<=b)
 (hf:Fr (fun k=>k=p\/k=bm\/k=b\/FW k) w w') (htop:Blk w' p 85 (tabA c (last+1) bm pw))
 (hl:MapIs w' bm intKey (mput (last+1) (ptr b) km)) (hbo:Born w' bm) (hw:Wh w' pw l' FW') (hx:Ext FW FW' w)
 (hblk:Blk w' b 39 (subA q v)) (hm:SubM w' q v):TabTo p c (last+1) (xs.map (·.s)++[q]) F w w':=by
 have hnl:last+1∉(xs.map (·.s)).map (·.number):=fun h=>by
  obtain ⟨d,hd,e⟩:=List.mem_map.1 h
  have:=Q.low d hd
  omega
 have e1:mput (last+1) (ptr b) km=km++[(last+1,ptr b)]:=mput_new _ (mget_none' (H.nom hnl))
 obtain ⟨HI,hF,hE⟩:=H.turnw (last':=last+1) (xs':=xs++[⟨b,q,v⟩]) (km':=_) (b0:=b) (.inr hb) hf htop hl hbo hw hx
  (fun y hy=>by
    rcases List.mem_append.1 hy with r|r
    .exact .inl ⟨r,fun e=>by have:=(H.ne_x r).2.2;omega⟩
    .simp at r
     subst r
     exact .inr ⟨rfl,hblk,hm⟩)
  (by
    rw [List.map_append,List.nodup_append]
    refine ⟨H.nd,by simp,fun a ha b' hb' e=>?_⟩
    obtain ⟨y,hy,rfl⟩:=List.mem_map.1 ha
    simp at hb'
    have:=(H.ne_x hy).2.2
    omega)
  (by rw [e1,List.map_append];refine (H.pm.append_right _).trans (List.Perm.of_eq ?_);simp [hn])
 exact ⟨_,⟨_,_,_,_,_,_,by simp,HI,Q'⟩,hF,hE⟩
end
theorem prb_top {w w':World} {p bm pw B:Nat} {c:Conf} {last:Int} {l:List Par} {v:Value} (h:PrB w B l v) (hB:B<=w.heap.size) (ht:Blk w p 85 (tabA c last bm pw)) (hf:Fr (fun k=>k=p) w w'):PrB w' B l v:=by
 obtain ⟨A,k,e,h1,h2,h3,h4⟩:=h
 refine ⟨A,k,e,h1,h2,h3,fun hn=>?_⟩
 obtain ⟨gb,off,e2,hlt,hc⟩:=h4 hn
 have hne:gb≠p:=by
  rintro rfl
  obtain ⟨q,r,rfl⟩:∃ q r,l=q::r:=by
   cases l with
   | nil=>simp at hn
   | cons q r=>exact ⟨q,r,rfl⟩
  have c0:=hc 0 (.string (str q.name)) rfl
  have c1:=hc 1 (.string (str q.value)) rfl
  rw [ht.cell] at c0 c1
  unfold tabA at c0 c1
  rcases off with _|_|_|_|_|_|_|_|_|_|off
  all_goals simp at c0 c1
 refine ⟨gb,off,e2,hlt,fun j u hj=>?_⟩
 rw [hf.cell (p:=⟨gb,off+j,none⟩) (by show gb<_;omega) hne]
 exact hc j u hj
def newB (last:Int) (r:ReqP) (who watcher:T) (state:Int) (d:Dlg):SubP:=⟨last+1,who,watcher,r.ev,state,[],0,d⟩
theorem newB_z {r:ReqP} {tag who watcher:T} {last state:Int} {d:Dlg} (hz:ReqZ r) (h:(begR r tag).dlg=some d):SubZ (newB last r who watcher state d):=by
 rcases beg_ways r tag with ⟨_,h9⟩|⟨_,_,h9⟩|⟨_,_,_,h9⟩|⟨_,_,_,_,h9⟩|⟨_,_,ht,k,hk,h9⟩
 .rw [h9] at h;cases h
 .rw [h9] at h;cases h
 .rw [h9] at h;cases h
 .rw [h9] at h;cases h
 .have hkk:=hz.co k (by rw [hk];simp)
  have hlen:tag.length<=64:=by
   unfold tokB at ht
   simp only [Bool.and_eq_true,decide_eq_true_eq] at ht
   exact ht.1.2
  have hge:r.to_.params.length+1<=2000000/\checkE r.to_.uri=checkE r.to_.uri:=by
   by_cases he:addrE (tagged r.to_ tag)=0
   .refine ⟨?_,rfl⟩
    rcases addr_ways (tagged r.to_ tag) with ⟨_,q⟩|⟨_,_,q⟩|⟨_,_,q1,q⟩|⟨_,_,_,q⟩
    .rw [q] at he;cases he
    .rw [q] at he;cases he
    .rw [q] at he;exact absurd he q1
    .rw [q] at he
     unfold textE at he
     have e9:(tagged r.to_ tag).params.length=r.to_.params.length+1:=by show (r.to_.params++[_]).length=_;simp
     by_cases h16:16<(tagged r.to_ tag).params.length
     .rw [if_pos h16] at he;cases he
     .omega
   .rw [if_pos he] at h9
    rw [h9] at h;cases h
  have e9:d=⟨r.callid,tagged r.to_ tag,r.from_,k.uri,r.routes,r.seq,0⟩:=by
   by_cases he:addrE (tagged r.to_ tag)=0
   .rw [if_neg (by simp [he])] at h9
    rw [h9] at h
    injection h with h
    exact h.symm
   .rw [if_pos he] at h9
    rw [h9] at h;cases h
  subst e9
  refine ⟨hz.ev,hz.to_.p,hz.to_.h,?_,hz.from_.p,hz.from_.h,hz.from_.a,hkk.1,hkk.2,hz.ro,hz.evP,?_,hz.fromP⟩
  .show (r.to_.params++[(⟨tagN,tag,true⟩:Par)]).length<=2000000
   rw [List.length_append]
   simp only [List.length_cons,List.length_nil]
   omega
  .show ∀ p∈r.to_.params++[(⟨tagN,tag,true⟩:Par)],parS p
   intro p hp
   rcases List.mem_append.1 hp with q|q
   .exact (hz.toZ.p p q).s
   .simp at q
    subst q
    exact ⟨by show (3:Nat)<=_;omega,by show tag.length<=_;omega⟩
structure BgM (w w8:World) (p bm pw gs rb:Nat) (c:Conf) (last:Int) (s:SubP) (v:SlV) (l:List TM) (FW FW':Nat->Prop) (km:List (Int × Value)):Prop where
 top:Blk w8 p 85 (tabA c last bm pw)
 mm:MapIs w8 bm intKey km
 mb:Born w8 bm
 wh:Wh w8 pw l FW'
 blk:Blk w8 gs 39 (subA s v)
 sub:SubM w8 s v
 res:Blk w8 rb 39 sub0
 fr:Fr (fun k=>k=p\/k=bm\/k=gs\/FW k) w w8
 ext:Ext FW FW' w
 hg:w.heap.size<=gs
 hr:w.heap.size<=rb
 ne:rb≠gs
 fm:¬FW' bm
theorem wh_keep {w:World} {pw:Nat} {l:List TM} {FW:Nat->Prop} (h:Wh w pw l FW):KeepP FW w:=fun b ds T fr hb hT=>by
 rcases hT with rfl|rfl
 .exact h.notT hb (by decide) (by decide) (by decide)
 .exact h.notT hb (by decide) (by decide) (by decide)
section
variable {w w8 w9:World} {p bm pw gs rb:Nat} {c:Conf} {last:Int} {s s':SubP} {v:SlV} {l l':List TM} {FW FW':Nat->Prop} {km:List (Int × Value)}
theorem BgM.put (H:BgM w w8 p bm pw gs rb c last s v l FW FW' km) (k:Int):∃ w9,(Instr.mapUpdate 82 (.map (some bm)) (.int .i64 k) (.pointer (some ⟨gs,0,none⟩))).run Tryz.prog w8.drew=.ok () w9/\BgM w w9 p bm pw gs rb c last s v l FW FW' (mput k (ptr gs) km):=by
 obtain ⟨w9,hu,hm,hf⟩:=(H.mm.drewN 1).update (intLaw Tryz.underlying3) Tryz.underlying82 k (ptr gs)
 have hb:=(H.mb.drewN 1).update (H.mm.drewN 1) (intLaw Tryz.underlying3) Tryz.underlying82 k (ptr gs) hu
 have f:Fr (fun k=>k=bm) w8 w9:=⟨hf.os,hf.tape,hf.output,hf.size,hf.block⟩
 have hk:KeepP (fun k=>k=bm) w8:=fun b ds T fr hb' hT e=>by
  subst e
  obtain ⟨es,c,h,_⟩:=H.mm
  have h9:=hb'.symm.trans h
  cases h9
 exact ⟨w9,hu,H.top.fr f (H.mm.ne H.top).symm,hm,hb,H.wh.fr f (fun k hk e=>H.fm (e▸hk)),H.blk.fr f (H.mm.ne H.blk).symm,H.sub.fr f hk,H.res.fr f (H.mm.ne H.res).symm,H.fr.trans f (fun k _ e=>.inr (.inl e)),H.ext,H.hg,H.hr,H.ne,H.fm⟩
theorem BgM.turn (H:BgM w w8 p bm pw gs rb c last s v l FW FW km) (hm:∀ W,SubM W s v->SubM W s' v) (ht:TurnS w8 w9 gs pw s' v l' FW):∃ FW',BgM w w9 p bm pw gs rb c last s' v l' FW FW' km:=by
 obtain ⟨FW',hk,hw,hf,hx⟩:=ht.ex
 have hgp:gs≠p:=H.blk.ne_ H.top (by decide)
 have hgm:bm≠gs:=H.mm.ne H.blk
 have hpm:bm≠p:=H.mm.ne H.top
 have np:¬(p=gs\/FW p):=by rintro (e|e);exact hgp e.symm;exact H.wh.notT H.top (by decide) (by decide) (by decide) e
 have nm:¬(bm=gs\/FW bm):=by rintro (e|e);exact hgm e;exact H.fm e
 have nr:¬(rb=gs\/FW rb):=by rintro (e|e);exact H.ne e;exact H.wh.notT H.res (by decide) (by decide) (by decide) e
 have kp:KeepP (fun k=>k=gs\/FW k) w8:=fun b ds T fr hb hT e=>by
  rcases e with e|e
  .exact keepP_blk H.blk (by decide) (by decide) b ds T fr hb hT e
  .exact wh_keep H.wh b ds T fr hb hT e
 have hs:=H.fr.size
 refine ⟨FW',H.top.fr hf np,H.mm.fr hf nm,H.mb.fr hf nm,hw,hk,(hm _ H.sub).fr hf kp,H.res.fr hf nr,H.fr.trans hf (fun k _ e=>e.elim (fun e=>.inr (.inr (.inl e))) (fun e=>.inr (.inr (.inr e)))),fun k hk=>(hx k hk).elim .inl (fun q=>.inr (by omega)),H.hg,H.hr,H.ne,fun h=>?_⟩
 rcases hx _ h with q|q
 .exact H.fm q
 .have:=H.mm.lt;omega
theorem BgM.fr_ (H:BgM w w8 p bm pw gs rb c last s v l FW FW' km) {w9 w10:World} (hb:Below w8.heap.size w8 w9) (hf:Fr (fun k=>k=rb) w9 w10):Fr (fun k=>k=rb) w8 w10 :=
 (Fr.of_below (F:=fun k=>k=rb) hb).trans hf (fun k _ e=>e)
end
theorem bgm_make {w w0 w4 w5 u6 w7 w8:World} {p bm pw:Nat} {c:Conf} {last:Int} {xs:List XS} {l:List TM} {F FW:Nat->Prop} {km:List (Int × Value)} {r:ReqP} {who watcher:T} {state:Int} {d:Dlg} {v1:SlV} {X:Value} {cs:Array Value}
 (H:SbI w p c last xs l F bm pw km FW) (hb0:Below w.heap.size w w0) (H4:SbI w4 p c last xs l F bm pw km FW) (hb4:Below w0.heap.size w0 w4) (hf5:Fr (fun k=>k=p) w4 w5) (ht5:Blk w5 p 85 (tabA c (last+1) bm pw))
 (hb6:Below w5.heap.size w5 u6) (hb7:Below u6.heap.size u6 w7) (hk7:Blk w7 w5.heap.size 39 cs) (hf8:Fr (fun k=>k=w5.heap.size) w7 w8)
 (hk8:Blk w8 w5.heap.size 39 (subA (newB last r who watcher state d) ⟨X,v1.lp,v1.lh,v1.la,v1.rp,v1.rh,v1.ra,v1.tp,v1.th,v1.ro⟩)) (hr:Blk w5 (w.heap.size+1) 39 sub0) (hm7:PrM w7 r.ev.params X) (hm4:DlgM w4 d v1) :
 BgM w w8 p bm pw w5.heap.size (w.heap.size+1) c (last+1) (newB last r who watcher state d) ⟨X,v1.lp,v1.lh,v1.la,v1.rp,v1.rh,v1.ra,v1.tp,v1.th,v1.ro⟩ l FW FW km:=by
 have s0:=hb0.size
 have s4:=hb4.size
 have s5:=hf5.size
 have f58:Fr (fun k=>k=w5.heap.size) w5 w8:=((Fr.of_below (F:=fun k=>k=w5.heap.size) hb6).trans (Fr.of_below (F:=fun k=>k=w5.heap.size) hb7) (fun k _ e=>e)).trans hf8 (fun k _ e=>e)
 have f48:Fr (fun k=>k=p) w4 w8:=hf5.trans f58 (fun k hk e=>by omega)
 have f08:Fr (fun k=>k=p) w w8:=((Fr.of_below (F:=fun k=>k=p) hb0).trans (Fr.of_below (F:=fun k=>k=p) hb4) (fun k _ e=>e)).trans f48 (fun k _ e=>e)
 have kp:=keepP_blk H4.top (by decide) (by decide)
 have m8:=hm4.fr f48 kp
 have hplt:=H4.top.lt
 exact ⟨ht5.fr f58 (by omega),H4.mm.fr f48 (fun e=>H4.ne_pm e.symm),H4.mb.fr f48 (fun e=>H4.ne_pm e.symm),H4.wh.fr f48 (fun k hk e=>H4.fwp (e▸hk)),hk8,
  ⟨hm7.fr hf8 (keepP_blk hk7 (by decide) (by decide)),m8.loc.p,m8.loc.h,m8.loc.a,m8.rem.p,m8.rem.h,m8.rem.a,m8.tp,m8.th,m8.ro⟩,hr.fr f58 (by have:=hr.lt;omega),f08.mono (fun k _ e=>.inl e),fun k hk=>.inl hk,by omega,by omega,by have:=hr.lt;omega,H4.fm⟩
theorem sbeg_fin {w w8 w9 w10:World} {p bm pw gs:Nat} {c:Conf} {last now n:Int} {xs:List XS} {r:ReqP} {who watcher:T} {state:Int} {d:Dlg} {v v':SlV} {l:List TM} {F FW FW':Nat->Prop} {km:List (Int × Value)} {R:SbR}
 (H:SbI w p c last xs l F bm pw km FW) (Q:SbQ c last (xs.map (·.s)) l) (hlen:((xs.map (·.s)).length:Int)<c.subs) (hz:SubZ (newB last r who watcher state d)) (ho:state≠2) (h1:0<=now) (h2:now<=549755813888) (h3:0<=n) (h4:n<=2147483647)
 (G:BgM w w8 p bm pw gs (w.heap.size+1) c (last+1) (lastsS (newB last r who watcher state d) now n) v (lastsT l (last+1) now n) FW FW' (mput (last+1) (ptr gs) km))
 (hb:Below w8.heap.size w8 w9) (hf:Fr (fun k=>k=w.heap.size+1) w9 w10) (hk9:Blk w9 (w.heap.size+1) 39 sub0) (hm:SubM w9 (lastsS (newB last r who watcher state d) now n) v')
 (hR:R=⟨last+1,xs.map (·.s)++[newS last r who watcher state d now n],newS last r who watcher state d now n,0⟩) :
 SubTo p c R F w (.returned (.tuple #[.agg (subA (lastsS (newB last r who watcher state d) now n) v'),.int .i64 0])) w10:=by
 subst hR
 have f:=G.fr_ hb hf
 have hk:=keepP_blk hk9 (by decide) (by decide)
 have hk8:=keepP_blk G.res (by decide) (by decide)
 have hpr:p≠w.heap.size+1:=by have:=H.top.lt;omega
 have hmr:bm≠w.heap.size+1:=by have:=H.mm.lt;omega
 have hFr:∀ k,FW' k->¬k=w.heap.size+1:=fun k hk e=>by
  subst e
  exact G.wh.notT G.res (by decide) (by decide) (by decide) hk
 refine ⟨v',rfl,hm.fr hf hk,sbegin_end H Q (b:=gs) (v:=v) (lasts_num _ _ _) (Q.appN (s:=newB last r who watcher state d) rfl hlen hz ho h1 h2 h3 h4) G.hg (G.fr.trans f (fun k hk e=>by omega)) (G.top.fr f hpr) (G.mm.fr f hmr) (G.mb.fr f hmr) (G.wh.fr f hFr) G.ext (G.blk.fr f (fun e=>G.ne e.symm)) (G.sub.fr f hk8)⟩
set_option maxRecDepth 100000 in
set_option maxHeartbeats 16000000 in
theorem sbegin_yes {w:World} {p:Nat} {c:Conf} {last now state:Int} {L:List SubP} {F:Nat->Prop} {r:ReqP} {q:RqV} {B:Nat} {who watcher tag:T} (H:Sb w p c last L F) (hlast:last<=2000000) (hB:B<=w.heap.size) (hr:ReqB w B r q) (hz:ReqZ r) (ht:tag.length<=9223372036854775807)
 (hno:(begS c last L now r who watcher state tag).err=0) :
 Calls Tryz.prog 12 #[.pointer (some ⟨p,0,none⟩),.int .i64 now,.agg (reqA r q),.string (str who),.string (str watcher),.int .i64 state,.string (str tag)] w (SubTo p c (begS c last L now r who watcher state tag) F w):=by
 obtain ⟨w0,hw0⟩:∃ w0,(w.alloc (.cells (reqA r q) 45)).alloc (.cells sub0 39)=w0:=⟨_,rfl⟩
 have hb0:Below w.heap.size w w0:=hw0▸((Below.refl _ _).alloc (Nat.le_refl _) _).alloc (by simp) _
 have hka:Blk w0 w.heap.size 45 (reqA r q):=hw0▸(Blk.new w _ _).alloc _
 have hkb:Blk w0 (w.heap.size+1) 39 sub0:=hw0▸Blk.new' _ _ _ (by simp)
 have H0:=H
 have HW:=hid (begS_ways c last L now r who watcher state tag)
 obtain ⟨xs,l,bm,pw,km,FW,rfl,H0,Q⟩:=H0
 have HI:=hid H0
 have HQ:=hid Q
 have H0:=H0.below hb0
 have hm:=hid (smade_any (pw:=pw) H0.top)
 have HTK:Hid (∀ W,Calls Tryz.prog 34 #[.int .i64 now] W fun e w'=>e=.returned (.bool (tickB now))/\W=w'):=hid (fun W=>tick_any now W)
 have HBG:=hid (Begin_any (r:=r) (tag:=tag) (v:=q) (w:=w0) (Nat.le_trans hB hb0.size) (hr.below (hb0.mono hB)) hz ht)
 have HSEC:Hid (∀ W,Calls Tryz.prog 36 #[.agg #[.string (str c.host),.int .i64 c.calls,.int .i64 c.pubs,.int .i64 c.subs,.int .i64 c.least,.int .i64 c.most,.int .i64 c.usual],.int .i64 r.exp] W fun e w'=>e=.returned (.tuple #[.int .i64 (secN c r.exp),.bool (secK c r.exp)])/\Below W.heap.size W w'):=hid (fun W=>seconds_any c r.exp W)
 have HKA:=hid hka
 have HKB:=hid hkb
 have HB0:=hid hb0
 have HTB:=hid H0
 have HNO:=hid hno
 have HZ:=hid hz
 have HPE:=hid (hr.ev.below (hb0.mono hB))
 have HBB:=hid (Nat.le_trans hB hb0.size)
 have hqev:∃ A c,q.ev=.slice A r.ev.params.length c:=by obtain ⟨A,c,e,_⟩:=hr.ev;exact ⟨A,c,e⟩
 have HQE:=hid hqev
 have HLA:=hid hlast
 unfold BegPost at HBG
 clear hb0 hka hkb H H0 hB hr hz ht Q hno hqev hlast
 unfold sub0 at hw0
 go_enter Tryz.func12,Tryz.ntmps12
 go_upto_region 1 with (fail)
 try rw [hw0]
 clear hw0
 generalize hq0:Value.agg (reqA r q)=q0
 rw [hq0] at HBG
 rcases HW.out with ⟨_,hx⟩|⟨_,_,_,hx⟩|⟨_,_,h3,hx⟩|⟨_,_,_,_,hx⟩|⟨_,_,_,_,_,hx⟩|⟨h1,h2,h3,h4,h5,d,hd,hx⟩
 .exact absurd HNO.out (by rw [hx];show (1:Int)≠0;decide)
 .exact absurd HNO.out (by rw [hx];show (1:Int)≠0;decide)
 .exact absurd HNO.out (by rw [hx];exact h3)
 .exact absurd HNO.out (by rw [hx];show (161:Int)≠0;decide)
 .exact absurd HNO.out (by rw [hx];show (5:Int)≠0;decide)
 have HE:=hid hx
 rw [h1] at HTK
 have htk:0<=now/\now<=549755813888:=by
  unfold tickB at h1
  simp only [Bool.and_eq_true,decide_eq_true_eq] at h1
  exact h1
 have HTI:=hid htk
 have hst:state≠2:=by omega
 have HST:=hid hst
 have HD:=hid hd
 have hde:(begR r tag).dlg.getD noDlg=d:=by rw [hd];rfl
 rw [hde,h3] at HBG
 have HSN:=hid (sec_lo HQ.out.right r.exp)
 have HSU:=hid HQ.out.subs
 rw [h4] at HSEC
 generalize hN:secN c r.exp=N at *
 have h5':¬((xs.length:Int)>=c.subs):=by simp only [List.length_map] at h5;omega
 have HF5:=hid h5'
 have HLN:=hid h5
 have hway:(state != 0)=false\/((state != 0)=true/\(state != 1)=false):=by
  rcases h2 with h|h <;> subst h <;> simp
 have HZB:=hid (newB_z (last:=last) (who:=who) (watcher:=watcher) (state:=state) HZ.out hd)
 clear hx h1 h2 h3 h4 h5 h5' htk hst hd hde hN
 rcases hway with d1|⟨d1,d2⟩
 .go_upto_region 6 with (first|(go_at_call 33;refine (hm.out).mono ?_;rintro e w' ⟨rfl,rfl⟩)|(go_at_call 34;refine (HTK.out _).mono ?_;rintro e w' ⟨rfl,rfl⟩)|(refine wpl_load rfl 45 (.tmp 9) rfl w.heap.size 0 rfl HKA.out (reqA r q).toList rfl _ Tryz.underlying45 rfl (by kernel_rfl) ?_)|(go_at_call 35;refine (HBG.out).mono ?_;rintro e w1 ⟨v1,rfl,m1,hb1⟩;have HM1:=hid m1;have HB1:=hid hb1;clear hb1 m1)|(refine wpl_store rfl 37 (.tmp 16) (.tmp 43) rfl w1.heap.size 0 rfl (dlgA d v1) rfl (Blk.new w1 37 dlg0) (Nat.le_refl 26) (dlgA d v1) rfl (by kernel_rfl) (dlgA_one HM1.out.one) ?_;intro w2 hk2 hf2))
  have HB2:Hid (Below w0.heap.size w0 w2):=hid (HB1.out.trans ((below_upfr ((Below.refl w1.heap.size w1).alloc (Nat.le_refl _) _) (Nat.le_refl _) hf2 (fun k e=>by omega)).mono HB1.out.size))
  have HGD:Hid (w0.heap.size<=w1.heap.size):=hid HB1.out.size
  have HM2:=hid (HM1.out.below (below_upfr ((Below.refl w1.heap.size w1).alloc (Nat.le_refl _) _) (Nat.le_refl _) hf2 (fun k e=>by omega)))
  have HK2:=hid hk2
  clear hk2 hf2 HM1
  have HS:Hid (∀ W,Below w2.heap.size w2 W->W.cell? ⟨p,0,none⟩=some (.string (str c.host))/\W.cell? ⟨p,1,none⟩=some (.int .i64 c.calls)/\W.cell? ⟨p,2,none⟩=some (.int .i64 c.pubs)/\W.cell? ⟨p,3,none⟩=some (.int .i64 c.subs)/\W.cell? ⟨p,4,none⟩=some (.int .i64 c.least)/\W.cell? ⟨p,5,none⟩=some (.int .i64 c.most)/\W.cell? ⟨p,6,none⟩=some (.int .i64 c.usual)/\W.cell? ⟨w.heap.size,29,none⟩=some (.int .i64 r.exp)):=hid (fun W hW=>by
   have k1:=(HTB.out.below (HB2.out.trans (hW.mono HB2.out.size))).top
   have k2:=HKA.out.fr (Fr.of_below (F:=fun _=>False) (HB2.out.trans (hW.mono HB2.out.size))) (fun h=>h)
   exact ⟨k1.cell 0,k1.cell 1,k1.cell 2,k1.cell 3,k1.cell 4,k1.cell 5,k1.cell 6,k2.cell 29⟩)
  have HX0:Hid (Below w2.heap.size w2 w2.drew):=hid (Below.refl _ _).drew
  refine wp_region_noPanic (rgn HS.out HX0.out fun hHeld=>?_)
  refine tk 0 ?_
  refine tk 1 ?_
  refine tk 2 ?_
  refine tk 3 ?_
  refine tk 4 ?_
  refine tk 5 ?_
  refine rd1 6 fun K hK=>?_
  go_simp
  refine (HSEC.out _).mono ?_
  rintro e w3 ⟨rfl,hb3⟩
  have HX3:Hid (Below w2.heap.size w2 w3):=hid (thenB_ HX0.out hb3)
  clear hb3
  go_wp2_with fail
  refine bk hK (HS.out _ HX3.out) fun hHeld=>?_
  clear hK K
  refine tk 7 ?_
  refine tk 8 ?_
  refine tk 9 ?_
  refine tk 10 ?_
  refine tk 11 ?_
  refine dn9 (NoPanic.normal ?_)
  clear hHeld
  have HBX:=hid (HB2.out.trans (HX3.out.mono HB2.out.size))
  have hlen:∀ n,(Builtin.len_ #[82] 3 #[.map (some bm)]).run Tryz.prog (w3.drewN n)=.ok (.int .i64 xs.length) (w3.drewN n):=fun n=>by
   have h9:=((HTB.out.below HBX.out).mm.drewN n).len Tryz.underlying82 (ty:=3)
   rw [HTB.out.lenm] at h9
   exact h9
  have y8:w3.cell? ⟨p,8,none⟩=some (.map (some bm)):=(HTB.out.below HBX.out).top.cell 8
  have y3:w3.cell? ⟨p,3,none⟩=some (.int .i64 c.subs):=(HTB.out.below HBX.out).top.cell 3
  have hge:=HF5.out
  go_wp2_with fail
  go_quiet (fail)
  clear hlen y8 y3
  have HB3:=hid (below_drewN HBX.out nq)
  have HB3':Hid (Below w2.heap.size w2 (w3.drewN nq)):=hid (below_drewN HX3.out nq)
  obtain ⟨w4,hw4⟩:∃ w4,w3.drewN nq=w4:=⟨_,rfl⟩
  rw [hw4] at HB3 HB3' ⊢
  clear hw4 HX3 HBX HS HX0
  have HT4:=hid (HTB.out.below HB3.out)
  have HK4:=hid (HK2.out.fr (Fr.of_below (F:=fun _=>False) HB3'.out) (fun h=>h))
  have HM4:=hid (HM2.out.below HB3'.out)
  have i7:w4.cell? ⟨p,7,none⟩=some (.int .i64 last):=HT4.out.top.cell 7
  have z7:=HT4.out.top.frozen 7
  have hwr:IntKind.i64.wrap (last+1)=last+1:=IntWalk.i64_in _ (by have:=HLA.out;have:=HQ.out.last;omega)
  go_upto_region 14 with (fail)
  have hf5:Fr (fun k=>k=p) w4 (w4.setCell ⟨p,7,none⟩ (.int .i64 (last+1))):=(Fr.refl (fun k=>k=p) w4).set (p:=⟨p,7,none⟩) (fun _=>rfl) _
  have ht5:Blk (w4.setCell ⟨p,7,none⟩ (.int .i64 (last+1))) p 85 (tabA c (last+1) bm pw):=HT4.out.top.set_ 7 _
  obtain ⟨w5,hw5⟩:∃ w5,w4.setCell ⟨p,7,none⟩ (.int .i64 (last+1))=w5:=⟨_,rfl⟩
  rw [hw5] at hf5 ht5 ⊢
  clear hw5
  have hA4:=HKA.out.fr (Fr.of_below (F:=fun _=>False) HB3.out) (fun h=>h)
  have hB4:=HKB.out.fr (Fr.of_below (F:=fun _=>False) HB3.out) (fun h=>h)
  have HA5:=hid (hA4.fr hf5 (hA4.ne_ HT4.out.top (by decide)))
  have HD5:=hid (HK4.out.fr hf5 (HK4.out.ne_ HT4.out.top (by decide)))
  have HR5:=hid (hB4.fr hf5 (hB4.ne_ HT4.out.top (by decide)))
  have HT5:=hid ht5
  have HF5':=hid hf5
  clear hf5 ht5 hA4 hB4 i7 z7 hwr d1
  refine wp_region_noPanic ?_
  have HS:Hid (∀ W,Below w5.heap.size w5 W->W.cell? ⟨p,7,none⟩=some (.int .i64 (last+1))/\W.rangeAt w.heap.size 30 [.string (str r.ev.name),q.ev]/\W.rangeAt w1.heap.size 0 [.string (str d.callid),.string (str d.loc.display),.string (str d.loc.uri.scheme),.string (str d.loc.uri.user),.string (str d.loc.uri.host),.int .i64 d.loc.uri.port,v1.lp,v1.lh,v1.la,.string (str d.rem.display),.string (str d.rem.uri.scheme),.string (str d.rem.uri.user),.string (str d.rem.uri.host),.int .i64 d.rem.uri.port,v1.rp,v1.rh,v1.ra,.string (str d.tgt.scheme),.string (str d.tgt.user),.string (str d.tgt.host),.int .i64 d.tgt.port,v1.tp,v1.th,v1.ro,.int .i64 d.lastIn,.int .i64 d.lastOut]):=hid (fun W hW=>⟨(HT5.out.fr (Fr.of_below (F:=fun _=>False) hW) (fun h=>h)).cell 7,blk_range (off:=30) (HA5.out.fr (Fr.of_below (F:=fun _=>False) hW) (fun h=>h)) rfl,blk_range (off:=0) (HD5.out.fr (Fr.of_below (F:=fun _=>False) hW) (fun h=>h)) rfl⟩)
  refine wp_region_held_drew (S:=fun W=>W.cell? ⟨p,7,none⟩=some (.int .i64 (last+1))/\W.rangeAt w.heap.size 30 [.string (str r.ev.name),q.ev]/\W.rangeAt w1.heap.size 0 [.string (str d.callid),.string (str d.loc.display),.string (str d.loc.uri.scheme),.string (str d.loc.uri.user),.string (str d.loc.uri.host),.int .i64 d.loc.uri.port,v1.lp,v1.lh,v1.la,.string (str d.rem.display),.string (str d.rem.uri.scheme),.string (str d.rem.uri.user),.string (str d.rem.uri.host),.int .i64 d.rem.uri.port,v1.rp,v1.rh,v1.ra,.string (str d.tgt.scheme),.string (str d.tgt.user),.string (str d.tgt.host),.int .i64 d.tgt.port,v1.tp,v1.th,v1.ro,.int .i64 d.lastIn,.int .i64 d.lastOut]) (by kernel_rfl) (HS.out _ (Below.refl _ _).drew) (fun hHeld=>?_)
  refine tk 0 ?_
  refine tk 1 ?_
  refine tk 2 ?_
  refine tk 3 ?_
  refine tk 4 ?_
  refine tk 5 ?_
  refine tk 6 ?_
  refine tkm 7 ([.string (str r.ev.name),q.ev]).toArray w.heap.size 30 (fun wq hSw=>hSw.2.1) Tryz.underlying30 ?_
  refine tk 8 ?_
  refine tkm 9 ([.string (str d.callid),.string (str d.loc.display),.string (str d.loc.uri.scheme),.string (str d.loc.uri.user),.string (str d.loc.uri.host),.int .i64 d.loc.uri.port,v1.lp,v1.lh,v1.la,.string (str d.rem.display),.string (str d.rem.uri.scheme),.string (str d.rem.uri.user),.string (str d.rem.uri.host),.int .i64 d.rem.uri.port,v1.rp,v1.rh,v1.ra,.string (str d.tgt.scheme),.string (str d.tgt.user),.string (str d.tgt.host),.int .i64 d.tgt.port,v1.tp,v1.th,v1.ro,.int .i64 d.lastIn,.int .i64 d.lastOut]).toArray w1.heap.size 0 (fun wq hSw=>hSw.2.2) Tryz.underlying37 ?_
  refine tk 10 ?_
  refine rd1 11 fun K hK=>?_
  go_simp
  have hk6:Blk ((w5.alloc (.cells #[.int .i64 (last+1),.string (str who),.string (str watcher),.string (str r.ev.name),q.ev,.int .i64 state,.string ⟨#[]⟩,.int .i64 0,.string (str d.callid),.string (str d.loc.display),.string (str d.loc.uri.scheme),.string (str d.loc.uri.user),.string (str d.loc.uri.host),.int .i64 d.loc.uri.port,v1.lp,v1.lh,v1.la,.string (str d.rem.display),.string (str d.rem.uri.scheme),.string (str d.rem.uri.user),.string (str d.rem.uri.host),.int .i64 d.rem.uri.port,v1.rp,v1.rh,v1.ra,.string (str d.tgt.scheme),.string (str d.tgt.user),.string (str d.tgt.host),.int .i64 d.tgt.port,v1.tp,v1.th,v1.ro,.int .i64 d.lastIn,.int .i64 d.lastOut] 39)).drew) w5.heap.size 39 (subA (newB last r who watcher state d) ⟨q.ev,v1.lp,v1.lh,v1.la,v1.rp,v1.rh,v1.ra,v1.tp,v1.th,v1.ro⟩):=(Blk.new w5 _ _).drewN 1
  have hb6:Below w5.heap.size w5 ((w5.alloc (.cells #[.int .i64 (last+1),.string (str who),.string (str watcher),.string (str r.ev.name),q.ev,.int .i64 state,.string ⟨#[]⟩,.int .i64 0,.string (str d.callid),.string (str d.loc.display),.string (str d.loc.uri.scheme),.string (str d.loc.uri.user),.string (str d.loc.uri.host),.int .i64 d.loc.uri.port,v1.lp,v1.lh,v1.la,.string (str d.rem.display),.string (str d.rem.uri.scheme),.string (str d.rem.uri.user),.string (str d.rem.uri.host),.int .i64 d.rem.uri.port,v1.rp,v1.rh,v1.ra,.string (str d.tgt.scheme),.string (str d.tgt.user),.string (str d.tgt.host),.int .i64 d.tgt.port,v1.tp,v1.th,v1.ro,.int .i64 d.lastIn,.int .i64 d.lastOut] 39)).drew):=((Below.refl _ _).alloc (Nat.le_refl _) _).drew
  obtain ⟨u6,hu⟩:∃ u,(w5.alloc (.cells #[.int .i64 (last+1),.string (str who),.string (str watcher),.string (str r.ev.name),q.ev,.int .i64 state,.string ⟨#[]⟩,.int .i64 0,.string (str d.callid),.string (str d.loc.display),.string (str d.loc.uri.scheme),.string (str d.loc.uri.user),.string (str d.loc.uri.host),.int .i64 d.loc.uri.port,v1.lp,v1.lh,v1.la,.string (str d.rem.display),.string (str d.rem.uri.scheme),.string (str d.rem.uri.user),.string (str d.rem.uri.host),.int .i64 d.rem.uri.port,v1.rp,v1.rh,v1.ra,.string (str d.tgt.scheme),.string (str d.tgt.user),.string (str d.tgt.host),.int .i64 d.tgt.port,v1.tp,v1.th,v1.ro,.int .i64 d.lastIn,.int .i64 d.lastOut] 39)).drew=u:=⟨_,rfl⟩
  rw [hu] at hk6 hb6 ⊢
  clear hu
  have HB6:=hid hb6
  have HK6:=hid hk6
  refine hK.out _ _ (HS.out _ HB6.out) (fun hHeld=>?_)
  clear hK K hk6 hb6
  try simp only [Act.put,List.setIfInBounds_toArray,List.set_cons_zero,List.set_cons_succ]
  refine tk 12 ?_
  refine dn9 (NoPanic.normal ?_)
  clear hHeld HS
  have i31:u6.cell? ⟨w.heap.size,31,none⟩=some q.ev:=(HA5.out.fr (Fr.of_below (F:=fun _=>False) HB6.out) (fun h=>h)).cell 31
  have HS4:=hid HB3.out.size
  have HS5:=hid HF5'.out.size
  have HP6:Hid (PrB u6 B r.ev.params q.ev):=hid ((prb_top (HPE.out.below (HB3.out.mono HBB.out)) (Nat.le_trans HBB.out HS4.out) HT4.out.top HF5'.out).below (HB6.out.mono (Nat.le_trans HBB.out (Nat.le_trans HS4.out HS5.out))))
  have HEV:=hid (clone_prm HP6.out (Nat.le_trans HBB.out (Nat.le_trans HS4.out (Nat.le_trans HS5.out HB6.out.size))) HZ.out.ev)
  obtain ⟨A0,c0,hq9⟩:=HQE.out
  rw [hq9] at i31 HEV
  go_upto_region 16 with (go_at_call 37;refine (HEV.out).mono ?_;rintro e w7 ⟨A7,c7,rfl,m7,hb7⟩;have HM7:=hid m7;have HB7:=hid hb7;have i4:w7.cell? ⟨w5.heap.size,4,none⟩=some q.ev:=(HK6.out.fr (Fr.of_below (F:=fun _=>False) hb7) (fun h=>h)).cell 4;have z4:w7.frozen? ⟨w5.heap.size,4,none⟩=false:=(HK6.out.fr (Fr.of_below (F:=fun _=>False) hb7) (fun h=>h)).frozen 4;clear m7 hb7)
  have hk7:=HK6.out.fr (Fr.of_below (F:=fun _=>False) HB7.out) (fun h=>h)
  have hf8:Fr (fun k=>k=w5.heap.size) w7 (w7.setCell ⟨w5.heap.size,4,none⟩ (.slice A7 r.ev.params.length c7)):=(Fr.refl (fun k=>k=w5.heap.size) w7).set (p:=⟨w5.heap.size,4,none⟩) (fun _=>rfl) _
  have hk8:Blk (w7.setCell ⟨w5.heap.size,4,none⟩ (.slice A7 r.ev.params.length c7)) w5.heap.size 39 (subA (newB last r who watcher state d) ⟨.slice A7 r.ev.params.length c7,v1.lp,v1.lh,v1.la,v1.rp,v1.rh,v1.ra,v1.tp,v1.th,v1.ro⟩):=hk7.set_ 4 _
  obtain ⟨w8,hw8⟩:∃ w8,w7.setCell ⟨w5.heap.size,4,none⟩ (.slice A7 r.ev.params.length c7)=w8:=⟨_,rfl⟩
  rw [hw8] at hf8 hk8 ⊢
  clear hw8
  have HG:=hid (bgm_make HI.out HB0.out HT4.out HB3.out HF5'.out HT5.out HB6.out HB7.out hk7 hf8 hk8 HR5.out HM7.out HM4.out)
  obtain ⟨w9,hu9,hg9⟩:=HG.out.put (last+1)
  have t8:w8.cell? ⟨p,8,none⟩=some (.map (some bm)):=HG.out.top.cell 8
  have n0:w8.cell? ⟨w5.heap.size,0,none⟩=some (.int .i64 (last+1)):=HG.out.blk.cell 0
  have HG9:=hid hg9
  have HLS:=hid (lasts_any (now:=now) (n:=N) HG9.out.top HG9.out.blk HG9.out.wh HTI.out.1 HTI.out.2 HSN.out.1 HSN.out.2)
  clear hk7 hf8 hk8 hg9 HM7 i4 z4 i31 hq9
  go_wp2_with fail
  go_still_tail 9,(by kernel_rfl)
  go_wp2_with fail
  refine (HLS.out).mono ?_
  rintro e w10 ⟨rfl,ht⟩
  obtain ⟨FW',hg10⟩:=HG9.out.turn (fun W h=>h.lasts now N) ht
  have HG10:=hid hg10
  have HCP:=hid (scopied_any HG10.out.blk HG10.out.sub (HZB.out.lasts now N))
  clear ht hg10
  go_wp2_with fail
  refine (HCP.out).mono ?_
  rintro e w11 ⟨v11,rfl,m11,hb11⟩
  have HM11:=hid m11
  have HB11:=hid hb11
  have HK11:=hid (HG10.out.res.fr (Fr.of_below (F:=fun _=>False) hb11) (fun h=>h))
  clear m11 hb11
  go_wp2_with (first|(refine wpl_store rfl 39 (.tmp 14) (.tmp 119) rfl (w.heap.size+1) 0 rfl (subA (lastsS (newB last r who watcher state d) now N) v11) rfl HK11.out (Nat.le_refl 34) (subA (lastsS (newB last r who watcher state d) now N) v11) rfl (by kernel_rfl) (subA_one HM11.out.ok.1 HM11.out.ok.2) ?_;intro wz hkz hfz))
  exact ret_cell2 rfl rfl rfl rfl hkz _ Tryz.underlying39 rfl (by kernel_rfl) (sbeg_fin HI.out HQ.out HLN.out HZB.out HST.out HTI.out.1 HTI.out.2 HSN.out.1 HSN.out.2 HG10.out HB11.out hfz HK11.out HM11.out HE.out)
 .go_upto_region 6 with (first|(go_at_call 33;refine (hm.out).mono ?_;rintro e w' ⟨rfl,rfl⟩)|(go_at_call 34;refine (HTK.out _).mono ?_;rintro e w' ⟨rfl,rfl⟩)|(refine wpl_load rfl 45 (.tmp 9) rfl w.heap.size 0 rfl HKA.out (reqA r q).toList rfl _ Tryz.underlying45 rfl (by kernel_rfl) ?_)|(go_at_call 35;refine (HBG.out).mono ?_;rintro e w1 ⟨v1,rfl,m1,hb1⟩;have HM1:=hid m1;have HB1:=hid hb1;clear hb1 m1)|(refine wpl_store rfl 37 (.tmp 16) (.tmp 43) rfl w1.heap.size 0 rfl (dlgA d v1) rfl (Blk.new w1 37 dlg0) (Nat.le_refl 26) (dlgA d v1) rfl (by kernel_rfl) (dlgA_one HM1.out.one) ?_;intro w2 hk2 hf2))
  have HB2:Hid (Below w0.heap.size w0 w2):=hid (HB1.out.trans ((below_upfr ((Below.refl w1.heap.size w1).alloc (Nat.le_refl _) _) (Nat.le_refl _) hf2 (fun k e=>by omega)).mono HB1.out.size))
  have HGD:Hid (w0.heap.size<=w1.heap.size):=hid HB1.out.size
  have HM2:=hid (HM1.out.below (below_upfr ((Below.refl w1.heap.size w1).alloc (Nat.le_refl _) _) (Nat.le_refl _) hf2 (fun k e=>by omega)))
  have HK2:=hid hk2
  clear hk2 hf2 HM1
  have HS:Hid (∀ W,Below w2.heap.size w2 W->W.cell? ⟨p,0,none⟩=some (.string (str c.host))/\W.cell? ⟨p,1,none⟩=some (.int .i64 c.calls)/\W.cell? ⟨p,2,none⟩=some (.int .i64 c.pubs)/\W.cell? ⟨p,3,none⟩=some (.int .i64 c.subs)/\W.cell? ⟨p,4,none⟩=some (.int .i64 c.least)/\W.cell? ⟨p,5,none⟩=some (.int .i64 c.most)/\W.cell? ⟨p,6,none⟩=some (.int .i64 c.usual)/\W.cell? ⟨w.heap.size,29,none⟩=some (.int .i64 r.exp)):=hid (fun W hW=>by
   have k1:=(HTB.out.below (HB2.out.trans (hW.mono HB2.out.size))).top
   have k2:=HKA.out.fr (Fr.of_below (F:=fun _=>False) (HB2.out.trans (hW.mono HB2.out.size))) (fun h=>h)
   exact ⟨k1.cell 0,k1.cell 1,k1.cell 2,k1.cell 3,k1.cell 4,k1.cell 5,k1.cell 6,k2.cell 29⟩)
  have HX0:Hid (Below w2.heap.size w2 w2.drew):=hid (Below.refl _ _).drew
  refine wp_region_noPanic (rgn HS.out HX0.out fun hHeld=>?_)
  refine tk 0 ?_
  refine tk 1 ?_
  refine tk 2 ?_
  refine tk 3 ?_
  refine tk 4 ?_
  refine tk 5 ?_
  refine rd1 6 fun K hK=>?_
  go_simp
  refine (HSEC.out _).mono ?_
  rintro e w3 ⟨rfl,hb3⟩
  have HX3:Hid (Below w2.heap.size w2 w3):=hid (thenB_ HX0.out hb3)
  clear hb3
  go_wp2_with fail
  refine bk hK (HS.out _ HX3.out) fun hHeld=>?_
  clear hK K
  refine tk 7 ?_
  refine tk 8 ?_
  refine tk 9 ?_
  refine tk 10 ?_
  refine tk 11 ?_
  refine dn9 (NoPanic.normal ?_)
  clear hHeld
  have HBX:=hid (HB2.out.trans (HX3.out.mono HB2.out.size))
  have hlen:∀ n,(Builtin.len_ #[82] 3 #[.map (some bm)]).run Tryz.prog (w3.drewN n)=.ok (.int .i64 xs.length) (w3.drewN n):=fun n=>by
   have h9:=((HTB.out.below HBX.out).mm.drewN n).len Tryz.underlying82 (ty:=3)
   rw [HTB.out.lenm] at h9
   exact h9
  have y8:w3.cell? ⟨p,8,none⟩=some (.map (some bm)):=(HTB.out.below HBX.out).top.cell 8
  have y3:w3.cell? ⟨p,3,none⟩=some (.int .i64 c.subs):=(HTB.out.below HBX.out).top.cell 3
  have hge:=HF5.out
  go_wp2_with fail
  go_quiet (fail)
  clear hlen y8 y3
  have HB3:=hid (below_drewN HBX.out nq)
  have HB3':Hid (Below w2.heap.size w2 (w3.drewN nq)):=hid (below_drewN HX3.out nq)
  obtain ⟨w4,hw4⟩:∃ w4,w3.drewN nq=w4:=⟨_,rfl⟩
  rw [hw4] at HB3 HB3' ⊢
  clear hw4 HX3 HBX HS HX0
  have HT4:=hid (HTB.out.below HB3.out)
  have HK4:=hid (HK2.out.fr (Fr.of_below (F:=fun _=>False) HB3'.out) (fun h=>h))
  have HM4:=hid (HM2.out.below HB3'.out)
  have i7:w4.cell? ⟨p,7,none⟩=some (.int .i64 last):=HT4.out.top.cell 7
  have z7:=HT4.out.top.frozen 7
  have hwr:IntKind.i64.wrap (last+1)=last+1:=IntWalk.i64_in _ (by have:=HLA.out;have:=HQ.out.last;omega)
  go_upto_region 14 with (fail)
  have hf5:Fr (fun k=>k=p) w4 (w4.setCell ⟨p,7,none⟩ (.int .i64 (last+1))):=(Fr.refl (fun k=>k=p) w4).set (p:=⟨p,7,none⟩) (fun _=>rfl) _
  have ht5:Blk (w4.setCell ⟨p,7,none⟩ (.int .i64 (last+1))) p 85 (tabA c (last+1) bm pw):=HT4.out.top.set_ 7 _
  obtain ⟨w5,hw5⟩:∃ w5,w4.setCell ⟨p,7,none⟩ (.int .i64 (last+1))=w5:=⟨_,rfl⟩
  rw [hw5] at hf5 ht5 ⊢
  clear hw5
  have hA4:=HKA.out.fr (Fr.of_below (F:=fun _=>False) HB3.out) (fun h=>h)
  have hB4:=HKB.out.fr (Fr.of_below (F:=fun _=>False) HB3.out) (fun h=>h)
  have HA5:=hid (hA4.fr hf5 (hA4.ne_ HT4.out.top (by decide)))
  have HD5:=hid (HK4.out.fr hf5 (HK4.out.ne_ HT4.out.top (by decide)))
  have HR5:=hid (hB4.fr hf5 (hB4.ne_ HT4.out.top (by decide)))
  have HT5:=hid ht5
  have HF5':=hid hf5
  clear hf5 ht5 hA4 hB4 i7 z7 hwr d1 d2
  refine wp_region_noPanic ?_
  have HS:Hid (∀ W,Below w5.heap.size w5 W->W.cell? ⟨p,7,none⟩=some (.int .i64 (last+1))/\W.rangeAt w.heap.size 30 [.string (str r.ev.name),q.ev]/\W.rangeAt w1.heap.size 0 [.string (str d.callid),.string (str d.loc.display),.string (str d.loc.uri.scheme),.string (str d.loc.uri.user),.string (str d.loc.uri.host),.int .i64 d.loc.uri.port,v1.lp,v1.lh,v1.la,.string (str d.rem.display),.string (str d.rem.uri.scheme),.string (str d.rem.uri.user),.string (str d.rem.uri.host),.int .i64 d.rem.uri.port,v1.rp,v1.rh,v1.ra,.string (str d.tgt.scheme),.string (str d.tgt.user),.string (str d.tgt.host),.int .i64 d.tgt.port,v1.tp,v1.th,v1.ro,.int .i64 d.lastIn,.int .i64 d.lastOut]):=hid (fun W hW=>⟨(HT5.out.fr (Fr.of_below (F:=fun _=>False) hW) (fun h=>h)).cell 7,blk_range (off:=30) (HA5.out.fr (Fr.of_below (F:=fun _=>False) hW) (fun h=>h)) rfl,blk_range (off:=0) (HD5.out.fr (Fr.of_below (F:=fun _=>False) hW) (fun h=>h)) rfl⟩)
  refine wp_region_held_drew (S:=fun W=>W.cell? ⟨p,7,none⟩=some (.int .i64 (last+1))/\W.rangeAt w.heap.size 30 [.string (str r.ev.name),q.ev]/\W.rangeAt w1.heap.size 0 [.string (str d.callid),.string (str d.loc.display),.string (str d.loc.uri.scheme),.string (str d.loc.uri.user),.string (str d.loc.uri.host),.int .i64 d.loc.uri.port,v1.lp,v1.lh,v1.la,.string (str d.rem.display),.string (str d.rem.uri.scheme),.string (str d.rem.uri.user),.string (str d.rem.uri.host),.int .i64 d.rem.uri.port,v1.rp,v1.rh,v1.ra,.string (str d.tgt.scheme),.string (str d.tgt.user),.string (str d.tgt.host),.int .i64 d.tgt.port,v1.tp,v1.th,v1.ro,.int .i64 d.lastIn,.int .i64 d.lastOut]) (by kernel_rfl) (HS.out _ (Below.refl _ _).drew) (fun hHeld=>?_)
  refine tk 0 ?_
  refine tk 1 ?_
  refine tk 2 ?_
  refine tk 3 ?_
  refine tk 4 ?_
  refine tk 5 ?_
  refine tk 6 ?_
  refine tkm 7 ([.string (str r.ev.name),q.ev]).toArray w.heap.size 30 (fun wq hSw=>hSw.2.1) Tryz.underlying30 ?_
  refine tk 8 ?_
  refine tkm 9 ([.string (str d.callid),.string (str d.loc.display),.string (str d.loc.uri.scheme),.string (str d.loc.uri.user),.string (str d.loc.uri.host),.int .i64 d.loc.uri.port,v1.lp,v1.lh,v1.la,.string (str d.rem.display),.string (str d.rem.uri.scheme),.string (str d.rem.uri.user),.string (str d.rem.uri.host),.int .i64 d.rem.uri.port,v1.rp,v1.rh,v1.ra,.string (str d.tgt.scheme),.string (str d.tgt.user),.string (str d.tgt.host),.int .i64 d.tgt.port,v1.tp,v1.th,v1.ro,.int .i64 d.lastIn,.int .i64 d.lastOut]).toArray w1.heap.size 0 (fun wq hSw=>hSw.2.2) Tryz.underlying37 ?_
  refine tk 10 ?_
  refine rd1 11 fun K hK=>?_
  go_simp
  have hk6:Blk ((w5.alloc (.cells #[.int .i64 (last+1),.string (str who),.string (str watcher),.string (str r.ev.name),q.ev,.int .i64 state,.string ⟨#[]⟩,.int .i64 0,.string (str d.callid),.string (str d.loc.display),.string (str d.loc.uri.scheme),.string (str d.loc.uri.user),.string (str d.loc.uri.host),.int .i64 d.loc.uri.port,v1.lp,v1.lh,v1.la,.string (str d.rem.display),.string (str d.rem.uri.scheme),.string (str d.rem.uri.user),.string (str d.rem.uri.host),.int .i64 d.rem.uri.port,v1.rp,v1.rh,v1.ra,.string (str d.tgt.scheme),.string (str d.tgt.user),.string (str d.tgt.host),.int .i64 d.tgt.port,v1.tp,v1.th,v1.ro,.int .i64 d.lastIn,.int .i64 d.lastOut] 39)).drew) w5.heap.size 39 (subA (newB last r who watcher state d) ⟨q.ev,v1.lp,v1.lh,v1.la,v1.rp,v1.rh,v1.ra,v1.tp,v1.th,v1.ro⟩):=(Blk.new w5 _ _).drewN 1
  have hb6:Below w5.heap.size w5 ((w5.alloc (.cells #[.int .i64 (last+1),.string (str who),.string (str watcher),.string (str r.ev.name),q.ev,.int .i64 state,.string ⟨#[]⟩,.int .i64 0,.string (str d.callid),.string (str d.loc.display),.string (str d.loc.uri.scheme),.string (str d.loc.uri.user),.string (str d.loc.uri.host),.int .i64 d.loc.uri.port,v1.lp,v1.lh,v1.la,.string (str d.rem.display),.string (str d.rem.uri.scheme),.string (str d.rem.uri.user),.string (str d.rem.uri.host),.int .i64 d.rem.uri.port,v1.rp,v1.rh,v1.ra,.string (str d.tgt.scheme),.string (str d.tgt.user),.string (str d.tgt.host),.int .i64 d.tgt.port,v1.tp,v1.th,v1.ro,.int .i64 d.lastIn,.int .i64 d.lastOut] 39)).drew):=((Below.refl _ _).alloc (Nat.le_refl _) _).drew
  obtain ⟨u6,hu⟩:∃ u,(w5.alloc (.cells #[.int .i64 (last+1),.string (str who),.string (str watcher),.string (str r.ev.name),q.ev,.int .i64 state,.string ⟨#[]⟩,.int .i64 0,.string (str d.callid),.string (str d.loc.display),.string (str d.loc.uri.scheme),.string (str d.loc.uri.user),.string (str d.loc.uri.host),.int .i64 d.loc.uri.port,v1.lp,v1.lh,v1.la,.string (str d.rem.display),.string (str d.rem.uri.scheme),.string (str d.rem.uri.user),.string (str d.rem.uri.host),.int .i64 d.rem.uri.port,v1.rp,v1.rh,v1.ra,.string (str d.tgt.scheme),.string (str d.tgt.user),.string (str d.tgt.host),.int .i64 d.tgt.port,v1.tp,v1.th,v1.ro,.int .i64 d.lastIn,.int .i64 d.lastOut] 39)).drew=u:=⟨_,rfl⟩
  rw [hu] at hk6 hb6 ⊢
  clear hu
  have HB6:=hid hb6
  have HK6:=hid hk6
  refine hK.out _ _ (HS.out _ HB6.out) (fun hHeld=>?_)
  clear hK K hk6 hb6
  try simp only [Act.put,List.setIfInBounds_toArray,List.set_cons_zero,List.set_cons_succ]
  refine tk 12 ?_
  refine dn9 (NoPanic.normal ?_)
  clear hHeld HS
  have i31:u6.cell? ⟨w.heap.size,31,none⟩=some q.ev:=(HA5.out.fr (Fr.of_below (F:=fun _=>False) HB6.out) (fun h=>h)).cell 31
  have HS4:=hid HB3.out.size
  have HS5:=hid HF5'.out.size
  have HP6:Hid (PrB u6 B r.ev.params q.ev):=hid ((prb_top (HPE.out.below (HB3.out.mono HBB.out)) (Nat.le_trans HBB.out HS4.out) HT4.out.top HF5'.out).below (HB6.out.mono (Nat.le_trans HBB.out (Nat.le_trans HS4.out HS5.out))))
  have HEV:=hid (clone_prm HP6.out (Nat.le_trans HBB.out (Nat.le_trans HS4.out (Nat.le_trans HS5.out HB6.out.size))) HZ.out.ev)
  obtain ⟨A0,c0,hq9⟩:=HQE.out
  rw [hq9] at i31 HEV
  go_upto_region 16 with (go_at_call 37;refine (HEV.out).mono ?_;rintro e w7 ⟨A7,c7,rfl,m7,hb7⟩;have HM7:=hid m7;have HB7:=hid hb7;have i4:w7.cell? ⟨w5.heap.size,4,none⟩=some q.ev:=(HK6.out.fr (Fr.of_below (F:=fun _=>False) hb7) (fun h=>h)).cell 4;have z4:w7.frozen? ⟨w5.heap.size,4,none⟩=false:=(HK6.out.fr (Fr.of_below (F:=fun _=>False) hb7) (fun h=>h)).frozen 4;clear m7 hb7)
  have hk7:=HK6.out.fr (Fr.of_below (F:=fun _=>False) HB7.out) (fun h=>h)
  have hf8:Fr (fun k=>k=w5.heap.size) w7 (w7.setCell ⟨w5.heap.size,4,none⟩ (.slice A7 r.ev.params.length c7)):=(Fr.refl (fun k=>k=w5.heap.size) w7).set (p:=⟨w5.heap.size,4,none⟩) (fun _=>rfl) _
  have hk8:Blk (w7.setCell ⟨w5.heap.size,4,none⟩ (.slice A7 r.ev.params.length c7)) w5.heap.size 39 (subA (newB last r who watcher state d) ⟨.slice A7 r.ev.params.length c7,v1.lp,v1.lh,v1.la,v1.rp,v1.rh,v1.ra,v1.tp,v1.th,v1.ro⟩):=hk7.set_ 4 _
  obtain ⟨w8,hw8⟩:∃ w8,w7.setCell ⟨w5.heap.size,4,none⟩ (.slice A7 r.ev.params.length c7)=w8:=⟨_,rfl⟩
  rw [hw8] at hf8 hk8 ⊢
  clear hw8
  have HG:=hid (bgm_make HI.out HB0.out HT4.out HB3.out HF5'.out HT5.out HB6.out HB7.out hk7 hf8 hk8 HR5.out HM7.out HM4.out)
  obtain ⟨w9,hu9,hg9⟩:=HG.out.put (last+1)
  have t8:w8.cell? ⟨p,8,none⟩=some (.map (some bm)):=HG.out.top.cell 8
  have n0:w8.cell? ⟨w5.heap.size,0,none⟩=some (.int .i64 (last+1)):=HG.out.blk.cell 0
  have HG9:=hid hg9
  have HLS:=hid (lasts_any (now:=now) (n:=N) HG9.out.top HG9.out.blk HG9.out.wh HTI.out.1 HTI.out.2 HSN.out.1 HSN.out.2)
  clear hk7 hf8 hk8 hg9 HM7 i4 z4 i31 hq9
  go_wp2_with fail
  go_still_tail 9,(by kernel_rfl)
  go_wp2_with fail
  refine (HLS.out).mono ?_
  rintro e w10 ⟨rfl,ht⟩
  obtain ⟨FW',hg10⟩:=HG9.out.turn (fun W h=>h.lasts now N) ht
  have HG10:=hid hg10
  have HCP:=hid (scopied_any HG10.out.blk HG10.out.sub (HZB.out.lasts now N))
  clear ht hg10
  go_wp2_with fail
  refine (HCP.out).mono ?_
  rintro e w11 ⟨v11,rfl,m11,hb11⟩
  have HM11:=hid m11
  have HB11:=hid hb11
  have HK11:=hid (HG10.out.res.fr (Fr.of_below (F:=fun _=>False) hb11) (fun h=>h))
  clear m11 hb11
  go_wp2_with (first|(refine wpl_store rfl 39 (.tmp 14) (.tmp 119) rfl (w.heap.size+1) 0 rfl (subA (lastsS (newB last r who watcher state d) now N) v11) rfl HK11.out (Nat.le_refl 34) (subA (lastsS (newB last r who watcher state d) now N) v11) rfl (by kernel_rfl) (subA_one HM11.out.ok.1 HM11.out.ok.2) ?_;intro wz hkz hfz))
  exact ret_cell2 rfl rfl rfl rfl hkz _ Tryz.underlying39 rfl (by kernel_rfl) (sbeg_fin HI.out HQ.out HLN.out HZB.out HST.out HTI.out.1 HTI.out.2 HSN.out.1 HSN.out.2 HG10.out HB11.out hfz HK11.out HM11.out HE.out)
end Go.Proofs.YthkadehlclcggaaGreatDoor
