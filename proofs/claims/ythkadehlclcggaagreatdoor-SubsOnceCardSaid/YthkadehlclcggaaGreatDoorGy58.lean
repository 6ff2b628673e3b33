/- Chapter 19: subs.Begin where it begins. -/
import Derived.Test.YthkadehlclcggaaGreatDoorGy57
namespace Go.Proofs.YthkadehlclcggaaGreatDoor
set_option linter.unusedSimpArgs false
set_option linter.unusedVariables false
open Go.RowKit
open Go.Lib (hid)
theorem lasts_num (s:SubP) (now n:Int):(lastsS s now n).number=s.number:=by unfold lastsS;split <;> rfl
theorem SubZ.lasts {s:SubP} (h:SubZ s) (now n:Int):SubZ (lastsS s now n):=by
 unfold lastsS
 split
 .exact h.as rfl rfl rfl rfl rfl
 .exact h.as rfl rfl rfl rfl rfl
theorem SubM.lasts {w:World} {s:SubP} {v:SlV} (h:SubM w s v) (now n:Int):SubM w (lastsS s now n) v:=by
 unfold lastsS
 split
 .exact h.as rfl rfl rfl rfl rfl
 .exact h.as rfl rfl rfl rfl rfl
section
variable {c:Conf} {last now n:Int} {L:List SubP} {l:List TM} {s s0:SubP}
theorem SbQ.appN (H:SbQ c last L l) (hn:s.number=last+1) (hlen:(L.length:Int)<c.subs) (hz:SubZ s) (ho:s.state≠2) (h1:0<=now) (h2:now<=549755813888) (h3:0<=n) (h4:n<=2147483647) :
 SbQ c (last+1) (L++[lastsS s now n]) (lastsT l s.number now n):=by
 have hz':=hz.lasts now n
 have hn':=(lasts_num s now n).trans hn
 have e9:lastsT l s.number now n=lastsT l (last+1) now n:=by rw [hn]
 rw [e9]
 unfold lastsS lastsT at *
 by_cases h0:n=0
 .rw [if_pos h0] at hz' hn' ⊢
  rw [if_pos h0]
  exact H.appO hn' hlen hz' rfl
 .rw [if_neg h0] at hz' hn' ⊢
  rw [if_neg h0]
  exact (H.appL hn' hlen hz' ho (by show 0<=now+10*n;omega) (by show now+10*n<=_;omega)).2
theorem SbQ.putN (H:SbQ c last L l) (hs:s0∈L) (hn:s.number=s0.number) (hz:SubZ s) (ho:s.state≠2) (h1:0<=now) (h2:now<=549755813888) (h3:0<=n) (h4:n<=2147483647) :
 SbQ c last (setS L (lastsS s now n)) (lastsT l s.number now n):=by
 have hz':=hz.lasts now n
 have hn':=(lasts_num s now n).trans hn
 have e9:lastsT l s.number now n=lastsT l s0.number now n:=by rw [hn]
 rw [e9]
 unfold lastsS lastsT at *
 by_cases h0:n=0
 .rw [if_pos h0] at hz' hn' ⊢
  rw [if_pos h0]
  exact H.putO hs hn' hz' rfl
 .rw [if_neg h0] at hz' hn' ⊢
  rw [if_neg h0]
  exact (H.putL hs hn' hz' ho (by show 0<=now+10*n;omega) (by show now+10*n<=_;omega)).2
end
section
variable {w w':World} {p bm pw:Nat} {c:Conf} {last:Int} {xs:List XS} {l l':List TM} {F FW FW' G:Nat->Prop} {km:List (Int × Value)}
theorem sbegin_end (H:SbI w p c last xs l F bm pw km FW) (Q:SbQ c last (xs.map (·.s)) l) {q:SubP} {b:Nat} {v:SlV} (hn:q.number=last+1) (Q':SbQ c (last+1) (xs.map (·.s)++[q]) l') (hb:w.heap.size<=b)
 (hf:Fr (fun k=>k=p\/k=bm\/k=b\/FW k) w w') (htop:Blk w' p 85 (tabA c (last+1) bm pw))
 (hl:MapIs w' bm intKey (mput (last+1) (ptr b) km)) (hbo:Born w' bm) (hw:Wh w' pw l' FW') (hx:Ext FW FW' w)
 (hblk:Blk w' b 39 (subA q v)) (hm:SubM w' q v):TabTo p c (last+1) (xs.map (·.s)++[q]) F w w':=by
 have hnl:last+1∉(xs.map (·.s)).map (·.number):=fun h=>by
  obtain ⟨d,hd,e⟩:=List.mem_map.1 h
  have:=Q.low d hd
  omega
 have e1:mput (last+1) (ptr b) km=km++[(last+1,ptr b)]:=mput_new _ (mget_none' (H.nom hnl))
 obtain ⟨HI,hF,hE⟩:=H.turnw (last':=last+1) (xs':=xs++[⟨b,q,v⟩]) (km':=_) (b0:=b) (.inr hb) hf htop hl hbo hw hx
  (fun y hy=>by
    rcases List.mem_append.1 hy with r|r
    .exact .inl ⟨r,fun e=>by have:=(H.ne_x r).2.2;omega⟩
    .simp at r
     subst r
     exact .inr ⟨rfl,hblk,hm⟩)
  (by
    rw [List.map_append,List.nodup_append]
    refine ⟨H.nd,by simp,fun a ha b' hb' e=>?_⟩
    obtain ⟨y,hy,rfl⟩:=List.mem_map.1 ha
    simp at hb'
    have:=(H.ne_x hy).2.2
    omega)
  (by rw [e1,List.map_append];refine (H.pm.append_right _).trans (List.Perm.of_eq ?_);simp [hn])
 exact ⟨_,⟨_,_,_,_,_,_,by simp,HI,Q'⟩,hF,hE⟩
end
theorem prb_top {w w':World} {p bm pw B:Nat} {c:Conf} {last:Int} {l:List Par} {v:Value} (h:PrB w B l v) (hB:B<=w.heap.size) (ht:Blk w p 85 (tabA c last bm pw)) (hf:Fr (fun k=>k=p) w w'):PrB w' B l v:=by
 obtain ⟨A,k,e,h1,h2,h3,h4⟩:=h
 refine ⟨A,k,e,h1,h2,h3,fun hn=>?_⟩
 obtain ⟨gb,off,e2,hlt,hc⟩:=h4 hn
 have hne:gb≠p:=by
  rintro rfl
  obtain ⟨q,r,rfl⟩:∃ q r,l=q::r:=by
   cases l with
   | nil=>simp at hn
   | cons q r=>exact ⟨q,r,rfl⟩
  have c0:=hc 0 (.string (str q.name)) rfl
  have c1:=hc 1 (.string (str q.value)) rfl
  rw [ht.cell] at c0 c1
  unfold tabA at c0 c1
  rcases off with _|_|_|_|_|_|_|_|_|_|off
  all_goals simp at c0 c1
 refine ⟨gb,off,e2,hlt,fun j u hj=>?_⟩
 rw [hf.cell (p:=⟨gb,off+j,none⟩) (by show gb<_;omega) hne]
 exact hc j u hj
def newB (last:Int) (r:ReqP) (who watcher:T) (state:Int) (d:Dlg):SubP:=⟨last+1,who,watcher,r.ev,state,[],0,d⟩
theorem newB_z {r:ReqP} {tag who watcher:T} {last state:Int} {d:Dlg} (hz:ReqZ r) (h:(begR r tag).dlg=some d):SubZ (newB last r who watcher state d):=by
 rcases beg_ways r tag with ⟨_,h9⟩|⟨_,_,h9⟩|⟨_,_,_,h9⟩|⟨_,_,_,_,h9⟩|⟨_,_,ht,k,hk,h9⟩
 .rw [h9] at h;cases h
 .rw [h9] at h;cases h
 .rw [h9] at h;cases h
 .rw [h9] at h;cases h
 .have hkk:=hz.co k (by rw [hk];simp)
  have hlen:tag.length<=64:=by
   unfold tokB at ht
   simp only [Bool.and_eq_true,decide_eq_true_eq] at ht
   exact ht.1.2
  have hge:r.to_.params.length+1<=1000000/\checkE r.to_.uri=checkE r.to_.uri:=by
   by_cases he:addrE (tagged r.to_ tag)=0
   .refine ⟨?_,rfl⟩
    rcases addr_ways (tagged r.to_ tag) with ⟨_,q⟩|⟨_,_,q⟩|⟨_,_,q1,q⟩|⟨_,_,_,q⟩
    .rw [q] at he;cases he
    .rw [q] at he;cases he
    .rw [q] at he;exact absurd he q1
    .rw [q] at he
     unfold textE at he
     have e9:(tagged r.to_ tag).params.length=r.to_.params.length+1:=by show (r.to_.params++[_]).length=_;simp
     by_cases h16:16<(tagged r.to_ tag).params.length
     .rw [if_pos h16] at he;cases he
     .omega
   .rw [if_pos he] at h9
    rw [h9] at h;cases h
  have e9:d=⟨r.callid,tagged r.to_ tag,r.from_,k.uri,r.routes,r.seq,0⟩:=by
   by_cases he:addrE (tagged r.to_ tag)=0
   .rw [if_neg (by simp [he])] at h9
    rw [h9] at h
    injection h with h
    exact h.symm
   .rw [if_pos he] at h9
    rw [h9] at h;cases h
  subst e9
  refine ⟨hz.ev,hz.to_.p,hz.to_.h,?_,hz.from_.p,hz.from_.h,hz.from_.a,hkk.1,hkk.2,hz.ro,hz.evP,?_,hz.fromP⟩
  .show (r.to_.params++[(⟨tagN,tag,true⟩:Par)]).length<=1000000
   rw [List.length_append]
   simp only [List.length_cons,List.length_nil]
   omega
  .show ∀ p∈r.to_.params++[(⟨tagN,tag,true⟩:Par)],parS p
   intro p hp
   rcases List.mem_append.1 hp with q|q
   .exact (hz.toZ.p p q).s
   .simp at q
    subst q
    exact ⟨by show (3:Nat)<=_;omega,by show tag.length<=_;omega⟩
structure BgM (w w8:World) (p bm pw gs rb:Nat) (c:Conf) (last:Int) (s:SubP) (v:SlV) (l:List TM) (FW FW':Nat->Prop) (km:List (Int × Value)):Prop where
 top:Blk w8 p 85 (tabA c last bm pw)
 mm:MapIs w8 bm intKey km
 mb:Born w8 bm
 wh:Wh w8 pw l FW'
 blk:Blk w8 gs 39 (subA s v)
 sub:SubM w8 s v
 res:Blk w8 rb 39 sub0
 fr:Fr (fun k=>k=p\/k=bm\/k=gs\/FW k) w w8
 ext:Ext FW FW' w
 hg:w.heap.size<=gs
 hr:w.heap.size<=rb
 ne:rb≠gs
 fm:¬FW' bm
theorem wh_keep {w:World} {pw:Nat} {l:List TM} {FW:Nat->Prop} (h:Wh w pw l FW):KeepP FW w:=fun b ds T fr hb hT=>by
 rcases hT with rfl|rfl
 .exact h.notT hb (by decide) (by decide) (by decide)
 .exact h.notT hb (by decide) (by decide) (by decide)
section
variable {w w8 w9:World} {p bm pw gs rb:Nat} {c:Conf} {last:Int} {s s':SubP} {v:SlV} {l l':List TM} {FW FW':Nat->Prop} {km:List (Int × Value)}
theorem BgM.put (H:BgM w w8 p bm pw gs rb c last s v l FW FW' km) (k:Int):∃ w9,(Instr.mapUpdate 82 (.map (some bm)) (.int .i64 k) (.pointer (some ⟨gs,0,none⟩))).run Tryz.prog w8.drew=.ok () w9/\BgM w w9 p bm pw gs rb c last s v l FW FW' (mput k (ptr gs) km):=by
 obtain ⟨w9,hu,hm,hf⟩:=(H.mm.drewN 1).update (intLaw Tryz.underlying3) Tryz.underlying82 k (ptr gs)
 have hb:=(H.mb.drewN 1).update (H.mm.drewN 1) (intLaw Tryz.underlying3) Tryz.underlying82 k (ptr gs) hu
 have f:Fr (fun k=>k=bm) w8 w9:=⟨hf.os,hf.tape,hf.output,hf.size,hf.block⟩
 have hk:KeepP (fun k=>k=bm) w8:=fun b ds T fr hb' hT e=>by
  subst e
  obtain ⟨es,c,h,_⟩:=H.mm
  have h9:=hb'.symm.trans h
  cases h9
 exact ⟨w9,hu,H.top.fr f (H.mm.ne H.top).symm,hm,hb,H.wh.fr f (fun k hk e=>H.fm (e▸hk)),H.blk.fr f (H.mm.ne H.blk).symm,H.sub.fr f hk,H.res.fr f (H.mm.ne H.res).symm,H.fr.trans f (fun k _ e=>.inr (.inl e)),H.ext,H.hg,H.hr,H.ne,H.fm⟩
theorem BgM.turn (H:BgM w w8 p bm pw gs rb c last s v l FW FW km) (hm:∀ W,SubM W s v->SubM W s' v) (ht:TurnS w8 w9 gs pw s' v l' FW):∃ FW',BgM w w9 p bm pw gs rb c last s' v l' FW FW' km:=by
 obtain ⟨FW',hk,hw,hf,hx⟩:=ht.ex
 have hgp:gs≠p:=H.blk.ne_ H.top (by decide)
 have hgm:bm≠gs:=H.mm.ne H.blk
 have hpm:bm≠p:=H.mm.ne H.top
 have np:¬(p=gs\/FW p):=by rintro (e|e);exact hgp e.symm;exact H.wh.notT H.top (by decide) (by decide) (by decide) e
 have nm:¬(bm=gs\/FW bm):=by rintro (e|e);exact hgm e;exact H.fm e
 have nr:¬(rb=gs\/FW rb):=by rintro (e|e);exact H.ne e;exact H.wh.notT H.res (by decide) (by decide) (by decide) e
 have kp:KeepP (fun k=>k=gs\/FW k) w8:=fun b ds T fr hb hT e=>by
  rcases e with e|e
  .exact keepP_blk H.blk (by decide) (by decide) b ds T fr hb hT e
  .exact wh_keep H.wh b ds T fr hb hT e
 have hs:=H.fr.size
 refine ⟨FW',H.top.fr hf np,H.mm.fr hf nm,H.mb.fr hf nm,hw,hk,(hm _ H.sub).fr hf kp,H.res.fr hf nr,H.fr.trans hf (fun k _ e=>e.elim (fun e=>.inr (.inr (.inl e))) (fun e=>.inr (.inr (.inr e)))),fun k hk=>(hx k hk).elim .inl (fun q=>.inr (by omega)),H.hg,H.hr,H.ne,fun h=>?_⟩
 rcases hx _ h with q|q
 .exact H.fm q
 .have:=H.mm.lt;omega
theorem BgM.fr_ (H:BgM w w8 p bm pw gs rb c last s v l FW FW' km) {w9 w10:World} (hb:Below w8.heap.size w8 w9) (hf:Fr (fun k=>k=rb) w9 w10):Fr (fun k=>k=rb) w8 w10 :=
 (Fr.of_below (F:=fun k=>k=rb) hb).trans hf (fun k _ e=>e)
end
theorem bgm_make {w w0 w4 w5 u6 w7 w8:World} {p bm pw:Nat} {c:Conf} {last:Int} {xs:List XS} {l:List TM} {F FW:Nat->Prop} {km:List (Int × Value)} {r:ReqP} {who watcher:T} {state:Int} {d:Dlg} {v1:SlV} {X:Value} {cs:Array Value}
 (H:SbI w p c last xs l F bm pw km FW) (hb0:Below w.heap.size w w0) (H4:SbI w4 p c last xs l F bm pw km FW) (hb4:Below w0.heap.size w0 w4) (hf5:Fr (fun k=>k=p) w4 w5) (ht5:Blk w5 p 85 (tabA c (last+1) bm pw))
 (hb6:Below w5.heap.size w5 u6) (hb7:Below u6.heap.size u6 w7) (hk7:Blk w7 w5.heap.size 39 cs) (hf8:Fr (fun k=>k=w5.heap.size) w7 w8)
 (hk8:Blk w8 w5.heap.size 39 (subA (newB last r who watcher state d) ⟨X,v1.lp,v1.lh,v1.la,v1.rp,v1.rh,v1.ra,v1.tp,v1.th,v1.ro⟩)) (hr:Blk w5 (w.heap.size+1) 39 sub0) (hm7:PrM w7 r.ev.params X) (hm4:DlgM w4 d v1) :
 BgM w w8 p bm pw w5.heap.size (w.heap.size+1) c (last+1) (newB last r who watcher state d) ⟨X,v1.lp,v1.lh,v1.la,v1.rp,v1.rh,v1.ra,v1.tp,v1.th,v1.ro⟩ l FW FW km:=by
 have s0:=hb0.size
 have s4:=hb4.size
 have s5:=hf5.size
 have f58:Fr (fun k=>k=w5.heap.size) w5 w8:=((Fr.of_below (F:=fun k=>k=w5.heap.size) hb6).trans (Fr.of_below (F:=fun k=>k=w5.heap.size) hb7) (fun k _ e=>e)).trans hf8 (fun k _ e=>e)
 have f48:Fr (fun k=>k=p) w4 w8:=hf5.trans f58 (fun k hk e=>by omega)
 have f08:Fr (fun k=>k=p) w w8:=((Fr.of_below (F:=fun k=>k=p) hb0).trans (Fr.of_below (F:=fun k=>k=p) hb4) (fun k _ e=>e)).trans f48 (fun k _ e=>e)
 have kp:=keepP_blk H4.top (by decide) (by decide)
 have m8:=hm4.fr f48 kp
 have hplt:=H4.top.lt
 exact ⟨ht5.fr f58 (by omega),H4.mm.fr f48 (fun e=>H4.ne_pm e.symm),H4.mb.fr f48 (fun e=>H4.ne_pm e.symm),H4.wh.fr f48 (fun k hk e=>H4.fwp (e▸hk)),hk8,
  ⟨hm7.fr hf8 (keepP_blk hk7 (by decide) (by decide)),m8.loc.p,m8.loc.h,m8.loc.a,m8.rem.p,m8.rem.h,m8.rem.a,m8.tp,m8.th,m8.ro⟩,hr.fr f58 (by have:=hr.lt;omega),f08.mono (fun k _ e=>.inl e),fun k hk=>.inl hk,by omega,by omega,by have:=hr.lt;omega,H4.fm⟩
theorem sbeg_fin {w w8 w9 w10:World} {p bm pw gs:Nat} {c:Conf} {last now n:Int} {xs:List XS} {r:ReqP} {who watcher:T} {state:Int} {d:Dlg} {v v':SlV} {l:List TM} {F FW FW':Nat->Prop} {km:List (Int × Value)} {R:SbR}
 (H:SbI w p c last xs l F bm pw km FW) (Q:SbQ c last (xs.map (·.s)) l) (hlen:((xs.map (·.s)).length:Int)<c.subs) (hz:SubZ (newB last r who watcher state d)) (ho:state≠2) (h1:0<=now) (h2:now<=549755813888) (h3:0<=n) (h4:n<=2147483647)
 (G:BgM w w8 p bm pw gs (w.heap.size+1) c (last+1) (lastsS (newB last r who watcher state d) now n) v (lastsT l (last+1) now n) FW FW' (mput (last+1) (ptr gs) km))
 (hb:Below w8.heap.size w8 w9) (hf:Fr (fun k=>k=w.heap.size+1) w9 w10) (hk9:Blk w9 (w.heap.size+1) 39 sub0) (hm:SubM w9 (lastsS (newB last r who watcher state d) now n) v')
 (hR:R=⟨last+1,xs.map (·.s)++[newS last r who watcher state d now n],newS last r who watcher state d now n,0⟩) :
 SubTo p c R F w (.returned (.tuple #[.agg (subA (lastsS (newB last r who watcher state d) now n) v'),.int .i64 0])) w10:=by
 subst hR
 have f:=G.fr_ hb hf
 have hk:=keepP_blk hk9 (by decide) (by decide)
 have hk8:=keepP_blk G.res (by decide) (by decide)
 have hpr:p≠w.heap.size+1:=by have:=H.top.lt;omega
 have hmr:bm≠w.heap.size+1:=by have:=H.mm.lt;omega
 have hFr:∀ k,FW' k->¬k=w.heap.size+1:=fun k hk e=>by
  subst e
  exact G.wh.notT G.res (by decide) (by decide) (by decide) hk
 refine ⟨v',rfl,hm.fr hf hk,sbegin_end H Q (b:=gs) (v:=v) (lasts_num _ _ _) (Q.appN (s:=newB last r who watcher state d) rfl hlen hz ho h1 h2 h3 h4) G.hg (G.fr.trans f (fun k hk e=>by omega)) (G.top.fr f hpr) (G.mm.fr f hmr) (G.mb.fr f hmr) (G.wh.fr f hFr) G.ext (G.blk.fr f (fun e=>G.ne e.symm)) (G.sub.fr f hk8)⟩
set_option maxRecDepth 100000 in
set_option maxHeartbeats 16000000 in
theorem sbegin_yes {w:World} {p:Nat} {c:Conf} {last now state:Int} {L:List SubP} {F:Nat->Prop} {r:ReqP} {q:RqV} {B:Nat} {who watcher tag:T} (H:Sb w p c last L F) (hlast:last<=1000000) (hB:B<=w.heap.size) (hr:ReqB w B r q) (hz:ReqZ r) (ht:tag.length<=9223372036854775807)
 (hno:(begS c last L now r who watcher state tag).err=0) :
 Calls Tryz.prog 12 #[.pointer (some ⟨p,0,none⟩),.int .i64 now,.agg (reqA r q),.string (str who),.string (str watcher),.int .i64 state,.string (str tag)] w (SubTo p c (begS c last L now r who watcher state tag) F w):=by
 obtain ⟨w0,hw0⟩:∃ w0,(w.alloc (.cells (reqA r q) 45)).alloc (.cells sub0 39)=w0:=⟨_,rfl⟩
 have hb0:Below w.heap.size w w0:=hw0▸((Below.refl _ _).alloc (Nat.le_refl _) _).alloc (by simp) _
 have hka:Blk w0 w.heap.size 45 (reqA r q):=hw0▸(Blk.new w _ _).alloc _
 have hkb:Blk w0 (w.heap.size+1) 39 sub0:=hw0▸Blk.new' _ _ _ (by simp)
 have H0:=H
 have HW:=hid (begS_ways c last L now r who watcher state tag)
 obtain ⟨xs,l,bm,pw,km,FW,rfl,H0,Q⟩:=H0
 have HI:=hid H0
 have HQ:=hid Q
 have H0:=H0.below hb0
 have hm:=hid (smade_any (pw:=pw) H0.top)
 have HTK:Hid (∀ W,Calls Tryz.prog 34 #[.int .i64 now] W fun e w'=>e=.returned (.bool (tickB now))/\W=w'):=hid (fun W=>tick_any now W)
 have HBG:=hid (Begin_any (r:=r) (tag:=tag) (v:=q) (w:=w0) (Nat.le_trans hB hb0.size) (hr.below (hb0.mono hB)) hz ht)
 have HSEC:Hid (∀ W,Calls Tryz.prog 36 #[.agg #[.string (str c.host),.int .i64 c.calls,.int .i64 c.pubs,.int .i64 c.subs,.int .i64 c.least,.int .i64 c.most,.int .i64 c.usual],.int .i64 r.exp] W fun e w'=>e=.returned (.tuple #[.int .i64 (secN c r.exp),.bool (secK c r.exp)])/\Below W.heap.size W w'):=hid (fun W=>seconds_any c r.exp W)
 have HKA:=hid hka
 have HKB:=hid hkb
 have HB0:=hid hb0
 have HTB:=hid H0
 have HNO:=hid hno
 have HZ:=hid hz
 have HPE:=hid (hr.ev.below (hb0.mono hB))
 have HBB:=hid (Nat.le_trans hB hb0.size)
 have hqev:∃ A c,q.ev=.slice A r.ev.params.length c:=by obtain ⟨A,c,e,_⟩:=hr.ev;exact ⟨A,c,e⟩
 have HQE:=hid hqev
 have HLA:=hid hlast
 unfold BegPost at HBG
 clear hb0 hka hkb H H0 hB hr hz ht Q hno hqev hlast
 unfold sub0 at hw0
 go_enter Tryz.func12,Tryz.ntmps12
 go_upto_region 1 with (fail)
 try rw [hw0]
 clear hw0
 generalize hq0:Value.agg (reqA r q)=q0
 rw [hq0] at HBG
 rcases HW.out with ⟨_,hx⟩|⟨_,_,_,hx⟩|⟨_,_,h3,hx⟩|⟨_,_,_,_,hx⟩|⟨_,_,_,_,_,hx⟩|⟨h1,h2,h3,h4,h5,d,hd,hx⟩
 .exact absurd HNO.out (by rw [hx];show (1:Int)≠0;decide)
 .exact absurd HNO.out (by rw [hx];show (1:Int)≠0;decide)
 .exact absurd HNO.out (by rw [hx];exact h3)
 .exact absurd HNO.out (by rw [hx];show (161:Int)≠0;decide)
 .exact absurd HNO.out (by rw [hx];show (5:Int)≠0;decide)
 have HE:=hid hx
 rw [h1] at HTK
 have htk:0<=now/\now<=549755813888:=by
  unfold tickB at h1
  simp only [Bool.and_eq_true,decide_eq_true_eq] at h1
  exact h1
 have HTI:=hid htk
 have hst:state≠2:=by omega
 have HST:=hid hst
 have HD:=hid hd
 have hde:(begR r tag).dlg.getD noDlg=d:=by rw [hd];rfl
 rw [hde,h3] at HBG
 have HSN:=hid (sec_lo HQ.out.right r.exp)
 have HSU:=hid HQ.out.subs
 rw [h4] at HSEC
 generalize hN:secN c r.exp=N at *
 have h5':¬((xs.length:Int)>=c.subs):=by simp only [List.length_map] at h5;omega
 have HF5:=hid h5'
 have HLN:=hid h5
 have hway:(state != 0)=false\/((state != 0)=true/\(state != 1)=false):=by
  rcases h2 with h|h <;> subst h <;> simp
 have HZB:=hid (newB_z (last:=last) (who:=who) (watcher:=watcher) (state:=state) HZ.out hd)
 clear hx h1 h2 h3 h4 h5 h5' htk hst hd hde hN
 rcases hway with d1|⟨d1,d2⟩
 .go_upto_region 6 with (first|(go_at_call 33;refine (hm.out).mono ?_;rintro e w' ⟨rfl,rfl⟩)|(go_at_call 34;refine (HTK.out _).mono ?_;rintro e w' ⟨rfl,rfl⟩)|(refine wpl_load rfl 45 (.tmp 9) rfl w.heap.size 0 rfl HKA.out (reqA r q).toList rfl _ Tryz.underlying45 rfl (by kernel_rfl) ?_)|(go_at_call 35;refine (HBG.out).mono ?_;rintro e w1 ⟨v1,rfl,m1,hb1⟩;have HM1:=hid m1;have HB1:=hid hb1;clear hb1 m1)|(refine wpl_store rfl 37 (.tmp 16) (.tmp 43) rfl w1.heap.size 0 rfl (dlgA d v1) rfl (Blk.new w1 37 dlg0) (Nat.le_refl 26) (dlgA d v1) rfl (by kernel_rfl) (dlgA_one HM1.out.one) ?_;intro w2 hk2 hf2))
  have HB2:Hid (Below w0.heap.size w0 w2):=hid (HB1.out.trans ((below_upfr ((Below.refl w1.heap.size w1).alloc (Nat.le_refl _) _) (Nat.le_refl _) hf2 (fun k e=>by omega)).mono HB1.out.size))
  have HGD:Hid (w0.heap.size<=w1.heap.size):=hid HB1.out.size
  have HM2:=hid (HM1.out.below (below_upfr ((Below.refl w1.heap.size w1).alloc (Nat.le_refl _) _) (Nat.le_refl _) hf2 (fun k e=>by omega)))
  have HK2:=hid hk2
  clear hk2 hf2 HM1
  have HS:Hid (∀ W,Below w2.heap.size w2 W->W.cell? ⟨p,0,none⟩=some (.string (str c.host))/\W.cell? ⟨p,1,none⟩=some (.int .i64 c.calls)/\W.cell? ⟨p,2,none⟩=some (.int .i64 c.pubs)/\W.cell? ⟨p,3,none⟩=some (.int .i64 c.subs)/\W.cell? ⟨p,4,none⟩=some (.int .i64 c.least)/\W.cell? ⟨p,5,none⟩=some (.int .i64 c.most)/\W.cell? ⟨p,6,none⟩=some (.int .i64 c.usual)/\W.cell? ⟨w.heap.size,29,none⟩=some (.int .i64 r.exp)):=hid (fun W hW=>by
   have k1:=(HTB.out.below (HB2.out.trans (hW.mono HB2.out.size))).top
   have k2:=HKA.out.fr (Fr.of_below (F:=fun _=>False) (HB2.out.trans (hW.mono HB2.out.size))) (fun h=>h)
   exact ⟨k1.cell 0,k1.cell 1,k1.cell 2,k1.cell 3,k1.cell 4,k1.cell 5,k1.cell 6,k2.cell 29⟩)
  have HX0:Hid (Below w2.heap.size w2 w2.drew):=hid (Below.refl _ _).drew
  refine wp_region_noPanic ?_
  refine wp_region_held_drew (S:=fun W=>W.cell? ⟨p,0,none⟩=some (.string (str c.host))/\W.cell? ⟨p,1,none⟩=some (.int .i64 c.calls)/\W.cell? ⟨p,2,none⟩=some (.int .i64 c.pubs)/\W.cell? ⟨p,3,none⟩=some (.int .i64 c.subs)/\W.cell? ⟨p,4,none⟩=some (.int .i64 c.least)/\W.cell? ⟨p,5,none⟩=some (.int .i64 c.most)/\W.cell? ⟨p,6,none⟩=some (.int .i64 c.usual)/\W.cell? ⟨w.heap.size,29,none⟩=some (.int .i64 r.exp)) (by kernel_rfl) (HS.out _ HX0.out) (fun hHeld=>?_)
  refine wpAnyH_take (i:=0) (oi:=?oi14) (v:=?v14) ?ho14 ?ka14 ?kb14 ?kc14 (fun _ _ _ h=>h) (Or.inl ⟨?kw14,?hy14⟩) (by assumption) ?rest14
  case ho14=>(simp only [List.getElem?_toArray,List.getElem?_cons_zero,List.getElem?_cons_succ];rfl)
  case ka14=>kernel_rfl
  case kb14=>kernel_rfl
  case kc14=>kernel_rfl
  case kw14=>rfl
  case hy14=>(intro wq hSw;(try dsimp only at hSw);go_simp;try with_reducible rfl)
  try simp only [Act.put,List.setIfInBounds_toArray,List.set_cons_zero,List.set_cons_succ]
  refine wpAnyH_take (i:=1) (oi:=?oi15) (v:=?v15) ?ho15 ?ka15 ?kb15 ?kc15 (fun _ _ _ h=>h) (Or.inl ⟨?kw15,?hy15⟩) (by assumption) ?rest15
  case ho15=>(simp only [List.getElem?_toArray,List.getElem?_cons_zero,List.getElem?_cons_succ];rfl)
  case ka15=>kernel_rfl
  case kb15=>kernel_rfl
  case kc15=>kernel_rfl
  case kw15=>rfl
  case hy15=>(intro wq hSw;(try dsimp only at hSw);go_simp;try with_reducible rfl)
  try simp only [Act.put,List.setIfInBounds_toArray,List.set_cons_zero,List.set_cons_succ]
  refine wpAnyH_take (i:=2) (oi:=?oi16) (v:=?v16) ?ho16 ?ka16 ?kb16 ?kc16 (fun _ _ _ h=>h) (Or.inl ⟨?kw16,?hy16⟩) (by assumption) ?rest16
  case ho16=>(simp only [List.getElem?_toArray,List.getElem?_cons_zero,List.getElem?_cons_succ];rfl)
  case ka16=>kernel_rfl
  case kb16=>kernel_rfl
  case kc16=>kernel_rfl
  case kw16=>rfl
  case hy16=>(intro wq hSw;(try dsimp only at hSw);go_simp;try with_reducible rfl)
  try simp only [Act.put,List.setIfInBounds_toArray,List.set_cons_zero,List.set_cons_succ]
  refine wpAnyH_take (i:=3) (oi:=?oi17) (v:=?v17) ?ho17 ?ka17 ?kb17 ?kc17 (fun _ _ _ h=>h) (Or.inl ⟨?kw17,?hy17⟩) (by assumption) ?rest17
  case ho17=>(simp only [List.getElem?_toArray,List.getElem?_cons_zero,List.getElem?_cons_succ];rfl)
  case ka17=>kernel_rfl
  case kb17=>kernel_rfl
  case kc17=>kernel_rfl
  case kw17=>rfl
  case hy17=>(intro wq hSw;(try dsimp only at hSw);go_simp;try with_reducible rfl)
  try simp only [Act.put,List.setIfInBounds_toArray,List.set_cons_zero,List.set_cons_succ]
  refine wpAnyH_take (i:=4) (oi:=?oi18) (v:=?v18) ?ho18 ?ka18 ?kb18 ?kc18 (fun _ _ _ h=>h) (Or.inl ⟨?kw18,?hy18⟩) (by assumption) ?rest18
  case ho18=>(simp only [List.getElem?_toArray,List.getElem?_cons_zero,List.getElem?_cons_succ];rfl)
  case ka18=>kernel_rfl
  case kb18=>kernel_rfl
  case kc18=>kernel_rfl
  case kw18=>rfl
  case hy18=>(intro wq hSw;(try dsimp only at hSw);go_simp;try with_reducible rfl)
  try simp only [Act.put,List.setIfInBounds_toArray,List.set_cons_zero,List.set_cons_succ]
  refine wpAnyH_take (i:=5) (oi:=?oi19) (v:=?v19) ?ho19 ?ka19 ?kb19 ?kc19 (fun _ _ _ h=>h) (Or.inl ⟨?kw19,?hy19⟩) (by assumption) ?rest19
  case ho19=>(simp only [List.getElem?_toArray,List.getElem?_cons_zero,List.getElem?_cons_succ];rfl)
  case ka19=>kernel_rfl
  case kb19=>kernel_rfl
  case kc19=>kernel_rfl
  case kw19=>rfl
  case hy19=>(intro wq hSw;(try dsimp only at hSw);go_simp;try with_reducible rfl)
  try simp only [Act.put,List.setIfInBounds_toArray,List.set_cons_zero,List.set_cons_succ]
  refine wpAnyH_ready (rs:=[6]) (by kernel_rfl) (by simp) ?_
  refine AllReadyH.cons (o:=?oi20) ?ho20 (fun K hK=>?st20) AllReadyH.nil
  case ho20=>(simp only [List.getElem?_toArray,List.getElem?_cons_zero,List.getElem?_cons_succ];rfl)
  go_simp
  refine (HSEC.out _).mono ?_
  rintro e w3 ⟨rfl,hb3⟩
  have HX3:Hid (Below w2.heap.size w2 w3):=hid (thenB_ HX0.out hb3)
  clear hb3
  go_wp2_with fail
  refine hK.out _ _ (HS.out _ HX3.out) (fun hHeld=>?_)
  clear hK K
  try simp only [Act.put,List.setIfInBounds_toArray,List.set_cons_zero,List.set_cons_succ]
  refine wpAnyH_take (i:=7) (oi:=?oi21) (v:=?v21) ?ho21 ?ka21 ?kb21 ?kc21 (fun _ _ _ h=>h) (Or.inl ⟨?kw21,?hy21⟩) (by assumption) ?rest21
  case ho21=>(simp only [List.getElem?_toArray,List.getElem?_cons_zero,List.getElem?_cons_succ];rfl)
  case ka21=>kernel_rfl
  case kb21=>kernel_rfl
  case kc21=>kernel_rfl
  case kw21=>rfl
  case hy21=>(intro wq hSw;(try dsimp only at hSw);go_simp;try with_reducible rfl)
  try simp only [Act.put,List.setIfInBounds_toArray,List.set_cons_zero,List.set_cons_succ]
  refine wpAnyH_take (i:=8) (oi:=?oi22) (v:=?v22) ?ho22 ?ka22 ?kb22 ?kc22 (fun _ _ _ h=>h) (Or.inl ⟨?kw22,?hy22⟩) (by assumption) ?rest22
  case ho22=>(simp only [List.getElem?_toArray,List.getElem?_cons_zero,List.getElem?_cons_succ];rfl)
  case ka22=>kernel_rfl
  case kb22=>kernel_rfl
  case kc22=>kernel_rfl
  case kw22=>rfl
  case hy22=>(intro wq hSw;(try dsimp only at hSw);go_simp;try with_reducible rfl)
  try simp only [Act.put,List.setIfInBounds_toArray,List.set_cons_zero,List.set_cons_succ]
  refine wpAnyH_take (i:=9) (oi:=?oi23) (v:=?v23) ?ho23 ?ka23 ?kb23 ?kc23 (fun _ _ _ h=>h) (Or.inl ⟨?kw23,?hy23⟩) (by assumption) ?rest23
  case ho23=>(simp only [List.getElem?_toArray,List.getElem?_cons_zero,List.getElem?_cons_succ];rfl)
  case ka23=>kernel_rfl
  case kb23=>kernel_rfl
  case kc23=>kernel_rfl
  case kw23=>rfl
  case hy23=>(intro wq hSw;(try dsimp only at hSw);go_simp;try with_reducible rfl)
  try simp only [Act.put,List.setIfInBounds_toArray,List.set_cons_zero,List.set_cons_succ]
  refine wpAnyH_take (i:=10) (oi:=?oi24) (v:=?v24) ?ho24 ?ka24 ?kb24 ?kc24 (fun _ _ _ h=>h) (Or.inl ⟨?kw24,?hy24⟩) (by assumption) ?rest24
  case ho24=>(simp only [List.getElem?_toArray,List.getElem?_cons_zero,List.getElem?_cons_succ];rfl)
  case ka24=>kernel_rfl
  case kb24=>kernel_rfl
  case kc24=>kernel_rfl
  case kw24=>rfl
  case hy24=>(intro wq hSw;(try dsimp only at hSw);go_simp;try with_reducible rfl)
  try simp only [Act.put,List.setIfInBounds_toArray,List.set_cons_zero,List.set_cons_succ]
  refine wpAnyH_take (i:=11) (oi:=?oi25) (v:=?v25) ?ho25 ?ka25 ?kb25 ?kc25 (fun _ _ _ h=>h) (Or.inl ⟨?kw25,?hy25⟩) (by assumption) ?rest25
  case ho25=>(simp only [List.getElem?_toArray,List.getElem?_cons_zero,List.getElem?_cons_succ];rfl)
  case ka25=>kernel_rfl
  case kb25=>kernel_rfl
  case kc25=>kernel_rfl
  case kw25=>rfl
  case hy25=>(intro wq hSw;(try dsimp only at hSw);go_simp;try with_reducible rfl)
  try simp only [Act.put,List.setIfInBounds_toArray,List.set_cons_zero,List.set_cons_succ]
  refine wpAnyH_done (by kernel_rfl) ?_ _
  refine NoPanic.normal ?_
  clear hHeld
  have HBX:=hid (HB2.out.trans (HX3.out.mono HB2.out.size))
  have hlen:∀ n,(Builtin.len_ #[82] 3 #[.map (some bm)]).run Tryz.prog (w3.drewN n)=.ok (.int .i64 xs.length) (w3.drewN n):=fun n=>by
   have h9:=((HTB.out.below HBX.out).mm.drewN n).len Tryz.underlying82 (ty:=3)
   rw [HTB.out.lenm] at h9
   exact h9
  have y8:w3.cell? ⟨p,8,none⟩=some (.map (some bm)):=(HTB.out.below HBX.out).top.cell 8
  have y3:w3.cell? ⟨p,3,none⟩=some (.int .i64 c.subs):=(HTB.out.below HBX.out).top.cell 3
  have hge:=HF5.out
  go_wp2_with fail
  go_quiet (fail)
  clear hlen y8 y3
  have HB3:=hid (below_drewN HBX.out nq)
  have HB3':Hid (Below w2.heap.size w2 (w3.drewN nq)):=hid (below_drewN HX3.out nq)
  obtain ⟨w4,hw4⟩:∃ w4,w3.drewN nq=w4:=⟨_,rfl⟩
  rw [hw4] at HB3 HB3' ⊢
  clear hw4 HX3 HBX HS HX0
  have HT4:=hid (HTB.out.below HB3.out)
  have HK4:=hid (HK2.out.fr (Fr.of_below (F:=fun _=>False) HB3'.out) (fun h=>h))
  have HM4:=hid (HM2.out.below HB3'.out)
  have i7:w4.cell? ⟨p,7,none⟩=some (.int .i64 last):=HT4.out.top.cell 7
  have z7:=HT4.out.top.frozen 7
  have hwr:IntKind.i64.wrap (last+1)=last+1:=IntWalk.i64_in _ (by have:=HLA.out;have:=HQ.out.last;omega)
  go_upto_region 14 with (fail)
  have hf5:Fr (fun k=>k=p) w4 (w4.setCell ⟨p,7,none⟩ (.int .i64 (last+1))):=(Fr.refl (fun k=>k=p) w4).set (p:=⟨p,7,none⟩) (fun _=>rfl) _
  have ht5:Blk (w4.setCell ⟨p,7,none⟩ (.int .i64 (last+1))) p 85 (tabA c (last+1) bm pw):=HT4.out.top.set_ 7 _
  obtain ⟨w5,hw5⟩:∃ w5,w4.setCell ⟨p,7,none⟩ (.int .i64 (last+1))=w5:=⟨_,rfl⟩
  rw [hw5] at hf5 ht5 ⊢
  clear hw5
  have hA4:=HKA.out.fr (Fr.of_below (F:=fun _=>False) HB3.out) (fun h=>h)
  have hB4:=HKB.out.fr (Fr.of_below (F:=fun _=>False) HB3.out) (fun h=>h)
  have HA5:=hid (hA4.fr hf5 (hA4.ne_ HT4.out.top (by decide)))
  have HD5:=hid (HK4.out.fr hf5 (HK4.out.ne_ HT4.out.top (by decide)))
  have HR5:=hid (hB4.fr hf5 (hB4.ne_ HT4.out.top (by decide)))
  have HT5:=hid ht5
  have HF5':=hid hf5
  clear hf5 ht5 hA4 hB4 i7 z7 hwr d1
  refine wp_region_noPanic ?_
  have HS:Hid (∀ W,Below w5.heap.size w5 W->W.cell? ⟨p,7,none⟩=some (.int .i64 (last+1))/\W.rangeAt w.heap.size 30 [.string (str r.ev.name),q.ev]/\W.rangeAt w1.heap.size 0 [.string (str d.callid),.string (str d.loc.display),.string (str d.loc.uri.scheme),.string (str d.loc.uri.user),.string (str d.loc.uri.host),.int .i64 d.loc.uri.port,v1.lp,v1.lh,v1.la,.string (str d.rem.display),.string (str d.rem.uri.scheme),.string (str d.rem.uri.user),.string (str d.rem.uri.host),.int .i64 d.rem.uri.port,v1.rp,v1.rh,v1.ra,.string (str d.tgt.scheme),.string (str d.tgt.user),.string (str d.tgt.host),.int .i64 d.tgt.port,v1.tp,v1.th,v1.ro,.int .i64 d.lastIn,.int .i64 d.lastOut]):=hid (fun W hW=>⟨(HT5.out.fr (Fr.of_below (F:=fun _=>False) hW) (fun h=>h)).cell 7,blk_range (off:=30) (HA5.out.fr (Fr.of_below (F:=fun _=>False) hW) (fun h=>h)) rfl,blk_range (off:=0) (HD5.out.fr (Fr.of_below (F:=fun _=>False) hW) (fun h=>h)) rfl⟩)
  refine wp_region_held_drew (S:=fun W=>W.cell? ⟨p,7,none⟩=some (.int .i64 (last+1))/\W.rangeAt w.heap.size 30 [.string (str r.ev.name),q.ev]/\W.rangeAt w1.heap.size 0 [.string (str d.callid),.string (str d.loc.display),.string (str d.loc.uri.scheme),.string (str d.loc.uri.user),.string (str d.loc.uri.host),.int .i64 d.loc.uri.port,v1.lp,v1.lh,v1.la,.string (str d.rem.display),.string (str d.rem.uri.scheme),.string (str d.rem.uri.user),.string (str d.rem.uri.host),.int .i64 d.rem.uri.port,v1.rp,v1.rh,v1.ra,.string (str d.tgt.scheme),.string (str d.tgt.user),.string (str d.tgt.host),.int .i64 d.tgt.port,v1.tp,v1.th,v1.ro,.int .i64 d.lastIn,.int .i64 d.lastOut]) (by kernel_rfl) (HS.out _ (Below.refl _ _).drew) (fun hHeld=>?_)
  refine wpAnyH_take (i:=0) (oi:=?oi1) (v:=?v1) ?ho1 ?ka1 ?kb1 ?kc1 (fun _ _ _ h=>h) (Or.inl ⟨?kw1,?hy1⟩) (by assumption) ?rest1
  case ho1=>(simp only [List.getElem?_toArray,List.getElem?_cons_zero,List.getElem?_cons_succ];rfl)
  case ka1=>kernel_rfl
  case kb1=>kernel_rfl
  case kc1=>kernel_rfl
  case kw1=>rfl
  case hy1=>(intro wq hSw;(try dsimp only at hSw);go_simp;try with_reducible rfl)
  try simp only [Act.put,List.setIfInBounds_toArray,List.set_cons_zero,List.set_cons_succ]
  refine wpAnyH_take (i:=1) (oi:=?oi2) (v:=?v2) ?ho2 ?ka2 ?kb2 ?kc2 (fun _ _ _ h=>h) (Or.inl ⟨?kw2,?hy2⟩) (by assumption) ?rest2
  case ho2=>(simp only [List.getElem?_toArray,List.getElem?_cons_zero,List.getElem?_cons_succ];rfl)
  case ka2=>kernel_rfl
  case kb2=>kernel_rfl
  case kc2=>kernel_rfl
  case kw2=>rfl
  case hy2=>(intro wq hSw;(try dsimp only at hSw);go_simp;try with_reducible rfl)
  try simp only [Act.put,List.setIfInBounds_toArray,List.set_cons_zero,List.set_cons_succ]
  refine wpAnyH_take (i:=2) (oi:=?oi3) (v:=?v3) ?ho3 ?ka3 ?kb3 ?kc3 (fun _ _ _ h=>h) (Or.inl ⟨?kw3,?hy3⟩) (by assumption) ?rest3
  case ho3=>(simp only [List.getElem?_toArray,List.getElem?_cons_zero,List.getElem?_cons_succ];rfl)
  case ka3=>kernel_rfl
  case kb3=>kernel_rfl
  case kc3=>kernel_rfl
  case kw3=>rfl
  case hy3=>(intro wq hSw;(try dsimp only at hSw);go_simp;try with_reducible rfl)
  try simp only [Act.put,List.setIfInBounds_toArray,List.set_cons_zero,List.set_cons_succ]
  refine wpAnyH_take (i:=3) (oi:=?oi4) (v:=?v4) ?ho4 ?ka4 ?kb4 ?kc4 (fun _ _ _ h=>h) (Or.inl ⟨?kw4,?hy4⟩) (by assumption) ?rest4
  case ho4=>(simp only [List.getElem?_toArray,List.getElem?_cons_zero,List.getElem?_cons_succ];rfl)
  case ka4=>kernel_rfl
  case kb4=>kernel_rfl
  case kc4=>kernel_rfl
  case kw4=>rfl
  case hy4=>(intro wq hSw;(try dsimp only at hSw);go_simp;try with_reducible rfl)
  try simp only [Act.put,List.setIfInBounds_toArray,List.set_cons_zero,List.set_cons_succ]
  refine wpAnyH_take (i:=4) (oi:=?oi5) (v:=?v5) ?ho5 ?ka5 ?kb5 ?kc5 (fun _ _ _ h=>h) (Or.inl ⟨?kw5,?hy5⟩) (by assumption) ?rest5
  case ho5=>(simp only [List.getElem?_toArray,List.getElem?_cons_zero,List.getElem?_cons_succ];rfl)
  case ka5=>kernel_rfl
  case kb5=>kernel_rfl
  case kc5=>kernel_rfl
  case kw5=>rfl
  case hy5=>(intro wq hSw;(try dsimp only at hSw);go_simp;try with_reducible rfl)
  try simp only [Act.put,List.setIfInBounds_toArray,List.set_cons_zero,List.set_cons_succ]
  refine wpAnyH_take (i:=5) (oi:=?oi6) (v:=?v6) ?ho6 ?ka6 ?kb6 ?kc6 (fun _ _ _ h=>h) (Or.inl ⟨?kw6,?hy6⟩) (by assumption) ?rest6
  case ho6=>(simp only [List.getElem?_toArray,List.getElem?_cons_zero,List.getElem?_cons_succ];rfl)
  case ka6=>kernel_rfl
  case kb6=>kernel_rfl
  case kc6=>kernel_rfl
  case kw6=>rfl
  case hy6=>(intro wq hSw;(try dsimp only at hSw);go_simp;try with_reducible rfl)
  try simp only [Act.put,List.setIfInBounds_toArray,List.set_cons_zero,List.set_cons_succ]
  refine wpAnyH_take (i:=6) (oi:=?oi7) (v:=?v7) ?ho7 ?ka7 ?kb7 ?kc7 (fun _ _ _ h=>h) (Or.inl ⟨?kw7,?hy7⟩) (by assumption) ?rest7
  case ho7=>(simp only [List.getElem?_toArray,List.getElem?_cons_zero,List.getElem?_cons_succ];rfl)
  case ka7=>kernel_rfl
  case kb7=>kernel_rfl
  case kc7=>kernel_rfl
  case kw7=>rfl
  case hy7=>(intro wq hSw;(try dsimp only at hSw);go_simp;try with_reducible rfl)
  try simp only [Act.put,List.setIfInBounds_toArray,List.set_cons_zero,List.set_cons_succ]
  refine wpAnyH_take (i:=7) (oi:=?oi8) (v:=.agg ([.string (str r.ev.name),q.ev]).toArray) ?ho8 ?ka8 ?kb8 ?kc8 (fun _ _ _ h=>h) ?hy8 (by assumption) ?rest8
  case ho8=>(simp only [List.getElem?_toArray,List.getElem?_cons_zero,List.getElem?_cons_succ];rfl)
  case ka8=>kernel_rfl
  case kb8=>kernel_rfl
  case kc8=>kernel_rfl
  case hy8=>exact yieldsIf_load_mid (by rfl) 30 (.tmp 90) rfl w.heap.size 30 rfl [.string (str r.ev.name),q.ev] _ (fun wq hSw=>hSw.2.1) Tryz.underlying30 rfl (by kernel_rfl)
  try simp only [Act.put,List.setIfInBounds_toArray,List.set_cons_zero,List.set_cons_succ]
  refine wpAnyH_take (i:=8) (oi:=?oi9) (v:=?v9) ?ho9 ?ka9 ?kb9 ?kc9 (fun _ _ _ h=>h) (Or.inl ⟨?kw9,?hy9⟩) (by assumption) ?rest9
  case ho9=>(simp only [List.getElem?_toArray,List.getElem?_cons_zero,List.getElem?_cons_succ];rfl)
  case ka9=>kernel_rfl
  case kb9=>kernel_rfl
  case kc9=>kernel_rfl
  case kw9=>rfl
  case hy9=>(intro wq hSw;(try dsimp only at hSw);go_simp;try with_reducible rfl)
  try simp only [Act.put,List.setIfInBounds_toArray,List.set_cons_zero,List.set_cons_succ]
  refine wpAnyH_take (i:=9) (oi:=?oi10) (v:=.agg ([.string (str d.callid),.string (str d.loc.display),.string (str d.loc.uri.scheme),.string (str d.loc.uri.user),.string (str d.loc.uri.host),.int .i64 d.loc.uri.port,v1.lp,v1.lh,v1.la,.string (str d.rem.display),.string (str d.rem.uri.scheme),.string (str d.rem.uri.user),.string (str d.rem.uri.host),.int .i64 d.rem.uri.port,v1.rp,v1.rh,v1.ra,.string (str d.tgt.scheme),.string (str d.tgt.user),.string (str d.tgt.host),.int .i64 d.tgt.port,v1.tp,v1.th,v1.ro,.int .i64 d.lastIn,.int .i64 d.lastOut]).toArray) ?ho10 ?ka10 ?kb10 ?kc10 (fun _ _ _ h=>h) ?hy10 (by assumption) ?rest10
  case ho10=>(simp only [List.getElem?_toArray,List.getElem?_cons_zero,List.getElem?_cons_succ];rfl)
  case ka10=>kernel_rfl
  case kb10=>kernel_rfl
  case kc10=>kernel_rfl
  case hy10=>exact yieldsIf_load_mid (by rfl) 37 (.tmp 16) rfl w1.heap.size 0 rfl [.string (str d.callid),.string (str d.loc.display),.string (str d.loc.uri.scheme),.string (str d.loc.uri.user),.string (str d.loc.uri.host),.int .i64 d.loc.uri.port,v1.lp,v1.lh,v1.la,.string (str d.rem.display),.string (str d.rem.uri.scheme),.string (str d.rem.uri.user),.string (str d.rem.uri.host),.int .i64 d.rem.uri.port,v1.rp,v1.rh,v1.ra,.string (str d.tgt.scheme),.string (str d.tgt.user),.string (str d.tgt.host),.int .i64 d.tgt.port,v1.tp,v1.th,v1.ro,.int .i64 d.lastIn,.int .i64 d.lastOut] _ (fun wq hSw=>hSw.2.2) Tryz.underlying37 rfl (by kernel_rfl)
  try simp only [Act.put,List.setIfInBounds_toArray,List.set_cons_zero,List.set_cons_succ]
  refine wpAnyH_take (i:=10) (oi:=?oi11) (v:=?v11) ?ho11 ?ka11 ?kb11 ?kc11 (fun _ _ _ h=>h) (Or.inl ⟨?kw11,?hy11⟩) (by assumption) ?rest11
  case ho11=>(simp only [List.getElem?_toArray,List.getElem?_cons_zero,List.getElem?_cons_succ];rfl)
  case ka11=>kernel_rfl
  case kb11=>kernel_rfl
  case kc11=>kernel_rfl
  case kw11=>rfl
  case hy11=>(intro wq hSw;(try dsimp only at hSw);go_simp;try with_reducible rfl)
  try simp only [Act.put,List.setIfInBounds_toArray,List.set_cons_zero,List.set_cons_succ]
  refine wpAnyH_ready (rs:=[11]) (by kernel_rfl) (by simp) ?_
  refine AllReadyH.cons (o:=?oi12) ?ho12 (fun K hK=>?st12) AllReadyH.nil
  case ho12=>(simp only [List.getElem?_toArray,List.getElem?_cons_zero,List.getElem?_cons_succ];rfl)
  go_simp
  have hk6:Blk ((w5.alloc (.cells #[.int .i64 (last+1),.string (str who),.string (str watcher),.string (str r.ev.name),q.ev,.int .i64 state,.string ⟨#[]⟩,.int .i64 0,.string (str d.callid),.string (str d.loc.display),.string (str d.loc.uri.scheme),.string (str d.loc.uri.user),.string (str d.loc.uri.host),.int .i64 d.loc.uri.port,v1.lp,v1.lh,v1.la,.string (str d.rem.display),.string (str d.rem.uri.scheme),.string (str d.rem.uri.user),.string (str d.rem.uri.host),.int .i64 d.rem.uri.port,v1.rp,v1.rh,v1.ra,.string (str d.tgt.scheme),.string (str d.tgt.user),.string (str d.tgt.host),.int .i64 d.tgt.port,v1.tp,v1.th,v1.ro,.int .i64 d.lastIn,.int .i64 d.lastOut] 39)).drew) w5.heap.size 39 (subA (newB last r who watcher state d) ⟨q.ev,v1.lp,v1.lh,v1.la,v1.rp,v1.rh,v1.ra,v1.tp,v1.th,v1.ro⟩):=(Blk.new w5 _ _).drewN 1
  have hb6:Below w5.heap.size w5 ((w5.alloc (.cells #[.int .i64 (last+1),.string (str who),.string (str watcher),.string (str r.ev.name),q.ev,.int .i64 state,.string ⟨#[]⟩,.int .i64 0,.string (str d.callid),.string (str d.loc.display),.string (str d.loc.uri.scheme),.string (str d.loc.uri.user),.string (str d.loc.uri.host),.int .i64 d.loc.uri.port,v1.lp,v1.lh,v1.la,.string (str d.rem.display),.string (str d.rem.uri.scheme),.string (str d.rem.uri.user),.string (str d.rem.uri.host),.int .i64 d.rem.uri.port,v1.rp,v1.rh,v1.ra,.string (str d.tgt.scheme),.string (str d.tgt.user),.string (str d.tgt.host),.int .i64 d.tgt.port,v1.tp,v1.th,v1.ro,.int .i64 d.lastIn,.int .i64 d.lastOut] 39)).drew):=((Below.refl _ _).alloc (Nat.le_refl _) _).drew
  obtain ⟨u6,hu⟩:∃ u,(w5.alloc (.cells #[.int .i64 (last+1),.string (str who),.string (str watcher),.string (str r.ev.name),q.ev,.int .i64 state,.string ⟨#[]⟩,.int .i64 0,.string (str d.callid),.string (str d.loc.display),.string (str d.loc.uri.scheme),.string (str d.loc.uri.user),.string (str d.loc.uri.host),.int .i64 d.loc.uri.port,v1.lp,v1.lh,v1.la,.string (str d.rem.display),.string (str d.rem.uri.scheme),.string (str d.rem.uri.user),.string (str d.rem.uri.host),.int .i64 d.rem.uri.port,v1.rp,v1.rh,v1.ra,.string (str d.tgt.scheme),.string (str d.tgt.user),.string (str d.tgt.host),.int .i64 d.tgt.port,v1.tp,v1.th,v1.ro,.int .i64 d.lastIn,.int .i64 d.lastOut] 39)).drew=u:=⟨_,rfl⟩
  rw [hu] at hk6 hb6 ⊢
  clear hu
  have HB6:=hid hb6
  have HK6:=hid hk6
  refine hK.out _ _ (HS.out _ HB6.out) (fun hHeld=>?_)
  clear hK K hk6 hb6
  try simp only [Act.put,List.setIfInBounds_toArray,List.set_cons_zero,List.set_cons_succ]
  refine wpAnyH_take (i:=12) (oi:=?oi13) (v:=?v13) ?ho13 ?ka13 ?kb13 ?kc13 (fun _ _ _ h=>h) (Or.inl ⟨?kw13,?hy13⟩) (by assumption) ?rest13
  case ho13=>(simp only [List.getElem?_toArray,List.getElem?_cons_zero,List.getElem?_cons_succ];rfl)
  case ka13=>kernel_rfl
  case kb13=>kernel_rfl
  case kc13=>kernel_rfl
  case kw13=>rfl
  case hy13=>(intro wq hSw;(try dsimp only at hSw);go_simp;try with_reducible rfl)
  try simp only [Act.put,List.setIfInBounds_toArray,List.set_cons_zero,List.set_cons_succ]
  refine wpAnyH_done (by kernel_rfl) ?_ _
  refine NoPanic.normal ?_
  clear hHeld HS
  have i31:u6.cell? ⟨w.heap.size,31,none⟩=some q.ev:=(HA5.out.fr (Fr.of_below (F:=fun _=>False) HB6.out) (fun h=>h)).cell 31
  have HS4:=hid HB3.out.size
  have HS5:=hid HF5'.out.size
  have HP6:Hid (PrB u6 B r.ev.params q.ev):=hid ((prb_top (HPE.out.below (HB3.out.mono HBB.out)) (Nat.le_trans HBB.out HS4.out) HT4.out.top HF5'.out).below (HB6.out.mono (Nat.le_trans HBB.out (Nat.le_trans HS4.out HS5.out))))
  have HEV:=hid (clone_prm HP6.out (Nat.le_trans HBB.out (Nat.le_trans HS4.out (Nat.le_trans HS5.out HB6.out.size))) HZ.out.ev)
  obtain ⟨A0,c0,hq9⟩:=HQE.out
  rw [hq9] at i31 HEV
  go_upto_region 16 with (go_at_call 37;refine (HEV.out).mono ?_;rintro e w7 ⟨A7,c7,rfl,m7,hb7⟩;have HM7:=hid m7;have HB7:=hid hb7;have i4:w7.cell? ⟨w5.heap.size,4,none⟩=some q.ev:=(HK6.out.fr (Fr.of_below (F:=fun _=>False) hb7) (fun h=>h)).cell 4;have z4:w7.frozen? ⟨w5.heap.size,4,none⟩=false:=(HK6.out.fr (Fr.of_below (F:=fun _=>False) hb7) (fun h=>h)).frozen 4;clear m7 hb7)
  have hk7:=HK6.out.fr (Fr.of_below (F:=fun _=>False) HB7.out) (fun h=>h)
  have hf8:Fr (fun k=>k=w5.heap.size) w7 (w7.setCell ⟨w5.heap.size,4,none⟩ (.slice A7 r.ev.params.length c7)):=(Fr.refl (fun k=>k=w5.heap.size) w7).set (p:=⟨w5.heap.size,4,none⟩) (fun _=>rfl) _
  have hk8:Blk (w7.setCell ⟨w5.heap.size,4,none⟩ (.slice A7 r.ev.params.length c7)) w5.heap.size 39 (subA (newB last r who watcher state d) ⟨.slice A7 r.ev.params.length c7,v1.lp,v1.lh,v1.la,v1.rp,v1.rh,v1.ra,v1.tp,v1.th,v1.ro⟩):=hk7.set_ 4 _
  obtain ⟨w8,hw8⟩:∃ w8,w7.setCell ⟨w5.heap.size,4,none⟩ (.slice A7 r.ev.params.length c7)=w8:=⟨_,rfl⟩
  rw [hw8] at hf8 hk8 ⊢
  clear hw8
  have HG:=hid (bgm_make HI.out HB0.out HT4.out HB3.out HF5'.out HT5.out HB6.out HB7.out hk7 hf8 hk8 HR5.out HM7.out HM4.out)
  obtain ⟨w9,hu9,hg9⟩:=HG.out.put (last+1)
  have t8:w8.cell? ⟨p,8,none⟩=some (.map (some bm)):=HG.out.top.cell 8
  have n0:w8.cell? ⟨w5.heap.size,0,none⟩=some (.int .i64 (last+1)):=HG.out.blk.cell 0
  have HG9:=hid hg9
  have HLS:=hid (lasts_any (now:=now) (n:=N) HG9.out.top HG9.out.blk HG9.out.wh HTI.out.1 HTI.out.2 HSN.out.1 HSN.out.2)
  clear hk7 hf8 hk8 hg9 HM7 i4 z4 i31 hq9
  go_wp2_with fail
  go_still_tail 9,(by kernel_rfl)
  go_wp2_with fail
  refine (HLS.out).mono ?_
  rintro e w10 ⟨rfl,ht⟩
  obtain ⟨FW',hg10⟩:=HG9.out.turn (fun W h=>h.lasts now N) ht
  have HG10:=hid hg10
  have HCP:=hid (scopied_any HG10.out.blk HG10.out.sub (HZB.out.lasts now N))
  clear ht hg10
  go_wp2_with fail
  refine (HCP.out).mono ?_
  rintro e w11 ⟨v11,rfl,m11,hb11⟩
  have HM11:=hid m11
  have HB11:=hid hb11
  have HK11:=hid (HG10.out.res.fr (Fr.of_below (F:=fun _=>False) hb11) (fun h=>h))
  clear m11 hb11
  go_wp2_with (first|(refine wpl_store rfl 39 (.tmp 14) (.tmp 119) rfl (w.heap.size+1) 0 rfl (subA (lastsS (newB last r who watcher state d) now N) v11) rfl HK11.out (Nat.le_refl 34) (subA (lastsS (newB last r who watcher state d) now N) v11) rfl (by kernel_rfl) (subA_one HM11.out.ok.1 HM11.out.ok.2) ?_;intro wz hkz hfz))
  exact ret_cell2 rfl rfl rfl rfl hkz _ Tryz.underlying39 rfl (by kernel_rfl) (sbeg_fin HI.out HQ.out HLN.out HZB.out HST.out HTI.out.1 HTI.out.2 HSN.out.1 HSN.out.2 HG10.out HB11.out hfz HK11.out HM11.out HE.out)
 .go_upto_region 6 with (first|(go_at_call 33;refine (hm.out).mono ?_;rintro e w' ⟨rfl,rfl⟩)|(go_at_call 34;refine (HTK.out _).mono ?_;rintro e w' ⟨rfl,rfl⟩)|(refine wpl_load rfl 45 (.tmp 9) rfl w.heap.size 0 rfl HKA.out (reqA r q).toList rfl _ Tryz.underlying45 rfl (by kernel_rfl) ?_)|(go_at_call 35;refine (HBG.out).mono ?_;rintro e w1 ⟨v1,rfl,m1,hb1⟩;have HM1:=hid m1;have HB1:=hid hb1;clear hb1 m1)|(refine wpl_store rfl 37 (.tmp 16) (.tmp 43) rfl w1.heap.size 0 rfl (dlgA d v1) rfl (Blk.new w1 37 dlg0) (Nat.le_refl 26) (dlgA d v1) rfl (by kernel_rfl) (dlgA_one HM1.out.one) ?_;intro w2 hk2 hf2))
  have HB2:Hid (Below w0.heap.size w0 w2):=hid (HB1.out.trans ((below_upfr ((Below.refl w1.heap.size w1).alloc (Nat.le_refl _) _) (Nat.le_refl _) hf2 (fun k e=>by omega)).mono HB1.out.size))
  have HGD:Hid (w0.heap.size<=w1.heap.size):=hid HB1.out.size
  have HM2:=hid (HM1.out.below (below_upfr ((Below.refl w1.heap.size w1).alloc (Nat.le_refl _) _) (Nat.le_refl _) hf2 (fun k e=>by omega)))
  have HK2:=hid hk2
  clear hk2 hf2 HM1
  have HS:Hid (∀ W,Below w2.heap.size w2 W->W.cell? ⟨p,0,none⟩=some (.string (str c.host))/\W.cell? ⟨p,1,none⟩=some (.int .i64 c.calls)/\W.cell? ⟨p,2,none⟩=some (.int .i64 c.pubs)/\W.cell? ⟨p,3,none⟩=some (.int .i64 c.subs)/\W.cell? ⟨p,4,none⟩=some (.int .i64 c.least)/\W.cell? ⟨p,5,none⟩=some (.int .i64 c.most)/\W.cell? ⟨p,6,none⟩=some (.int .i64 c.usual)/\W.cell? ⟨w.heap.size,29,none⟩=some (.int .i64 r.exp)):=hid (fun W hW=>by
   have k1:=(HTB.out.below (HB2.out.trans (hW.mono HB2.out.size))).top
   have k2:=HKA.out.fr (Fr.of_below (F:=fun _=>False) (HB2.out.trans (hW.mono HB2.out.size))) (fun h=>h)
   exact ⟨k1.cell 0,k1.cell 1,k1.cell 2,k1.cell 3,k1.cell 4,k1.cell 5,k1.cell 6,k2.cell 29⟩)
  have HX0:Hid (Below w2.heap.size w2 w2.drew):=hid (Below.refl _ _).drew
  refine wp_region_noPanic ?_
  refine wp_region_held_drew (S:=fun W=>W.cell? ⟨p,0,none⟩=some (.string (str c.host))/\W.cell? ⟨p,1,none⟩=some (.int .i64 c.calls)/\W.cell? ⟨p,2,none⟩=some (.int .i64 c.pubs)/\W.cell? ⟨p,3,none⟩=some (.int .i64 c.subs)/\W.cell? ⟨p,4,none⟩=some (.int .i64 c.least)/\W.cell? ⟨p,5,none⟩=some (.int .i64 c.most)/\W.cell? ⟨p,6,none⟩=some (.int .i64 c.usual)/\W.cell? ⟨w.heap.size,29,none⟩=some (.int .i64 r.exp)) (by kernel_rfl) (HS.out _ HX0.out) (fun hHeld=>?_)
  refine wpAnyH_take (i:=0) (oi:=?oi39) (v:=?v39) ?ho39 ?ka39 ?kb39 ?kc39 (fun _ _ _ h=>h) (Or.inl ⟨?kw39,?hy39⟩) (by assumption) ?rest39
  case ho39=>(simp only [List.getElem?_toArray,List.getElem?_cons_zero,List.getElem?_cons_succ];rfl)
  case ka39=>kernel_rfl
  case kb39=>kernel_rfl
  case kc39=>kernel_rfl
  case kw39=>rfl
  case hy39=>(intro wq hSw;(try dsimp only at hSw);go_simp;try with_reducible rfl)
  try simp only [Act.put,List.setIfInBounds_toArray,List.set_cons_zero,List.set_cons_succ]
  refine wpAnyH_take (i:=1) (oi:=?oi40) (v:=?v40) ?ho40 ?ka40 ?kb40 ?kc40 (fun _ _ _ h=>h) (Or.inl ⟨?kw40,?hy40⟩) (by assumption) ?rest40
  case ho40=>(simp only [List.getElem?_toArray,List.getElem?_cons_zero,List.getElem?_cons_succ];rfl)
  case ka40=>kernel_rfl
  case kb40=>kernel_rfl
  case kc40=>kernel_rfl
  case kw40=>rfl
  case hy40=>(intro wq hSw;(try dsimp only at hSw);go_simp;try with_reducible rfl)
  try simp only [Act.put,List.setIfInBounds_toArray,List.set_cons_zero,List.set_cons_succ]
  refine wpAnyH_take (i:=2) (oi:=?oi41) (v:=?v41) ?ho41 ?ka41 ?kb41 ?kc41 (fun _ _ _ h=>h) (Or.inl ⟨?kw41,?hy41⟩) (by assumption) ?rest41
  case ho41=>(simp only [List.getElem?_toArray,List.getElem?_cons_zero,List.getElem?_cons_succ];rfl)
  case ka41=>kernel_rfl
  case kb41=>kernel_rfl
  case kc41=>kernel_rfl
  case kw41=>rfl
  case hy41=>(intro wq hSw;(try dsimp only at hSw);go_simp;try with_reducible rfl)
  try simp only [Act.put,List.setIfInBounds_toArray,List.set_cons_zero,List.set_cons_succ]
  refine wpAnyH_take (i:=3) (oi:=?oi42) (v:=?v42) ?ho42 ?ka42 ?kb42 ?kc42 (fun _ _ _ h=>h) (Or.inl ⟨?kw42,?hy42⟩) (by assumption) ?rest42
  case ho42=>(simp only [List.getElem?_toArray,List.getElem?_cons_zero,List.getElem?_cons_succ];rfl)
  case ka42=>kernel_rfl
  case kb42=>kernel_rfl
  case kc42=>kernel_rfl
  case kw42=>rfl
  case hy42=>(intro wq hSw;(try dsimp only at hSw);go_simp;try with_reducible rfl)
  try simp only [Act.put,List.setIfInBounds_toArray,List.set_cons_zero,List.set_cons_succ]
  refine wpAnyH_take (i:=4) (oi:=?oi43) (v:=?v43) ?ho43 ?ka43 ?kb43 ?kc43 (fun _ _ _ h=>h) (Or.inl ⟨?kw43,?hy43⟩) (by assumption) ?rest43
  case ho43=>(simp only [List.getElem?_toArray,List.getElem?_cons_zero,List.getElem?_cons_succ];rfl)
  case ka43=>kernel_rfl
  case kb43=>kernel_rfl
  case kc43=>kernel_rfl
  case kw43=>rfl
  case hy43=>(intro wq hSw;(try dsimp only at hSw);go_simp;try with_reducible rfl)
  try simp only [Act.put,List.setIfInBounds_toArray,List.set_cons_zero,List.set_cons_succ]
  refine wpAnyH_take (i:=5) (oi:=?oi44) (v:=?v44) ?ho44 ?ka44 ?kb44 ?kc44 (fun _ _ _ h=>h) (Or.inl ⟨?kw44,?hy44⟩) (by assumption) ?rest44
  case ho44=>(simp only [List.getElem?_toArray,List.getElem?_cons_zero,List.getElem?_cons_succ];rfl)
  case ka44=>kernel_rfl
  case kb44=>kernel_rfl
  case kc44=>kernel_rfl
  case kw44=>rfl
  case hy44=>(intro wq hSw;(try dsimp only at hSw);go_simp;try with_reducible rfl)
  try simp only [Act.put,List.setIfInBounds_toArray,List.set_cons_zero,List.set_cons_succ]
  refine wpAnyH_ready (rs:=[6]) (by kernel_rfl) (by simp) ?_
  refine AllReadyH.cons (o:=?oi45) ?ho45 (fun K hK=>?st45) AllReadyH.nil
  case ho45=>(simp only [List.getElem?_toArray,List.getElem?_cons_zero,List.getElem?_cons_succ];rfl)
  go_simp
  refine (HSEC.out _).mono ?_
  rintro e w3 ⟨rfl,hb3⟩
  have HX3:Hid (Below w2.heap.size w2 w3):=hid (thenB_ HX0.out hb3)
  clear hb3
  go_wp2_with fail
  refine hK.out _ _ (HS.out _ HX3.out) (fun hHeld=>?_)
  clear hK K
  try simp only [Act.put,List.setIfInBounds_toArray,List.set_cons_zero,List.set_cons_succ]
  refine wpAnyH_take (i:=7) (oi:=?oi46) (v:=?v46) ?ho46 ?ka46 ?kb46 ?kc46 (fun _ _ _ h=>h) (Or.inl ⟨?kw46,?hy46⟩) (by assumption) ?rest46
  case ho46=>(simp only [List.getElem?_toArray,List.getElem?_cons_zero,List.getElem?_cons_succ];rfl)
  case ka46=>kernel_rfl
  case kb46=>kernel_rfl
  case kc46=>kernel_rfl
  case kw46=>rfl
  case hy46=>(intro wq hSw;(try dsimp only at hSw);go_simp;try with_reducible rfl)
  try simp only [Act.put,List.setIfInBounds_toArray,List.set_cons_zero,List.set_cons_succ]
  refine wpAnyH_take (i:=8) (oi:=?oi47) (v:=?v47) ?ho47 ?ka47 ?kb47 ?kc47 (fun _ _ _ h=>h) (Or.inl ⟨?kw47,?hy47⟩) (by assumption) ?rest47
  case ho47=>(simp only [List.getElem?_toArray,List.getElem?_cons_zero,List.getElem?_cons_succ];rfl)
  case ka47=>kernel_rfl
  case kb47=>kernel_rfl
  case kc47=>kernel_rfl
  case kw47=>rfl
  case hy47=>(intro wq hSw;(try dsimp only at hSw);go_simp;try with_reducible rfl)
  try simp only [Act.put,List.setIfInBounds_toArray,List.set_cons_zero,List.set_cons_succ]
  refine wpAnyH_take (i:=9) (oi:=?oi48) (v:=?v48) ?ho48 ?ka48 ?kb48 ?kc48 (fun _ _ _ h=>h) (Or.inl ⟨?kw48,?hy48⟩) (by assumption) ?rest48
  case ho48=>(simp only [List.getElem?_toArray,List.getElem?_cons_zero,List.getElem?_cons_succ];rfl)
  case ka48=>kernel_rfl
  case kb48=>kernel_rfl
  case kc48=>kernel_rfl
  case kw48=>rfl
  case hy48=>(intro wq hSw;(try dsimp only at hSw);go_simp;try with_reducible rfl)
  try simp only [Act.put,List.setIfInBounds_toArray,List.set_cons_zero,List.set_cons_succ]
  refine wpAnyH_take (i:=10) (oi:=?oi49) (v:=?v49) ?ho49 ?ka49 ?kb49 ?kc49 (fun _ _ _ h=>h) (Or.inl ⟨?kw49,?hy49⟩) (by assumption) ?rest49
  case ho49=>(simp only [List.getElem?_toArray,List.getElem?_cons_zero,List.getElem?_cons_succ];rfl)
  case ka49=>kernel_rfl
  case kb49=>kernel_rfl
  case kc49=>kernel_rfl
  case kw49=>rfl
  case hy49=>(intro wq hSw;(try dsimp only at hSw);go_simp;try with_reducible rfl)
  try simp only [Act.put,List.setIfInBounds_toArray,List.set_cons_zero,List.set_cons_succ]
  refine wpAnyH_take (i:=11) (oi:=?oi50) (v:=?v50) ?ho50 ?ka50 ?kb50 ?kc50 (fun _ _ _ h=>h) (Or.inl ⟨?kw50,?hy50⟩) (by assumption) ?rest50
  case ho50=>(simp only [List.getElem?_toArray,List.getElem?_cons_zero,List.getElem?_cons_succ];rfl)
  case ka50=>kernel_rfl
  case kb50=>kernel_rfl
  case kc50=>kernel_rfl
  case kw50=>rfl
  case hy50=>(intro wq hSw;(try dsimp only at hSw);go_simp;try with_reducible rfl)
  try simp only [Act.put,List.setIfInBounds_toArray,List.set_cons_zero,List.set_cons_succ]
  refine wpAnyH_done (by kernel_rfl) ?_ _
  refine NoPanic.normal ?_
  clear hHeld
  have HBX:=hid (HB2.out.trans (HX3.out.mono HB2.out.size))
  have hlen:∀ n,(Builtin.len_ #[82] 3 #[.map (some bm)]).run Tryz.prog (w3.drewN n)=.ok (.int .i64 xs.length) (w3.drewN n):=fun n=>by
   have h9:=((HTB.out.below HBX.out).mm.drewN n).len Tryz.underlying82 (ty:=3)
   rw [HTB.out.lenm] at h9
   exact h9
  have y8:w3.cell? ⟨p,8,none⟩=some (.map (some bm)):=(HTB.out.below HBX.out).top.cell 8
  have y3:w3.cell? ⟨p,3,none⟩=some (.int .i64 c.subs):=(HTB.out.below HBX.out).top.cell 3
  have hge:=HF5.out
  go_wp2_with fail
  go_quiet (fail)
  clear hlen y8 y3
  have HB3:=hid (below_drewN HBX.out nq)
  have HB3':Hid (Below w2.heap.size w2 (w3.drewN nq)):=hid (below_drewN HX3.out nq)
  obtain ⟨w4,hw4⟩:∃ w4,w3.drewN nq=w4:=⟨_,rfl⟩
  rw [hw4] at HB3 HB3' ⊢
  clear hw4 HX3 HBX HS HX0
  have HT4:=hid (HTB.out.below HB3.out)
  have HK4:=hid (HK2.out.fr (Fr.of_below (F:=fun _=>False) HB3'.out) (fun h=>h))
  have HM4:=hid (HM2.out.below HB3'.out)
  have i7:w4.cell? ⟨p,7,none⟩=some (.int .i64 last):=HT4.out.top.cell 7
  have z7:=HT4.out.top.frozen 7
  have hwr:IntKind.i64.wrap (last+1)=last+1:=IntWalk.i64_in _ (by have:=HLA.out;have:=HQ.out.last;omega)
  go_upto_region 14 with (fail)
  have hf5:Fr (fun k=>k=p) w4 (w4.setCell ⟨p,7,none⟩ (.int .i64 (last+1))):=(Fr.refl (fun k=>k=p) w4).set (p:=⟨p,7,none⟩) (fun _=>rfl) _
  have ht5:Blk (w4.setCell ⟨p,7,none⟩ (.int .i64 (last+1))) p 85 (tabA c (last+1) bm pw):=HT4.out.top.set_ 7 _
  obtain ⟨w5,hw5⟩:∃ w5,w4.setCell ⟨p,7,none⟩ (.int .i64 (last+1))=w5:=⟨_,rfl⟩
  rw [hw5] at hf5 ht5 ⊢
  clear hw5
  have hA4:=HKA.out.fr (Fr.of_below (F:=fun _=>False) HB3.out) (fun h=>h)
  have hB4:=HKB.out.fr (Fr.of_below (F:=fun _=>False) HB3.out) (fun h=>h)
  have HA5:=hid (hA4.fr hf5 (hA4.ne_ HT4.out.top (by decide)))
  have HD5:=hid (HK4.out.fr hf5 (HK4.out.ne_ HT4.out.top (by decide)))
  have HR5:=hid (hB4.fr hf5 (hB4.ne_ HT4.out.top (by decide)))
  have HT5:=hid ht5
  have HF5':=hid hf5
  clear hf5 ht5 hA4 hB4 i7 z7 hwr d1 d2
  refine wp_region_noPanic ?_
  have HS:Hid (∀ W,Below w5.heap.size w5 W->W.cell? ⟨p,7,none⟩=some (.int .i64 (last+1))/\W.rangeAt w.heap.size 30 [.string (str r.ev.name),q.ev]/\W.rangeAt w1.heap.size 0 [.string (str d.callid),.string (str d.loc.display),.string (str d.loc.uri.scheme),.string (str d.loc.uri.user),.string (str d.loc.uri.host),.int .i64 d.loc.uri.port,v1.lp,v1.lh,v1.la,.string (str d.rem.display),.string (str d.rem.uri.scheme),.string (str d.rem.uri.user),.string (str d.rem.uri.host),.int .i64 d.rem.uri.port,v1.rp,v1.rh,v1.ra,.string (str d.tgt.scheme),.string (str d.tgt.user),.string (str d.tgt.host),.int .i64 d.tgt.port,v1.tp,v1.th,v1.ro,.int .i64 d.lastIn,.int .i64 d.lastOut]):=hid (fun W hW=>⟨(HT5.out.fr (Fr.of_below (F:=fun _=>False) hW) (fun h=>h)).cell 7,blk_range (off:=30) (HA5.out.fr (Fr.of_below (F:=fun _=>False) hW) (fun h=>h)) rfl,blk_range (off:=0) (HD5.out.fr (Fr.of_below (F:=fun _=>False) hW) (fun h=>h)) rfl⟩)
  refine wp_region_held_drew (S:=fun W=>W.cell? ⟨p,7,none⟩=some (.int .i64 (last+1))/\W.rangeAt w.heap.size 30 [.string (str r.ev.name),q.ev]/\W.rangeAt w1.heap.size 0 [.string (str d.callid),.string (str d.loc.display),.string (str d.loc.uri.scheme),.string (str d.loc.uri.user),.string (str d.loc.uri.host),.int .i64 d.loc.uri.port,v1.lp,v1.lh,v1.la,.string (str d.rem.display),.string (str d.rem.uri.scheme),.string (str d.rem.uri.user),.string (str d.rem.uri.host),.int .i64 d.rem.uri.port,v1.rp,v1.rh,v1.ra,.string (str d.tgt.scheme),.string (str d.tgt.user),.string (str d.tgt.host),.int .i64 d.tgt.port,v1.tp,v1.th,v1.ro,.int .i64 d.lastIn,.int .i64 d.lastOut]) (by kernel_rfl) (HS.out _ (Below.refl _ _).drew) (fun hHeld=>?_)
  refine wpAnyH_take (i:=0) (oi:=?oi26) (v:=?v26) ?ho26 ?ka26 ?kb26 ?kc26 (fun _ _ _ h=>h) (Or.inl ⟨?kw26,?hy26⟩) (by assumption) ?rest26
  case ho26=>(simp only [List.getElem?_toArray,List.getElem?_cons_zero,List.getElem?_cons_succ];rfl)
  case ka26=>kernel_rfl
  case kb26=>kernel_rfl
  case kc26=>kernel_rfl
  case kw26=>rfl
  case hy26=>(intro wq hSw;(try dsimp only at hSw);go_simp;try with_reducible rfl)
  try simp only [Act.put,List.setIfInBounds_toArray,List.set_cons_zero,List.set_cons_succ]
  refine wpAnyH_take (i:=1) (oi:=?oi27) (v:=?v27) ?ho27 ?ka27 ?kb27 ?kc27 (fun _ _ _ h=>h) (Or.inl ⟨?kw27,?hy27⟩) (by assumption) ?rest27
  case ho27=>(simp only [List.getElem?_toArray,List.getElem?_cons_zero,List.getElem?_cons_succ];rfl)
  case ka27=>kernel_rfl
  case kb27=>kernel_rfl
  case kc27=>kernel_rfl
  case kw27=>rfl
  case hy27=>(intro wq hSw;(try dsimp only at hSw);go_simp;try with_reducible rfl)
  try simp only [Act.put,List.setIfInBounds_toArray,List.set_cons_zero,List.set_cons_succ]
  refine wpAnyH_take (i:=2) (oi:=?oi28) (v:=?v28) ?ho28 ?ka28 ?kb28 ?kc28 (fun _ _ _ h=>h) (Or.inl ⟨?kw28,?hy28⟩) (by assumption) ?rest28
  case ho28=>(simp only [List.getElem?_toArray,List.getElem?_cons_zero,List.getElem?_cons_succ];rfl)
  case ka28=>kernel_rfl
  case kb28=>kernel_rfl
  case kc28=>kernel_rfl
  case kw28=>rfl
  case hy28=>(intro wq hSw;(try dsimp only at hSw);go_simp;try with_reducible rfl)
  try simp only [Act.put,List.setIfInBounds_toArray,List.set_cons_zero,List.set_cons_succ]
  refine wpAnyH_take (i:=3) (oi:=?oi29) (v:=?v29) ?ho29 ?ka29 ?kb29 ?kc29 (fun _ _ _ h=>h) (Or.inl ⟨?kw29,?hy29⟩) (by assumption) ?rest29
  case ho29=>(simp only [List.getElem?_toArray,List.getElem?_cons_zero,List.getElem?_cons_succ];rfl)
  case ka29=>kernel_rfl
  case kb29=>kernel_rfl
  case kc29=>kernel_rfl
  case kw29=>rfl
  case hy29=>(intro wq hSw;(try dsimp only at hSw);go_simp;try with_reducible rfl)
  try simp only [Act.put,List.setIfInBounds_toArray,List.set_cons_zero,List.set_cons_succ]
  refine wpAnyH_take (i:=4) (oi:=?oi30) (v:=?v30) ?ho30 ?ka30 ?kb30 ?kc30 (fun _ _ _ h=>h) (Or.inl ⟨?kw30,?hy30⟩) (by assumption) ?rest30
  case ho30=>(simp only [List.getElem?_toArray,List.getElem?_cons_zero,List.getElem?_cons_succ];rfl)
  case ka30=>kernel_rfl
  case kb30=>kernel_rfl
  case kc30=>kernel_rfl
  case kw30=>rfl
  case hy30=>(intro wq hSw;(try dsimp only at hSw);go_simp;try with_reducible rfl)
  try simp only [Act.put,List.setIfInBounds_toArray,List.set_cons_zero,List.set_cons_succ]
  refine wpAnyH_take (i:=5) (oi:=?oi31) (v:=?v31) ?ho31 ?ka31 ?kb31 ?kc31 (fun _ _ _ h=>h) (Or.inl ⟨?kw31,?hy31⟩) (by assumption) ?rest31
  case ho31=>(simp only [List.getElem?_toArray,List.getElem?_cons_zero,List.getElem?_cons_succ];rfl)
  case ka31=>kernel_rfl
  case kb31=>kernel_rfl
  case kc31=>kernel_rfl
  case kw31=>rfl
  case hy31=>(intro wq hSw;(try dsimp only at hSw);go_simp;try with_reducible rfl)
  try simp only [Act.put,List.setIfInBounds_toArray,List.set_cons_zero,List.set_cons_succ]
  refine wpAnyH_take (i:=6) (oi:=?oi32) (v:=?v32) ?ho32 ?ka32 ?kb32 ?kc32 (fun _ _ _ h=>h) (Or.inl ⟨?kw32,?hy32⟩) (by assumption) ?rest32
  case ho32=>(simp only [List.getElem?_toArray,List.getElem?_cons_zero,List.getElem?_cons_succ];rfl)
  case ka32=>kernel_rfl
  case kb32=>kernel_rfl
  case kc32=>kernel_rfl
  case kw32=>rfl
  case hy32=>(intro wq hSw;(try dsimp only at hSw);go_simp;try with_reducible rfl)
  try simp only [Act.put,List.setIfInBounds_toArray,List.set_cons_zero,List.set_cons_succ]
  refine wpAnyH_take (i:=7) (oi:=?oi33) (v:=.agg ([.string (str r.ev.name),q.ev]).toArray) ?ho33 ?ka33 ?kb33 ?kc33 (fun _ _ _ h=>h) ?hy33 (by assumption) ?rest33
  case ho33=>(simp only [List.getElem?_toArray,List.getElem?_cons_zero,List.getElem?_cons_succ];rfl)
  case ka33=>kernel_rfl
  case kb33=>kernel_rfl
  case kc33=>kernel_rfl
  case hy33=>exact yieldsIf_load_mid (by rfl) 30 (.tmp 90) rfl w.heap.size 30 rfl [.string (str r.ev.name),q.ev] _ (fun wq hSw=>hSw.2.1) Tryz.underlying30 rfl (by kernel_rfl)
  try simp only [Act.put,List.setIfInBounds_toArray,List.set_cons_zero,List.set_cons_succ]
  refine wpAnyH_take (i:=8) (oi:=?oi34) (v:=?v34) ?ho34 ?ka34 ?kb34 ?kc34 (fun _ _ _ h=>h) (Or.inl ⟨?kw34,?hy34⟩) (by assumption) ?rest34
  case ho34=>(simp only [List.getElem?_toArray,List.getElem?_cons_zero,List.getElem?_cons_succ];rfl)
  case ka34=>kernel_rfl
  case kb34=>kernel_rfl
  case kc34=>kernel_rfl
  case kw34=>rfl
  case hy34=>(intro wq hSw;(try dsimp only at hSw);go_simp;try with_reducible rfl)
  try simp only [Act.put,List.setIfInBounds_toArray,List.set_cons_zero,List.set_cons_succ]
  refine wpAnyH_take (i:=9) (oi:=?oi35) (v:=.agg ([.string (str d.callid),.string (str d.loc.display),.string (str d.loc.uri.scheme),.string (str d.loc.uri.user),.string (str d.loc.uri.host),.int .i64 d.loc.uri.port,v1.lp,v1.lh,v1.la,.string (str d.rem.display),.string (str d.rem.uri.scheme),.string (str d.rem.uri.user),.string (str d.rem.uri.host),.int .i64 d.rem.uri.port,v1.rp,v1.rh,v1.ra,.string (str d.tgt.scheme),.string (str d.tgt.user),.string (str d.tgt.host),.int .i64 d.tgt.port,v1.tp,v1.th,v1.ro,.int .i64 d.lastIn,.int .i64 d.lastOut]).toArray) ?ho35 ?ka35 ?kb35 ?kc35 (fun _ _ _ h=>h) ?hy35 (by assumption) ?rest35
  case ho35=>(simp only [List.getElem?_toArray,List.getElem?_cons_zero,List.getElem?_cons_succ];rfl)
  case ka35=>kernel_rfl
  case kb35=>kernel_rfl
  case kc35=>kernel_rfl
  case hy35=>exact yieldsIf_load_mid (by rfl) 37 (.tmp 16) rfl w1.heap.size 0 rfl [.string (str d.callid),.string (str d.loc.display),.string (str d.loc.uri.scheme),.string (str d.loc.uri.user),.string (str d.loc.uri.host),.int .i64 d.loc.uri.port,v1.lp,v1.lh,v1.la,.string (str d.rem.display),.string (str d.rem.uri.scheme),.string (str d.rem.uri.user),.string (str d.rem.uri.host),.int .i64 d.rem.uri.port,v1.rp,v1.rh,v1.ra,.string (str d.tgt.scheme),.string (str d.tgt.user),.string (str d.tgt.host),.int .i64 d.tgt.port,v1.tp,v1.th,v1.ro,.int .i64 d.lastIn,.int .i64 d.lastOut] _ (fun wq hSw=>hSw.2.2) Tryz.underlying37 rfl (by kernel_rfl)
  try simp only [Act.put,List.setIfInBounds_toArray,List.set_cons_zero,List.set_cons_succ]
  refine wpAnyH_take (i:=10) (oi:=?oi36) (v:=?v36) ?ho36 ?ka36 ?kb36 ?kc36 (fun _ _ _ h=>h) (Or.inl ⟨?kw36,?hy36⟩) (by assumption) ?rest36
  case ho36=>(simp only [List.getElem?_toArray,List.getElem?_cons_zero,List.getElem?_cons_succ];rfl)
  case ka36=>kernel_rfl
  case kb36=>kernel_rfl
  case kc36=>kernel_rfl
  case kw36=>rfl
  case hy36=>(intro wq hSw;(try dsimp only at hSw);go_simp;try with_reducible rfl)
  try simp only [Act.put,List.setIfInBounds_toArray,List.set_cons_zero,List.set_cons_succ]
  refine wpAnyH_ready (rs:=[11]) (by kernel_rfl) (by simp) ?_
  refine AllReadyH.cons (o:=?oi37) ?ho37 (fun K hK=>?st37) AllReadyH.nil
  case ho37=>(simp only [List.getElem?_toArray,List.getElem?_cons_zero,List.getElem?_cons_succ];rfl)
  go_simp
  have hk6:Blk ((w5.alloc (.cells #[.int .i64 (last+1),.string (str who),.string (str watcher),.string (str r.ev.name),q.ev,.int .i64 state,.string ⟨#[]⟩,.int .i64 0,.string (str d.callid),.string (str d.loc.display),.string (str d.loc.uri.scheme),.string (str d.loc.uri.user),.string (str d.loc.uri.host),.int .i64 d.loc.uri.port,v1.lp,v1.lh,v1.la,.string (str d.rem.display),.string (str d.rem.uri.scheme),.string (str d.rem.uri.user),.string (str d.rem.uri.host),.int .i64 d.rem.uri.port,v1.rp,v1.rh,v1.ra,.string (str d.tgt.scheme),.string (str d.tgt.user),.string (str d.tgt.host),.int .i64 d.tgt.port,v1.tp,v1.th,v1.ro,.int .i64 d.lastIn,.int .i64 d.lastOut] 39)).drew) w5.heap.size 39 (subA (newB last r who watcher state d) ⟨q.ev,v1.lp,v1.lh,v1.la,v1.rp,v1.rh,v1.ra,v1.tp,v1.th,v1.ro⟩):=(Blk.new w5 _ _).drewN 1
  have hb6:Below w5.heap.size w5 ((w5.alloc (.cells #[.int .i64 (last+1),.string (str who),.string (str watcher),.string (str r.ev.name),q.ev,.int .i64 state,.string ⟨#[]⟩,.int .i64 0,.string (str d.callid),.string (str d.loc.display),.string (str d.loc.uri.scheme),.string (str d.loc.uri.user),.string (str d.loc.uri.host),.int .i64 d.loc.uri.port,v1.lp,v1.lh,v1.la,.string (str d.rem.display),.string (str d.rem.uri.scheme),.string (str d.rem.uri.user),.string (str d.rem.uri.host),.int .i64 d.rem.uri.port,v1.rp,v1.rh,v1.ra,.string (str d.tgt.scheme),.string (str d.tgt.user),.string (str d.tgt.host),.int .i64 d.tgt.port,v1.tp,v1.th,v1.ro,.int .i64 d.lastIn,.int .i64 d.lastOut] 39)).drew):=((Below.refl _ _).alloc (Nat.le_refl _) _).drew
  obtain ⟨u6,hu⟩:∃ u,(w5.alloc (.cells #[.int .i64 (last+1),.string (str who),.string (str watcher),.string (str r.ev.name),q.ev,.int .i64 state,.string ⟨#[]⟩,.int .i64 0,.string (str d.callid),.string (str d.loc.display),.string (str d.loc.uri.scheme),.string (str d.loc.uri.user),.string (str d.loc.uri.host),.int .i64 d.loc.uri.port,v1.lp,v1.lh,v1.la,.string (str d.rem.display),.string (str d.rem.uri.scheme),.string (str d.rem.uri.user),.string (str d.rem.uri.host),.int .i64 d.rem.uri.port,v1.rp,v1.rh,v1.ra,.string (str d.tgt.scheme),.string (str d.tgt.user),.string (str d.tgt.host),.int .i64 d.tgt.port,v1.tp,v1.th,v1.ro,.int .i64 d.lastIn,.int .i64 d.lastOut] 39)).drew=u:=⟨_,rfl⟩
  rw [hu] at hk6 hb6 ⊢
  clear hu
  have HB6:=hid hb6
  have HK6:=hid hk6
  refine hK.out _ _ (HS.out _ HB6.out) (fun hHeld=>?_)
  clear hK K hk6 hb6
  try simp only [Act.put,List.setIfInBounds_toArray,List.set_cons_zero,List.set_cons_succ]
  refine wpAnyH_take (i:=12) (oi:=?oi38) (v:=?v38) ?ho38 ?ka38 ?kb38 ?kc38 (fun _ _ _ h=>h) (Or.inl ⟨?kw38,?hy38⟩) (by assumption) ?rest38
  case ho38=>(simp only [List.getElem?_toArray,List.getElem?_cons_zero,List.getElem?_cons_succ];rfl)
  case ka38=>kernel_rfl
  case kb38=>kernel_rfl
  case kc38=>kernel_rfl
  case kw38=>rfl
  case hy38=>(intro wq hSw;(try dsimp only at hSw);go_simp;try with_reducible rfl)
  try simp only [Act.put,List.setIfInBounds_toArray,List.set_cons_zero,List.set_cons_succ]
  refine wpAnyH_done (by kernel_rfl) ?_ _
  refine NoPanic.normal ?_
  clear hHeld HS
  have i31:u6.cell? ⟨w.heap.size,31,none⟩=some q.ev:=(HA5.out.fr (Fr.of_below (F:=fun _=>False) HB6.out) (fun h=>h)).cell 31
  have HS4:=hid HB3.out.size
  have HS5:=hid HF5'.out.size
  have HP6:Hid (PrB u6 B r.ev.params q.ev):=hid ((prb_top (HPE.out.below (HB3.out.mono HBB.out)) (Nat.le_trans HBB.out HS4.out) HT4.out.top HF5'.out).below (HB6.out.mono (Nat.le_trans HBB.out (Nat.le_trans HS4.out HS5.out))))
  have HEV:=hid (clone_prm HP6.out (Nat.le_trans HBB.out (Nat.le_trans HS4.out (Nat.le_trans HS5.out HB6.out.size))) HZ.out.ev)
  obtain ⟨A0,c0,hq9⟩:=HQE.out
  rw [hq9] at i31 HEV
  go_upto_region 16 with (go_at_call 37;refine (HEV.out).mono ?_;rintro e w7 ⟨A7,c7,rfl,m7,hb7⟩;have HM7:=hid m7;have HB7:=hid hb7;have i4:w7.cell? ⟨w5.heap.size,4,none⟩=some q.ev:=(HK6.out.fr (Fr.of_below (F:=fun _=>False) hb7) (fun h=>h)).cell 4;have z4:w7.frozen? ⟨w5.heap.size,4,none⟩=false:=(HK6.out.fr (Fr.of_below (F:=fun _=>False) hb7) (fun h=>h)).frozen 4;clear m7 hb7)
  have hk7:=HK6.out.fr (Fr.of_below (F:=fun _=>False) HB7.out) (fun h=>h)
  have hf8:Fr (fun k=>k=w5.heap.size) w7 (w7.setCell ⟨w5.heap.size,4,none⟩ (.slice A7 r.ev.params.length c7)):=(Fr.refl (fun k=>k=w5.heap.size) w7).set (p:=⟨w5.heap.size,4,none⟩) (fun _=>rfl) _
  have hk8:Blk (w7.setCell ⟨w5.heap.size,4,none⟩ (.slice A7 r.ev.params.length c7)) w5.heap.size 39 (subA (newB last r who watcher state d) ⟨.slice A7 r.ev.params.length c7,v1.lp,v1.lh,v1.la,v1.rp,v1.rh,v1.ra,v1.tp,v1.th,v1.ro⟩):=hk7.set_ 4 _
  obtain ⟨w8,hw8⟩:∃ w8,w7.setCell ⟨w5.heap.size,4,none⟩ (.slice A7 r.ev.params.length c7)=w8:=⟨_,rfl⟩
  rw [hw8] at hf8 hk8 ⊢
  clear hw8
  have HG:=hid (bgm_make HI.out HB0.out HT4.out HB3.out HF5'.out HT5.out HB6.out HB7.out hk7 hf8 hk8 HR5.out HM7.out HM4.out)
  obtain ⟨w9,hu9,hg9⟩:=HG.out.put (last+1)
  have t8:w8.cell? ⟨p,8,none⟩=some (.map (some bm)):=HG.out.top.cell 8
  have n0:w8.cell? ⟨w5.heap.size,0,none⟩=some (.int .i64 (last+1)):=HG.out.blk.cell 0
  have HG9:=hid hg9
  have HLS:=hid (lasts_any (now:=now) (n:=N) HG9.out.top HG9.out.blk HG9.out.wh HTI.out.1 HTI.out.2 HSN.out.1 HSN.out.2)
  clear hk7 hf8 hk8 hg9 HM7 i4 z4 i31 hq9
  go_wp2_with fail
  go_still_tail 9,(by kernel_rfl)
  go_wp2_with fail
  refine (HLS.out).mono ?_
  rintro e w10 ⟨rfl,ht⟩
  obtain ⟨FW',hg10⟩:=HG9.out.turn (fun W h=>h.lasts now N) ht
  have HG10:=hid hg10
  have HCP:=hid (scopied_any HG10.out.blk HG10.out.sub (HZB.out.lasts now N))
  clear ht hg10
  go_wp2_with fail
  refine (HCP.out).mono ?_
  rintro e w11 ⟨v11,rfl,m11,hb11⟩
  have HM11:=hid m11
  have HB11:=hid hb11
  have HK11:=hid (HG10.out.res.fr (Fr.of_below (F:=fun _=>False) hb11) (fun h=>h))
  clear m11 hb11
  go_wp2_with (first|(refine wpl_store rfl 39 (.tmp 14) (.tmp 119) rfl (w.heap.size+1) 0 rfl (subA (lastsS (newB last r who watcher state d) now N) v11) rfl HK11.out (Nat.le_refl 34) (subA (lastsS (newB last r who watcher state d) now N) v11) rfl (by kernel_rfl) (subA_one HM11.out.ok.1 HM11.out.ok.2) ?_;intro wz hkz hfz))
  exact ret_cell2 rfl rfl rfl rfl hkz _ Tryz.underlying39 rfl (by kernel_rfl) (sbeg_fin HI.out HQ.out HLN.out HZB.out HST.out HTI.out.1 HTI.out.2 HSN.out.1 HSN.out.2 HG10.out HB11.out hfz HK11.out HM11.out HE.out)
end Go.Proofs.YthkadehlclcggaaGreatDoor
