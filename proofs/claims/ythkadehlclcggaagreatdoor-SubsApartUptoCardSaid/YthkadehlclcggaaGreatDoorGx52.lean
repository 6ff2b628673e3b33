/- Chapter 19: Sent, Set. Chapter 19: Set. Chapter 19: dialog.own, dialog.tagged. Chapter 19: dialog.tagged. Chapter 19: requests and dialogs in memory. -/
import Derived.Test.YthkadehlclcggaaGreatDoorGx50
import Derived.Test.YthkadehlclcggaaGreatDoorGx51
namespace Go.Proofs.YthkadehlclcggaaGreatDoor
set_option linter.unusedSimpArgs false
set_option linter.unusedVariables false
open Go.RowKit
open Go.Lib (hid)
theorem TabTo.same {p:Nat} {c:Conf} {last:Int} {L:List SubP} {F:Nat->Prop} {w:World} (H:Sb w p c last L F):TabTo p c last L F w w:=⟨F,H,Fr.refl _ _,fun k h=>.inl h⟩
theorem SubM.as {w:World} {s s':SubP} {v:SlV} (h:SubM w s v) (e1:s'.ev=s.ev) (e2:s'.dlg.loc=s.dlg.loc) (e3:s'.dlg.rem=s.dlg.rem) (e4:s'.dlg.tgt=s.dlg.tgt) (e5:s'.dlg.routes=s.dlg.routes):SubM w s' v:=by
 obtain ⟨a1,a2,a3,a4,a5,a6,a7,a8,a9,a10⟩:=h
 rw [<-e1] at a1
 rw [<-e2] at a2 a3 a4
 rw [<-e3] at a5 a6 a7
 rw [<-e4] at a8 a9
 rw [<-e5] at a10
 exact ⟨a1,a2,a3,a4,a5,a6,a7,a8,a9,a10⟩
theorem SubZ.as {s s':SubP} (h:SubZ s) (e1:s'.ev=s.ev) (e2:s'.dlg.loc=s.dlg.loc) (e3:s'.dlg.rem=s.dlg.rem) (e4:s'.dlg.tgt=s.dlg.tgt) (e5:s'.dlg.routes=s.dlg.routes):SubZ s':=by
 obtain ⟨a1,a2,a3,a4,a5,a6,a7,a8,a9,a10,a11,a12,a13⟩:=h
 rw [<-e1] at a1 a11
 rw [<-e2] at a2 a3 a4 a12
 rw [<-e3] at a5 a6 a7 a13
 rw [<-e4] at a8 a9
 rw [<-e5] at a10
 exact ⟨a1,a2,a3,a4,a5,a6,a7,a8,a9,a10,a11,a12,a13⟩
theorem TurnS.cells {w w':World} {b pw:Nat} {s':SubP} {v:SlV} {l:List TM} {FW:Nat->Prop} (hw:Wh w pw l FW) (hb:¬FW b) (hf:Fr (fun k=>k=b) w w') (hk:Blk w' b 39 (subA s' v)):TurnS w w' b pw s' v l FW :=
 ⟨FW,hk,hw.fr hf (fun k hk e=>hb (e▸hk)),hf.mono fun k _ e=>.inl e,fun k h=>.inl h⟩
def StdPost (p:Nat) (c:Conf) (last:Int) (R:SetR) (F:Nat->Prop) (w:World) (e:Ending) (w':World):Prop:=e=.returned (.int .i64 R.err)/\TabTo p c last R.L F w w'
set_option maxRecDepth 100000 in
set_option maxHeartbeats 4000000 in
theorem ssent_any {w:World} {p:Nat} {c:Conf} {last:Int} {L:List SubP} {F:Nat->Prop} (H:Sb w p c last L F) (n out:Int) :
 Calls Tryz.prog 26 #[.pointer (some ⟨p,0,none⟩),.int .i64 n,.int .i64 out] w (StdPost p c last (sentS L n out) F w):=by
 have HSAME:=hid (TabTo.same H)
 obtain ⟨xs,l,bm,pw,km,FW,rfl,H,Q⟩:=H
 have hm:=hid (smade_any (pw:=pw) H.top)
 have k8:w.cell? ⟨p,8,none⟩=some (.map (some bm)):=H.top.cell 8
 have hlk:=H.mm.lookup (T:=82) (E:=92) (intLaw Tryz.underlying3) Tryz.underlying82 (zsub w) n true
 have hnd:=subs_idnd Q.ids
 by_cases hin:n∈(xs.map (·.s)).map (·.number)
 .obtain ⟨x,hx,hxn⟩:∃ x∈xs,x.s.number=n:=by
   rw [List.map_map] at hin
   exact List.mem_map.1 hin
  subst hxn
  have hg:=H.getm hnd hx
  have hlk':(Instr.lookup 82 (.map (some bm)) (.int .i64 x.s.number) true).run Tryz.prog w=.ok (.tuple #[.pointer (some ⟨x.b,0,none⟩),.bool true]) w:=by rw [hg] at hlk;exact hlk
  have hfi:=find_num hnd (List.mem_map.2 ⟨x,hx,rfl⟩) (n:=x.s.number) rfl
  have c33:w.cell? ⟨x.b,33,none⟩=some (.int .i64 x.s.dlg.lastOut):=(H.its x hx).cell 33
  have j33:=(H.its x hx).frozen 33
  by_cases ho:out<=x.s.dlg.lastOut\/2147483647<out
  .have HE:Hid (sentS (xs.map (·.s)) x.s.number out=⟨xs.map (·.s),180⟩):=hid (by
    unfold sentS
    rw [hfi]
    exact if_pos ho)
   have hway:(decide (out<=x.s.dlg.lastOut)=true)\/(decide (out<=x.s.dlg.lastOut)=false/\decide ((2147483647:Int)<out)=true):=by
    by_cases h9:out<=x.s.dlg.lastOut
    .exact .inl (decide_eq_true h9)
    .exact .inr ⟨decide_eq_false h9,decide_eq_true (by omega)⟩
   clear hlk hnd hfi ho hin hg H Q j33
   generalize x.s.number=num at *
   generalize x.s.dlg.lastOut=lo at *
   rcases hway with d1|⟨d1,d2⟩
   all_goals
    go_enter Tryz.func26,Tryz.ntmps26
    go_wp2_with fail
    refine (hm.out).mono ?_
    rintro e w' ⟨rfl,rfl⟩
    go_wp2
    go_ret
    exact ⟨by rw [HE.out];rfl,by rw [HE.out];exact HSAME.out⟩
  .have d1:decide (out<=x.s.dlg.lastOut)=false:=decide_eq_false (by omega)
   have d2:decide ((2147483647:Int)<out)=false:=decide_eq_false (by omega)
   have q1:¬out<=x.s.dlg.lastOut:=by omega
   have q2:¬(2147483647:Int)<out:=by omega
   have HE:Hid (sentS (xs.map (·.s)) x.s.number out=⟨setS (xs.map (·.s)) { x.s with dlg:={ x.s.dlg with lastOut:=out } },0⟩):=hid (by
    unfold sentS
    rw [hfi]
    exact if_neg ho)
   have HEND:Hid (StdPost p c last (sentS (xs.map (·.s)) x.s.number out) F w (.returned (.int .i64 0)) (w.setCell ⟨x.b,33,none⟩ (.int .i64 out))):=hid (by
    rw [HE.out]
    have hf:Fr (fun k=>k=x.b) w (w.setCell ⟨x.b,33,none⟩ (.int .i64 out)):=(Fr.refl (fun k=>k=x.b) w).set (p:=⟨x.b,33,none⟩) (fun _=>rfl) _
    have hk:Blk (w.setCell ⟨x.b,33,none⟩ (.int .i64 out)) x.b 39 (subA { x.s with dlg:={ x.s.dlg with lastOut:=out } } x.v):=blk_setCells [.int .i64 out] (off:=33) (H.its x hx) (show 34<=34 by omega)
    have hmm:=((H.sub x hx).fr hf (keepP_blk (H.its x hx) (by decide) (by decide))).as (s':={ x.s with dlg:={ x.s.dlg with lastOut:=out } }) rfl rfl rfl rfl rfl
    obtain ⟨FW',a,b,d⟩:=H.put (s':={ x.s with dlg:={ x.s.dlg with lastOut:=out } }) (v':=x.v) hx rfl hmm (TurnS.cells H.wh (H.fwx hx) hf hk)
    exact ⟨rfl,_,⟨_,_,_,_,_,_,putX_s H.nd hnd hx rfl,a,Q.putS (List.mem_map.2 ⟨x,hx,rfl⟩) rfl ((Q.z _ (List.mem_map.2 ⟨x,hx,rfl⟩)).as rfl rfl rfl rfl rfl) rfl Iff.rfl⟩,b,d⟩)
   clear hlk hnd hfi ho hin hg H Q
   generalize sentS (xs.map (·.s)) x.s.number out=RR at *
   generalize x.s.number=num at *
   generalize x.s.dlg.lastOut=lo at *
   go_enter Tryz.func26,Tryz.ntmps26
   go_wp2_with fail
   refine (hm.out).mono ?_
   rintro e w' ⟨rfl,rfl⟩
   go_wp2
   go_ret
   exact HEND.out
 .have hg:=H.nom hin
  have hlk':(Instr.lookup 82 (.map (some bm)) (.int .i64 n) true).run Tryz.prog w=.ok (.tuple #[.pointer none,.bool false]) w:=by rw [hg] at hlk;exact hlk
  have HE:Hid (sentS (xs.map (·.s)) n out=⟨xs.map (·.s),6⟩):=hid (by
   unfold sentS
   rw [find_noneS hin])
  clear hlk hg hin hnd H Q
  go_enter Tryz.func26,Tryz.ntmps26
  go_wp2_with fail
  refine (hm.out).mono ?_
  rintro e w' ⟨rfl,rfl⟩
  go_wp2
  go_ret
  exact ⟨by rw [HE.out];rfl,by rw [HE.out];exact HSAME.out⟩
set_option maxRecDepth 100000 in
set_option maxHeartbeats 4000000 in
theorem sset_any {w:World} {p:Nat} {c:Conf} {last:Int} {L:List SubP} {F:Nat->Prop} (H:Sb w p c last L F) (n state:Int) (reason:T) :
 Calls Tryz.prog 25 #[.pointer (some ⟨p,0,none⟩),.int .i64 n,.int .i64 state,.string (str reason)] w (StdPost p c last (putS L n state reason) F w):=by
 have HSAME:=hid (TabTo.same H)
 obtain ⟨xs,l,bm,pw,km,FW,rfl,H,Q⟩:=H
 have hm:=hid (smade_any (pw:=pw) H.top)
 have k8:w.cell? ⟨p,8,none⟩=some (.map (some bm)):=H.top.cell 8
 have hlk:=H.mm.lookup (T:=82) (E:=92) (intLaw Tryz.underlying3) Tryz.underlying82 (zsub w) n true
 have hnd:=subs_idnd Q.ids
 by_cases hin:n∈(xs.map (·.s)).map (·.number)
 .obtain ⟨x,hx,hxn⟩:∃ x∈xs,x.s.number=n:=by
   rw [List.map_map] at hin
   exact List.mem_map.1 hin
  subst hxn
  have hg:=H.getm hnd hx
  have hlk':(Instr.lookup 82 (.map (some bm)) (.int .i64 x.s.number) true).run Tryz.prog w=.ok (.tuple #[.pointer (some ⟨x.b,0,none⟩),.bool true]) w:=by rw [hg] at hlk;exact hlk
  have hfi:=find_num hnd (List.mem_map.2 ⟨x,hx,rfl⟩) (n:=x.s.number) rfl
  have hxs:x.s∈xs.map (·.s):=List.mem_map.2 ⟨x,hx,rfl⟩
  have c5:w.cell? ⟨x.b,5,none⟩=some (.int .i64 x.s.state):=(H.its x hx).cell 5
  have c6:w.cell? ⟨x.b,6,none⟩=some (.string (str x.s.reason)):=(H.its x hx).cell 6
  have j5:=(H.its x hx).frozen 5
  have j6:=(H.its x hx).frozen 6
  by_cases h2:x.s.state=2
  .have HE:Hid (putS (xs.map (·.s)) x.s.number state reason=⟨xs.map (·.s),6⟩):=hid (by
    unfold putS
    rw [hfi]
    exact if_pos h2)
   rw [h2] at c5
   clear hlk hnd hfi hin hg H Q h2 hxs j5 j6 c6
   generalize x.s.number=num at *
   go_enter Tryz.func25,Tryz.ntmps25
   go_wp2_with fail
   refine (hm.out).mono ?_
   rintro e w' ⟨rfl,rfl⟩
   go_wp2
   go_ret
   exact ⟨by rw [HE.out];rfl,by rw [HE.out];exact HSAME.out⟩
  .have b2:(x.s.state == 2)=false:=by simpa using h2
   by_cases h3:state=2
   .subst h3
    have HE:Hid (putS (xs.map (·.s)) x.s.number 2 reason=⟨setS (xs.map (·.s)) (overS x.s reason),0⟩):=hid (by
     unfold putS
     rw [hfi]
     show (if x.s.state=2 then _ else _)=_
     rw [if_neg h2,if_neg (by simp)]
     rfl)
    have HO:=hid (over_any (reason:=reason) H.top (H.its x hx) H.wh)
    have HEND:Hid (∀ w',TurnS w w' x.b pw (overS x.s reason) x.v (rStop l x.s.number) FW->StdPost p c last (putS (xs.map (·.s)) x.s.number 2 reason) F w (.returned (.int .i64 0)) w'):=hid (fun w' ht=>by
     rw [HE.out]
     have hmm:SubM w' (overS x.s reason) x.v:=by
      obtain ⟨F',_,_,hf,_⟩:=ht.ex
      exact ((H.sub x hx).fr hf (fun b ds T fr hb hT q=>by
       rcases q with q|q
       .exact keepP_blk (H.its x hx) (by decide) (by decide) b ds T fr hb hT q
       .exact H.keeps b ds T fr hb hT ((H.ff b).2 (.inr (.inr (.inr q)))))).as (s':=overS x.s reason) rfl rfl rfl rfl rfl
     obtain ⟨FW',a,b,d⟩:=H.put (s':=overS x.s reason) (v':=x.v) hx rfl hmm ht
     exact ⟨rfl,_,⟨_,_,_,_,_,_,putX_s H.nd hnd hx rfl,a,Q.putO hxs rfl ((Q.z _ hxs).as rfl rfl rfl rfl rfl) rfl⟩,b,d⟩)
    clear hlk hnd hfi hin hg H Q h2 hxs j5 j6 c6
    unfold OvPost at HO
    generalize putS (xs.map (·.s)) x.s.number 2 reason=RR at *
    go_enter Tryz.func25,Tryz.ntmps25
    go_wp2_with fail
    refine (hm.out).mono ?_
    rintro e w' ⟨rfl,rfl⟩
    go_wp2_with fail
    refine (HO.out).mono ?_
    rintro e w1 ⟨rfl,ht⟩
    have HP:=hid (HEND.out w1 ht)
    clear ht
    go_wp2
    go_ret
    exact HP.out
   .have b3:(state == 2)=false:=by simpa using h3
    by_cases h4:state=0\/state=1
    .have HE:Hid (putS (xs.map (·.s)) x.s.number state reason=⟨setS (xs.map (·.s)) { x.s with state:=state,reason:=reason },0⟩):=hid (by
      unfold putS
      rw [hfi]
      show (if x.s.state=2 then _ else _)=_
      rw [if_neg h2,if_neg (by rcases h4 with h|h <;> simp [h])])
     have hway:(state == 0)=true\/((state == 0)=false/\(state == 1)=true):=by
      rcases h4 with h|h <;> subst h <;> simp
     have HEND:Hid (StdPost p c last (putS (xs.map (·.s)) x.s.number state reason) F w (.returned (.int .i64 0)) ((w.setCell ⟨x.b,5,none⟩ (.int .i64 state)).setCell ⟨x.b,6,none⟩ (.string (str reason)))):=hid (by
      rw [HE.out]
      have hf:Fr (fun k=>k=x.b) w ((w.setCell ⟨x.b,5,none⟩ (.int .i64 state)).setCell ⟨x.b,6,none⟩ (.string (str reason))):=fr_setCells x.b [.int .i64 state,.string (str reason)] 5 w
      have hk:Blk ((w.setCell ⟨x.b,5,none⟩ (.int .i64 state)).setCell ⟨x.b,6,none⟩ (.string (str reason))) x.b 39 (subA { x.s with state:=state,reason:=reason } x.v):=blk_setCells [.int .i64 state,.string (str reason)] (off:=5) (H.its x hx) (show 7<=34 by omega)
      have hmm:=((H.sub x hx).fr hf (keepP_blk (H.its x hx) (by decide) (by decide))).as (s':={ x.s with state:=state,reason:=reason }) rfl rfl rfl rfl rfl
      obtain ⟨FW',a,b,d⟩:=H.put (s':={ x.s with state:=state,reason:=reason }) (v':=x.v) hx rfl hmm (TurnS.cells H.wh (H.fwx hx) hf hk)
      exact ⟨rfl,_,⟨_,_,_,_,_,_,putX_s H.nd hnd hx rfl,a,Q.putS hxs rfl ((Q.z _ hxs).as rfl rfl rfl rfl rfl) rfl ⟨fun h=>absurd h h3,fun h=>absurd h h2⟩⟩,b,d⟩)
     clear hlk hnd hfi hin hg H Q h2 h3 h4 hxs
     generalize putS (xs.map (·.s)) x.s.number state reason=RR at *
     generalize x.s.number=num at *
     rcases hway with d1|⟨d1,d2⟩
     all_goals
      go_enter Tryz.func25,Tryz.ntmps25
      go_wp2_with fail
      refine (hm.out).mono ?_
      rintro e w' ⟨rfl,rfl⟩
      go_wp2
      go_ret
      exact HEND.out
    .have HE:Hid (putS (xs.map (·.s)) x.s.number state reason=⟨xs.map (·.s),1⟩):=hid (by
      unfold putS
      rw [hfi]
      show (if x.s.state=2 then _ else _)=_
      rw [if_neg h2,if_pos (by omega)])
     have d1:(state == 0)=false:=by simp;omega
     have d2:(state == 1)=false:=by simp;omega
     clear hlk hnd hfi hin hg H Q h2 h3 h4 hxs j5 j6 c6
     generalize x.s.number=num at *
     go_enter Tryz.func25,Tryz.ntmps25
     go_wp2_with fail
     refine (hm.out).mono ?_
     rintro e w' ⟨rfl,rfl⟩
     go_wp2
     go_ret
     exact ⟨by rw [HE.out];rfl,by rw [HE.out];exact HSAME.out⟩
 .have hg:=H.nom hin
  have hlk':(Instr.lookup 82 (.map (some bm)) (.int .i64 n) true).run Tryz.prog w=.ok (.tuple #[.pointer none,.bool false]) w:=by rw [hg] at hlk;exact hlk
  have HE:Hid (putS (xs.map (·.s)) n state reason=⟨xs.map (·.s),6⟩):=hid (by
   unfold putS
   rw [find_noneS hin])
  clear hlk hg hin hnd H Q
  go_enter Tryz.func25,Tryz.ntmps25
  go_wp2_with fail
  refine (hm.out).mono ?_
  rintro e w' ⟨rfl,rfl⟩
  go_wp2
  go_ret
  exact ⟨by rw [HE.out];rfl,by rw [HE.out];exact HSAME.out⟩
def addr0:Array Value:=#[.string ⟨#[]⟩,.string ⟨#[]⟩,.string ⟨#[]⟩,.string ⟨#[]⟩,.int .i64 0,.slice none 0 0,.slice none 0 0,.slice none 0 0]
theorem addrA_one {a:AddrP} {vp vh va:Value} (h1:vp.oneCell'=true) (h2:vh.oneCell'=true) (h3:va.oneCell'=true):(addrA a vp vh va).all (·.oneCell')=true:=by
 have e1:∀ s,(Value.string s).oneCell'=true:=fun _=>rfl
 have e2:∀ k n,(Value.int k n).oneCell'=true:=fun _ _=>rfl
 simp [addrA,e1,e2,h1,h2,h3]
theorem cloned_lit {u:Uri} {vp vh:Value} {B:Nat} {w:World} (hB:B<=w.heap.size) (hp:PrB w B u.params vp) (hh:PrB w B u.headers vh) (h1:u.params.length<=2000000) (h2:u.headers.length<=2000000) :
 Calls Tryz.prog 66 #[.agg #[.string (str u.scheme),.string (str u.user),.string (str u.host),.int .i64 u.port,vp,vh]] w fun e w'=>∃ A5 c5 A6 c6,e=.returned (.agg #[.string (str u.scheme),.string (str u.user),.string (str u.host),.int .i64 u.port,.slice A5 u.params.length c5,.slice A6 u.headers.length c6])/\PrM w' u.params (.slice A5 u.params.length c5)/\PrM w' u.headers (.slice A6 u.headers.length c6)/\Below w.heap.size w w':=by
 refine (cloned_any hB hp hh h1 h2).mono ?_
 rintro e w' ⟨v5,v6,rfl,m1,m2,hb⟩
 have q1:=m1
 have q2:=m2
 obtain ⟨A5,c5,rfl,_⟩:=q1
 obtain ⟨A6,c6,rfl,_⟩:=q2
 exact ⟨A5,c5,A6,c6,rfl,m1,m2,hb⟩
structure AdM (w:World) (a:AddrP) (vp vh va:Value):Prop where
 p:PrM w a.uri.params vp
 h:PrM w a.uri.headers vh
 a:PrM w a.params va
structure AdL (a:AddrP):Prop where
 p:a.uri.params.length<=2000000
 h:a.uri.headers.length<=2000000
 a:a.params.length<=2000000
theorem AdM.fr {w w':World} {G:Nat->Prop} {a:AddrP} {vp vh va:Value} (h:AdM w a vp vh va) (hf:Fr G w w') (hk:KeepP G w):AdM w' a vp vh va:=⟨h.p.fr hf hk,h.h.fr hf hk,h.a.fr hf hk⟩
theorem AdM.adB {w:World} {a:AddrP} {vp vh va:Value} (h:AdM w a vp vh va):AdB w w.heap.size a vp vh va:=⟨h.p.prB,h.h.prB,h.a.prB⟩
theorem AdM.below {w w':World} {a:AddrP} {vp vh va:Value} (h:AdM w a vp vh va) (hb:Below w.heap.size w w'):AdM w' a vp vh va:=⟨h.p.below hb,h.h.below hb,h.a.below hb⟩
def AdrPost (a:AddrP) (w:World) (e:Ending) (w':World):Prop:=∃ vp vh va,e=.returned (.agg (addrA a vp vh va))/\AdM w' a vp vh va/\Below w.heap.size w w'
def AdrMid (a:AddrP) (w:World) (g:Nat) (wx:World):Prop:=∃ vp vh va,Blk wx g 34 (addrA a vp vh va)/\Blk wx (g+1) 34 addr0/\AdM wx a vp vh va/\Below w.heap.size w wx
structure AdC (W:World) (g:Nat) (a:AddrP) (vp vh va:Value):Prop where
 c1:W.cell? ⟨g,1,none⟩=some (.string (str a.uri.scheme))
 c2:W.cell? ⟨g,2,none⟩=some (.string (str a.uri.user))
 c3:W.cell? ⟨g,3,none⟩=some (.string (str a.uri.host))
 c4:W.cell? ⟨g,4,none⟩=some (.int .i64 a.uri.port)
 c5:W.cell? ⟨g,5,none⟩=some vp
 c6:W.cell? ⟨g,6,none⟩=some vh
 c7:W.cell? ⟨g,7,none⟩=some va
 f:∀ i,W.frozen? ⟨g,i,none⟩=false
theorem addr_c {W:World} {g:Nat} {a:AddrP} {vp vh va:Value} (h:Blk W g 34 (addrA a vp vh va)):AdC W g a vp vh va:=⟨h.cell 1,h.cell 2,h.cell 3,h.cell 4,h.cell 5,h.cell 6,h.cell 7,h.frozen⟩
theorem own_end {a:AddrP} {w w4:World} {g:Nat} {vp vh va v5 v6 v7:Value} (hk:Blk w4 g 34 (addrA a vp vh va)) (hk2:Blk w4 (g+1) 34 addr0) (h1:PrM w4 a.uri.params v5) (h2:PrM w4 a.uri.headers v6) (h3:PrM w4 a.params v7) (hg:w.heap.size<=g) (hb:Below w.heap.size w w4) :
 AdrMid a w g (((((((w4.setCell ⟨g,1,none⟩ (.string (str a.uri.scheme))).setCell ⟨g,2,none⟩ (.string (str a.uri.user))).setCell ⟨g,3,none⟩ (.string (str a.uri.host))).setCell ⟨g,4,none⟩ (.int .i64 a.uri.port)).setCell ⟨g,5,none⟩ v5).setCell ⟨g,6,none⟩ v6).setCell ⟨g,7,none⟩ v7):=by
 show AdrMid a w g (w4.setCells g 1 [.string (str a.uri.scheme),.string (str a.uri.user),.string (str a.uri.host),.int .i64 a.uri.port,v5,v6,v7])
 have hf:=fr_setCells g [.string (str a.uri.scheme),.string (str a.uri.user),.string (str a.uri.host),.int .i64 a.uri.port,v5,v6,v7] 1 w4
 have hn:Blk _ g 34 (addrA a v5 v6 v7):=blk_setCells [.string (str a.uri.scheme),.string (str a.uri.user),.string (str a.uri.host),.int .i64 a.uri.port,v5,v6,v7] (off:=1) hk (Nat.le_refl 8)
 have hkp:=keepP_blk hk (by decide) (by decide)
 have hlt:=hk.lt
 generalize w4.setCells g 1 [.string (str a.uri.scheme),.string (str a.uri.user),.string (str a.uri.host),.int .i64 a.uri.port,v5,v6,v7]=wz at *
 exact ⟨v5,v6,v7,hn,hk2.fr hf (by omega),⟨h1.fr hf hkp,h2.fr hf hkp,h3.fr hf hkp⟩,hb.trans (Fr.to_below hf (by omega) (fun k e=>by omega))⟩
set_option maxRecDepth 100000 in
set_option maxHeartbeats 8000000 in
theorem own_any {a:AddrP} {vp vh va:Value} {B:Nat} {w:World} (hB:B<=w.heap.size) (h:AdB w B a vp vh va) (hl:AdL a) :
 Calls Tryz.prog 65 #[.agg (addrA a vp vh va)] w (AdrPost a w):=by
 obtain ⟨w0,hw0⟩:∃ w0,(w.alloc (.cells (addrA a vp vh va) 34)).alloc (.cells addr0 34)=w0:=⟨_,rfl⟩
 have hb0:Below w.heap.size w w0:=hw0▸((Below.refl _ _).alloc (Nat.le_refl _) _).alloc (by simp) _
 have hka:Blk w0 w.heap.size 34 (addrA a vp vh va):=hw0▸(Blk.new w _ _).alloc _
 have hkb:Blk w0 (w.heap.size+1) 34 addr0:=hw0▸Blk.new' _ _ _ (by simp)
 have HBO:Hid (∀ W,Below w0.heap.size w0 W->AdB W B a vp vh va/\B<=W.heap.size):=hid (fun W hW=>⟨h.below ((hb0.mono hB).trans (hW.mono (Nat.le_trans hB hb0.size))),Nat.le_trans hB (Nat.le_trans hb0.size hW.size)⟩)
 have HT:=hid (fun W hW=>cloned_lit (HBO.out W hW).2 (HBO.out W hW).1.p (HBO.out W hW).1.h hl.p hl.h)
 have HN:=hid (fun W hW=>clone_prm (HBO.out W hW).1.a (HBO.out W hW).2 hl.a)
 have HKA:Hid (∀ W,Below w0.heap.size w0 W->Blk W w.heap.size 34 (addrA a vp vh va)):=hid (fun W hW=>hka.fr (Fr.of_below (F:=fun _=>False) hW) (fun h=>h))
 have HKB:Hid (∀ W,Below w0.heap.size w0 W->Blk W (w.heap.size+1) 34 addr0):=hid (fun W hW=>hkb.fr (Fr.of_below (F:=fun _=>False) hW) (fun h=>h))
 have HB0:=hid hb0
 have HX0:Hid (Below w0.heap.size w0 w0.drew):=hid (Below.refl _ _).drew
 have HEND:=@own_end a w
 obtain ⟨x1,x2,x3,x4,x5,x6,x7,jf⟩:=addr_c hka
 obtain ⟨⟨Ap,cp,rfl,_,_,_⟩,⟨Ah,ch,rfl,_,_,_⟩,⟨Aa,ca,rfl,_,_,_⟩⟩:=h
 clear hb0 hka hkb hl hB HBO
 unfold addr0 addrA at hw0
 show Calls Tryz.prog 65 #[.agg #[.string (str a.display),.string (str a.uri.scheme),.string (str a.uri.user),.string (str a.uri.host),.int .i64 a.uri.port,_,_,_]] w _
 go_enter Tryz.func65,Tryz.ntmps65
 go_upto_region 1 with (fail)
 try rw [hw0]
 clear hw0
 go_cut [] (fun wx=>AdrMid a w w.heap.size wx)
 case first =>
  go_region_with ((first|(go_at_call 66;(with_reducible refine (HT.out _ HX0.out).mono ?_);rintro e w3 ⟨A5,c5,A6,c6,rfl,ho1,ho2,hb1⟩;have HO1:=hid ho1;have HO2:=hid ho2;have HX3:=hid (thenB_ HX0.out hb1);clear hb1 ho1 ho2;obtain ⟨x1,x2,x3,x4,x5,x6,x7,jf⟩:=addr_c (HKA.out w3 HX3.out))|(go_at_call 37;(with_reducible refine (HN.out _ HX3.out).mono ?_);rintro e w4 ⟨A7,c7,rfl,ho1,hb1⟩;have HO3:=hid ho1;have HO1:=hid (HO1.out.below hb1);have HO2:=hid (HO2.out.below hb1);have HX4:=hid (thenB_ HX3.out hb1);clear hb1 ho1;obtain ⟨x1,x2,x3,x4,x5,x6,x7,jf⟩:=addr_c (HKA.out w4 HX4.out))))
  all_goals
   go_wp2_with fail
   go_meet
   exact HEND (HKA.out _ HX4.out) (HKB.out _ HX4.out) HO1.out HO2.out HO3.out (Nat.le_refl _) (thenB_ HB0.out HX4.out)
 case rest =>
  obtain ⟨v5,v6,v7,hk,hk2,hm,hbx⟩:=hcut
  obtain ⟨⟨A5,c5,rfl,_⟩,⟨A6,c6,rfl,_⟩,⟨A7,c7,rfl,_⟩⟩:=id hm
  have HM:=hid hm
  have HBX:=hid hbx
  have HK:=hid hk
  have HK2:=hid hk2
  clear hk hk2 hm hbx
  go_wp2_with (first|(refine wpl_load rfl 34 (.tmp 1) rfl w.heap.size 0 rfl HK.out (addrA a (.slice A5 a.uri.params.length c5) (.slice A6 a.uri.headers.length c6) (.slice A7 a.params.length c7)).toList rfl _ Tryz.underlying34 rfl (by kernel_rfl) ?_)|(refine wpl_store rfl 34 (.tmp 2) (.tmp 11) rfl (w.heap.size+1) 0 rfl (addrA a (.slice A5 a.uri.params.length c5) (.slice A6 a.uri.headers.length c6) (.slice A7 a.params.length c7)) rfl HK2.out (Nat.le_refl 8) (addrA a (.slice A5 a.uri.params.length c5) (.slice A6 a.uri.headers.length c6) (.slice A7 a.params.length c7)) rfl (by kernel_rfl) (addrA_one rfl rfl rfl) ?_;intro wz hkz hfz))
  refine ret_cell rfl rfl rfl hkz _ Tryz.underlying34 rfl (by kernel_rfl) ⟨_,_,_,rfl,HM.out.fr hfz (keepP_blk HK2.out (by decide) (by decide)),HBX.out.trans (Fr.to_below hfz (by have:=HK.out.lt;omega) (fun k e=>by omega))⟩
theorem tag_prm {w4:World} {base:Nat} {l:List Par} {tag:T} {v4:Value} (h:w4.ownsRow base 95 3 v4 (l.length+1) (rows parC l++[.string (str tagN),.string (str tag),.bool true])):PrM w4 (l++[⟨tagN,tag,true⟩]) v4:=by
 have e:rows parC (l++[⟨tagN,tag,true⟩])=rows parC l++[.string (str tagN),.string (str tag),.bool true]:=by rw [rows_append];rfl
 unfold PrM
 rw [e,List.length_append]
 exact RdV.of_own h
theorem below_upfr {w a b:World} {B:Nat} {G:Nat->Prop} (h:Below B w a) (hB:B<=w.heap.size) (hf:Fr G a b) (hG:∀ k,G k->B<=k):Below B w b:=h.trans (Fr.to_below hf (Nat.le_trans hB h.size) hG)
set_option maxRecDepth 100000 in
set_option maxHeartbeats 8000000 in
theorem tagged_any {a:AddrP} {tag:T} {vp vh va:Value} {B:Nat} {w:World} (hB:B<=w.heap.size) (h:AdB w B a vp vh va) (hl:AdL a) :
 Calls Tryz.prog 64 #[.agg (addrA a vp vh va),.string (str tag)] w (AdrPost (tagged a tag) w):=by
 obtain ⟨w0,hw0⟩:∃ w0,(w.alloc (.cells (addrA a vp vh va) 34)).alloc (.cells addr0 34)=w0:=⟨_,rfl⟩
 have hb0:Below w.heap.size w w0:=hw0▸((Below.refl _ _).alloc (Nat.le_refl _) _).alloc (by simp) _
 have hka:Blk w0 w.heap.size 34 (addrA a vp vh va):=hw0▸(Blk.new w _ _).alloc _
 have hkb:Blk w0 (w.heap.size+1) 34 addr0:=hw0▸Blk.new' _ _ _ (by simp)
 have HBO:Hid (∀ W,Below w.heap.size w W->AdB W B a vp vh va/\B<=W.heap.size):=hid (fun W hW=>⟨h.below (hW.mono hB),Nat.le_trans hB hW.size⟩)
 have HT:=hid (fun W hW=>cloned_lit (HBO.out W hW).2 (HBO.out W hW).1.p (HBO.out W hW).1.h hl.p hl.h)
 obtain ⟨⟨Ap,cp,rfl,_,_,_⟩,⟨Ah,ch,rfl,_,_,_⟩,⟨Aa,ca,rfl,_,_,_⟩⟩:=id h
 have HN:Hid (∀ W,Below w.heap.size w W->Calls Tryz.prog 37 #[.slice Aa a.params.length ca] W (CloPost 95 3 a.params.length (rows parC a.params) W)):=hid (fun W hW=>by
  obtain ⟨_,_,e,_,_,hr⟩:=(HBO.out W hW).1.a
  injection e with e1 e2 e3
  subst e1
  subst e3
  exact clone_par (n:=0) hr (HBO.out W hW).2 hl.a)
 have HKA:=hid hka
 have HKB:=hid hkb
 have HB0:=hid hb0
 have HLA:=hid hl.a
 have hlt:=hka.lt
 clear hb0 hka hkb hl hB HBO h
 unfold addr0 addrA at hw0
 show Calls Tryz.prog 64 #[.agg #[.string (str a.display),.string (str a.uri.scheme),.string (str a.uri.user),.string (str a.uri.host),.int .i64 a.uri.port,_,_,_],.string (str tag)] w _
 go_enter Tryz.func64,Tryz.ntmps64
 go_upto_region 1 with (fail)
 try rw [hw0]
 clear hw0
 go_wp2_with (first|(refine wpl_load rfl 32 (.tmp 5) rfl w.heap.size 1 rfl HKA.out [.string (str a.uri.scheme),.string (str a.uri.user),.string (str a.uri.host),.int .i64 a.uri.port,.slice Ap a.uri.params.length cp,.slice Ah a.uri.headers.length ch] rfl _ Tryz.underlying32 rfl (by kernel_rfl) ?_)|fail)
 refine (HT.out _ HB0.out).mono ?_
 rintro e w3 ⟨A5,c5,A6,c6,rfl,m1,m2,hb1⟩
 have hka:=HKA.out.fr (Fr.of_below (F:=fun _=>False) hb1) (fun h=>h)
 have hkb:=HKB.out.fr (Fr.of_below (F:=fun _=>False) hb1) (fun h=>h)
 have HKA3:=hid hka
 have HKB3:=hid hkb
 have HM1:=hid m1
 have HM2:=hid m2
 have HB3:=hid (HB0.out.trans (hb1.mono HB0.out.size))
 clear hka hkb m1 m2 hb1
 go_upto_region 2 with (first|(refine wpl_store rfl 32 (.tmp 8) (.tmp 7) rfl w.heap.size 1 rfl #[.string (str a.uri.scheme),.string (str a.uri.user),.string (str a.uri.host),.int .i64 a.uri.port,.slice A5 a.uri.params.length c5,.slice A6 a.uri.headers.length c6] rfl HKA3.out (show 7<=8 by omega) (addrA a (.slice A5 a.uri.params.length c5) (.slice A6 a.uri.headers.length c6) (.slice Aa a.params.length ca)) rfl (by kernel_rfl) (uriA_one (u:=a.uri) rfl rfl) ?_;intro wz hkz hfz))
 have hgl:w.heap.size<w3.heap.size:=HKA3.out.lt
 have HBZ:=hid (below_upfr HB3.out (Nat.le_refl _) hfz (fun k e=>by omega))
 have HM1Z:=hid (HM1.out.fr hfz (keepP_blk HKA3.out (by decide) (by decide)))
 have HM2Z:=hid (HM2.out.fr hfz (keepP_blk HKA3.out (by decide) (by decide)))
 have HKBZ:=hid (HKB3.out.fr hfz (by omega))
 have HKZ:=hid hkz
 have x7:wz.cell? ⟨w.heap.size,7,none⟩=some (.slice Aa a.params.length ca):=hkz.cell 7
 have hgz:w.heap.size+1<wz.heap.size:=HKBZ.out.lt
 clear hkz hfz hgl
 go_wp2_with fail
 refine (HN.out _ HBZ.out).mono ?_
 rintro e w5 ⟨v',rfl,hrd,hown,hb5⟩
 obtain ⟨A7,c7,rfl,_⟩:=id hrd
 have HO5:=hid hown
 have HB5:=hid hb5
 have HK5:=hid (HKZ.out.fr (Fr.of_below (F:=fun _=>False) hb5) (fun h=>h))
 have HKB5:=hid (HKBZ.out.fr (Fr.of_below (F:=fun _=>False) hb5) (fun h=>h))
 have hs5:=hb5.size
 have hn:=HLA.out
 clear x7 hrd hown hb5
 go_wp2_with (first|(at_builtin;go_must (refine wpList_app1' rfl (.tmp 11) (.tmp 14) 28 rfl wz.heap.size 95 3 40 _ Tryz.underlying28 eC95 rfl (by omega) _ _ _ rfl HO5.out [.string ⟨#[116,97,103]⟩,.string (str tag),.bool true] _ rfl (by simp) rfl (by simp [Value.oneCell']) (by unfold maxLen;omega) (by omega) (by omega) ?_);intro v4 w6 hown6 hb6 hg6 hat6;obtain ⟨g9,c9,rfl⟩:=own_pos hown6 (by omega);have hf6:=Fr.of_belowB hb6;have HF6:=hid hf6;have hk6:=HK5.out.fr hf6 (by omega);have HK6:=hid hk6;have x7:w6.cell? ⟨w.heap.size,7,none⟩=some (.slice Aa a.params.length ca):=hk6.cell 7;have j7:=hk6.frozen 7;have HK7:Hid (Blk (w6.setCell ⟨w.heap.size,7,none⟩ (.slice (some ⟨g9,0,none⟩) (a.params.length+1) c9)) w.heap.size 34 (addrA (tagged a tag) (.slice A5 a.uri.params.length c5) (.slice A6 a.uri.headers.length c6) (.slice (some ⟨g9,0,none⟩) (a.params.length+1) c9))):=hid (hk6.set_ 7 _);have HKB7:Hid (Blk (w6.setCell ⟨w.heap.size,7,none⟩ (.slice (some ⟨g9,0,none⟩) (a.params.length+1) c9)) (w.heap.size+1) 34 addr0):=hid ((HKB5.out.fr hf6 (by omega)).far (by simp) _);have HO6:=hid hown6;have HB6:=hid hb6;clear hown6 hb6 hg6 hat6 hf6 hk6)|(refine wpl_load rfl 34 (.tmp 2) rfl w.heap.size 0 rfl HK7.out (addrA (tagged a tag) (.slice A5 a.uri.params.length c5) (.slice A6 a.uri.headers.length c6) (.slice (some ⟨g9,0,none⟩) (a.params.length+1) c9)).toList rfl _ Tryz.underlying34 rfl (by kernel_rfl) ?_)|(refine wpl_store rfl 34 (.tmp 4) (.tmp 17) rfl (w.heap.size+1) 0 rfl (addrA (tagged a tag) (.slice A5 a.uri.params.length c5) (.slice A6 a.uri.headers.length c6) (.slice (some ⟨g9,0,none⟩) (a.params.length+1) c9)) rfl HKB7.out (Nat.le_refl 8) (addrA (tagged a tag) (.slice A5 a.uri.params.length c5) (.slice A6 a.uri.headers.length c6) (.slice (some ⟨g9,0,none⟩) (a.params.length+1) c9)) rfl (by kernel_rfl) (addrA_one rfl rfl rfl) ?_;intro wy hky hfy))
 have hfs:Fr (fun k=>k=w.heap.size) w6 (w6.setCell ⟨w.heap.size,7,none⟩ (.slice (some ⟨g9,0,none⟩) (a.params.length+1) c9)):=(Fr.refl (fun k=>k=w.heap.size) w6).set (p:=⟨w.heap.size,7,none⟩) (fun _=>rfl) _
 have HKP:KeepP (fun k=>k=w.heap.size) w6:=keepP_blk (HK5.out.fr HF6.out (by omega)) (by decide) (by decide)
 have HKY:=keepP_blk HKB7.out (by decide) (by decide)
 have hm:AdM w6 (tagged a tag) (.slice A5 a.uri.params.length c5) (.slice A6 a.uri.headers.length c6) (.slice (some ⟨g9,0,none⟩) (a.params.length+1) c9):=⟨HM1Z.out.below (HB5.out.trans HB6.out),HM2Z.out.below (HB5.out.trans HB6.out),tag_prm HO6.out⟩
 refine ret_cell rfl rfl rfl hky _ Tryz.underlying34 rfl (by kernel_rfl) ⟨_,_,_,rfl,(hm.fr hfs HKP).fr hfy HKY,?_⟩
 have b1:Below w.heap.size w w6:=(HBZ.out.trans (HB5.out.mono (by omega))).trans (HB6.out.mono (by omega))
 exact below_upfr (below_upfr b1 (Nat.le_refl _) hfs (fun k e=>by omega)) (Nat.le_refl _) hfy (fun k e=>by omega)
structure RqV where
 tp:Value
 th:Value
 fp:Value
 fh:Value
 fa:Value
 op:Value
 oh:Value
 oa:Value
 ev:Value
 co:Value
 ro:Value
 ac:Value
def reqA (r:ReqP) (v:RqV):Array Value:=#[.string (str r.method),.string (str r.target.scheme),.string (str r.target.user),.string (str r.target.host),.int .i64 r.target.port,v.tp,v.th,.string (str r.branch),.string (str r.sentby),.string (str r.from_.display),.string (str r.from_.uri.scheme),.string (str r.from_.uri.user),.string (str r.from_.uri.host),.int .i64 r.from_.uri.port,v.fp,v.fh,v.fa,.string (str r.to_.display),.string (str r.to_.uri.scheme),.string (str r.to_.uri.user),.string (str r.to_.uri.host),.int .i64 r.to_.uri.port,v.op,v.oh,v.oa,.string (str r.ftag),.string (str r.ttag),.string (str r.callid),.int .i64 r.seq,.int .i64 r.exp,.string (str r.ev.name),v.ev,v.co,v.ro,v.ac,.string (str r.typ),.string (str r.mtch),.string (str r.body)]
def dlgA (d:Dlg) (v:SlV):Array Value:=#[.string (str d.callid),.string (str d.loc.display),.string (str d.loc.uri.scheme),.string (str d.loc.uri.user),.string (str d.loc.uri.host),.int .i64 d.loc.uri.port,v.lp,v.lh,v.la,.string (str d.rem.display),.string (str d.rem.uri.scheme),.string (str d.rem.uri.user),.string (str d.rem.uri.host),.int .i64 d.rem.uri.port,v.rp,v.rh,v.ra,.string (str d.tgt.scheme),.string (str d.tgt.user),.string (str d.tgt.host),.int .i64 d.tgt.port,v.tp,v.th,v.ro,.int .i64 d.lastIn,.int .i64 d.lastOut]
def dlg0:Array Value:=#[.string ⟨#[]⟩,.string ⟨#[]⟩,.string ⟨#[]⟩,.string ⟨#[]⟩,.string ⟨#[]⟩,.int .i64 0,.slice none 0 0,.slice none 0 0,.slice none 0 0,.string ⟨#[]⟩,.string ⟨#[]⟩,.string ⟨#[]⟩,.string ⟨#[]⟩,.int .i64 0,.slice none 0 0,.slice none 0 0,.slice none 0 0,.string ⟨#[]⟩,.string ⟨#[]⟩,.string ⟨#[]⟩,.int .i64 0,.slice none 0 0,.slice none 0 0,.slice none 0 0,.int .i64 0,.int .i64 0]
structure CX where
 a:AddrP
 vp:Value
 vh:Value
 va:Value
def cxC (x:CX):List Value:=[.string (str x.a.display),.string (str x.a.uri.scheme),.string (str x.a.uri.user),.string (str x.a.uri.host),.int .i64 x.a.uri.port,x.vp,x.vh,x.va]
theorem cxC_len (x:CX):(cxC x).length=8:=rfl
structure ReqB (w:World) (B:Nat) (r:ReqP) (v:RqV):Prop where
 from_:AdB w B r.from_ v.fp v.fh v.fa
 to_:AdB w B r.to_ v.op v.oh v.oa
 ev:PrB w B r.ev.params v.ev
 co:∃ xs:List CX,xs.map (·.a)=r.contact/\SlB w B 8 xs.length v.co (rows cxC xs)/\∀ x∈xs,PrB w B x.a.uri.params x.vp/\PrB w B x.a.uri.headers x.vh
 ro:SlB w B 1 r.routes.length v.ro (rows noteC r.routes)
structure ReqZ (r:ReqP):Prop where
 from_:AdL r.from_
 to_:AdL r.to_
 toZ:AdZ r.to_
 ev:r.ev.params.length<=2000000
 co:∀ a∈r.contact,a.uri.params.length<=2000000/\a.uri.headers.length<=2000000
 ro:r.routes.length<=2000000
 fromP:∀ p∈r.from_.params,parS p
 evP:∀ p∈r.ev.params,parS p
structure DlgM (w:World) (d:Dlg) (v:SlV):Prop where
 loc:AdM w d.loc v.lp v.lh v.la
 rem:AdM w d.rem v.rp v.rh v.ra
 tp:PrM w d.tgt.params v.tp
 th:PrM w d.tgt.headers v.th
 ro:RdV w 9 1 d.routes.length v.ro (rows noteC d.routes)
section
variable {w w':World} {B B':Nat} {r:ReqP} {v:RqV} {d:Dlg} {x:SlV} {G:Nat->Prop}
theorem ReqB.below (h:ReqB w B r v) (hb:Below B w w'):ReqB w' B r v:=by
 obtain ⟨xs,e,h1,h2⟩:=h.co
 exact ⟨h.from_.below hb,h.to_.below hb,h.ev.below hb,⟨xs,e,h1.below hb,fun x hx=>⟨(h2 x hx).1.below hb,(h2 x hx).2.below hb⟩⟩,h.ro.below hb⟩
theorem DlgM.fr (h:DlgM w d x) (hf:Fr G w w') (hk:KeepP G w):DlgM w' d x:=⟨h.loc.fr hf hk,h.rem.fr hf hk,h.tp.fr hf hk,h.th.fr hf hk,h.ro.fr hf (fun b cs fr hb=>hk b cs _ fr hb (.inr rfl))⟩
theorem DlgM.below (h:DlgM w d x) (hb:Below w.heap.size w w'):DlgM w' d x:=h.fr (Fr.of_below (F:=fun _=>False) hb) (KeepP.none w)
end
structure SlV.Ok (v:SlV):Prop where
 lp:v.lp.oneCell'=true
 lh:v.lh.oneCell'=true
 la:v.la.oneCell'=true
 rp:v.rp.oneCell'=true
 rh:v.rh.oneCell'=true
 ra:v.ra.oneCell'=true
 tp:v.tp.oneCell'=true
 th:v.th.oneCell'=true
 ro:v.ro.oneCell'=true
theorem PrM.one {w:World} {l:List Par} {v:Value} (h:PrM w l v):v.oneCell'=true:=by
 obtain ⟨A,c,rfl,_⟩:=h
 rfl
theorem DlgM.one {w:World} {d:Dlg} {v:SlV} (h:DlgM w d v):v.Ok:=⟨h.loc.p.one,h.loc.h.one,h.loc.a.one,h.rem.p.one,h.rem.h.one,h.rem.a.one,h.tp.one,h.th.one,by
 obtain ⟨A,c,e,_⟩:=h.ro
 rw [e]
 rfl⟩
theorem dlgA_one {d:Dlg} {v:SlV} (h:v.Ok):(dlgA d v).all (·.oneCell')=true:=by
 have e1:∀ s,(Value.string s).oneCell'=true:=fun _=>rfl
 have e2:∀ k n,(Value.int k n).oneCell'=true:=fun _ _=>rfl
 simp [dlgA,e1,e2,h.lp,h.lh,h.la,h.rp,h.rh,h.ra,h.tp,h.th,h.ro]
theorem dlg0_one:dlg0.all (·.oneCell')=true:=by
 have e1:∀ s,(Value.string s).oneCell'=true:=fun _=>rfl
 have e2:∀ k n,(Value.int k n).oneCell'=true:=fun _ _=>rfl
 have e3:∀ a n c,(Value.slice a n c).oneCell'=true:=fun _ _ _=>rfl
 simp [dlg0,e1,e2,e3]
def nilV:SlV:=⟨.slice none 0 0,.slice none 0 0,.slice none 0 0,.slice none 0 0,.slice none 0 0,.slice none 0 0,.slice none 0 0,.slice none 0 0,.slice none 0 0,.slice none 0 0⟩
theorem dlg_none (w:World):DlgM w noDlg nilV:=⟨⟨PrM.nil w,PrM.nil w,PrM.nil w⟩,⟨PrM.nil w,PrM.nil w,PrM.nil w⟩,PrM.nil w,PrM.nil w,RdV.nil _ _ _⟩
theorem clone_rts {w:World} {B:Nat} {l:List T} {v:Value} (h:SlB w B 1 l.length v (rows noteC l)) (hB:B<=w.heap.size) (hn:l.length<=2000000) :
 Calls Tryz.prog 67 #[v] w fun e w'=>∃ A c,e=.returned (.slice A l.length c)/\RdV w' 9 1 l.length (.slice A l.length c) (rows noteC l)/\Below w.heap.size w w':=by
 obtain ⟨A,c,rfl,_,_,hr⟩:=h
 refine (clone_str (n:=0) hr hB hn).mono ?_
 rintro e w' ⟨v',rfl,⟨A5,c5,rfl,h5,h6,h7⟩,_,hb⟩
 exact ⟨A5,c5,rfl,⟨A5,c5,rfl,h5,h6,h7⟩,hb⟩
structure RqC (W:World) (g:Nat) (r:ReqP) (v:RqV):Prop where
 c9:W.cell? ⟨g,9,none⟩=some (.string (str r.from_.display))
 c10:W.cell? ⟨g,10,none⟩=some (.string (str r.from_.uri.scheme))
 c11:W.cell? ⟨g,11,none⟩=some (.string (str r.from_.uri.user))
 c12:W.cell? ⟨g,12,none⟩=some (.string (str r.from_.uri.host))
 c13:W.cell? ⟨g,13,none⟩=some (.int .i64 r.from_.uri.port)
 c14:W.cell? ⟨g,14,none⟩=some (v.fp)
 c15:W.cell? ⟨g,15,none⟩=some (v.fh)
 c16:W.cell? ⟨g,16,none⟩=some (v.fa)
 c17:W.cell? ⟨g,17,none⟩=some (.string (str r.to_.display))
 c18:W.cell? ⟨g,18,none⟩=some (.string (str r.to_.uri.scheme))
 c19:W.cell? ⟨g,19,none⟩=some (.string (str r.to_.uri.user))
 c20:W.cell? ⟨g,20,none⟩=some (.string (str r.to_.uri.host))
 c21:W.cell? ⟨g,21,none⟩=some (.int .i64 r.to_.uri.port)
 c22:W.cell? ⟨g,22,none⟩=some (v.op)
 c23:W.cell? ⟨g,23,none⟩=some (v.oh)
 c24:W.cell? ⟨g,24,none⟩=some (v.oa)
 c25:W.cell? ⟨g,25,none⟩=some (.string (str r.ftag))
 c26:W.cell? ⟨g,26,none⟩=some (.string (str r.ttag))
 c27:W.cell? ⟨g,27,none⟩=some (.string (str r.callid))
 c28:W.cell? ⟨g,28,none⟩=some (.int .i64 r.seq)
 c30:W.cell? ⟨g,30,none⟩=some (.string (str r.ev.name))
 c31:W.cell? ⟨g,31,none⟩=some (v.ev)
 c32:W.cell? ⟨g,32,none⟩=some (v.co)
 c33:W.cell? ⟨g,33,none⟩=some (v.ro)
theorem req_c {W:World} {g:Nat} {r:ReqP} {v:RqV} (h:Blk W g 45 (reqA r v)):RqC W g r v:=⟨h.cell 9,h.cell 10,h.cell 11,h.cell 12,h.cell 13,h.cell 14,h.cell 15,h.cell 16,h.cell 17,h.cell 18,h.cell 19,h.cell 20,h.cell 21,h.cell 22,h.cell 23,h.cell 24,h.cell 25,h.cell 26,h.cell 27,h.cell 28,h.cell 30,h.cell 31,h.cell 32,h.cell 33⟩
end Go.Proofs.YthkadehlclcggaaGreatDoor
