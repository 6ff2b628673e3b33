/- Chapter 19: subs.Begin where it refuses. -/
import Derived.Test.YthkadehlclcggaaGreatDoorGx54
import Derived.Test.YthkadehlclcggaaGreatDoorGx72
namespace Go.Proofs.YthkadehlclcggaaGreatDoor
set_option linter.unusedSimpArgs false
set_option linter.unusedVariables false
open Go.RowKit
open Go.Lib (hid)
def SubTo (p:Nat) (c:Conf) (R:SbR) (F:Nat->Prop) (w:World) (e:Ending) (w':World):Prop:=∃ v',e=.returned (.tuple #[.agg (subA R.sub v'),.int .i64 R.err])/\SubM w' R.sub v'/\TabTo p c R.last R.L F w w'
theorem sub_none (w:World):SubM w noSub nilV:=⟨PrM.nil w,PrM.nil w,PrM.nil w,PrM.nil w,PrM.nil w,PrM.nil w,PrM.nil w,PrM.nil w,PrM.nil w,RdV.nil _ _ _⟩
theorem sub_err {w w':World} {p:Nat} {c:Conf} {last er:Int} {L:List SubP} {F:Nat->Prop} {R:SbR} (H:Sb w p c last L F) (hb:Below w.heap.size w w') (he:R=⟨last,L,noSub,er⟩):SubTo p c R F w (.returned (.tuple #[.agg sub0,.int .i64 er])) w':=by
 subst he
 exact ⟨nilV,rfl,sub_none _,F,H.below hb,Fr.of_below hb,fun k h=>.inl h⟩
theorem beg_err (r:ReqP) (tag:T):((begR r tag).dlg=none->(begR r tag).err≠0)/\((begR r tag).dlg≠none->(begR r tag).err=0):=by
 rcases beg_ways r tag with ⟨_,h⟩|⟨_,_,h⟩|⟨_,_,_,h⟩|⟨_,_,_,_,h⟩|⟨_,_,_,k,_,h⟩
 .rw [h];simp
 .rw [h];simp
 .rw [h];simp
 .rw [h];simp
 .by_cases he:addrE (tagged r.to_ tag)=0
  .rw [if_neg (by simp [he])] at h
   rw [h];simp
  .rw [if_pos he] at h
   rw [h]
   exact ⟨fun _=>he,fun q=>absurd rfl q⟩
theorem begS_ways (c:Conf) (last:Int) (L:List SubP) (now:Int) (r:ReqP) (who watcher:T) (state:Int) (tag:T) :
 (tickB now=false/\begS c last L now r who watcher state tag=⟨last,L,noSub,1⟩)\/(tickB now=true/\state≠0/\state≠1/\begS c last L now r who watcher state tag=⟨last,L,noSub,1⟩) \/
 (tickB now=true/\(state=0\/state=1)/\(begR r tag).err≠0/\begS c last L now r who watcher state tag=⟨last,L,noSub,(begR r tag).err⟩) \/
 (tickB now=true/\(state=0\/state=1)/\(begR r tag).err=0/\secK c r.exp=false/\begS c last L now r who watcher state tag=⟨last,L,noSub,161⟩) \/
 (tickB now=true/\(state=0\/state=1)/\(begR r tag).err=0/\secK c r.exp=true/\c.subs<=L.length/\begS c last L now r who watcher state tag=⟨last,L,noSub,5⟩) \/
 (tickB now=true/\(state=0\/state=1)/\(begR r tag).err=0/\secK c r.exp=true/\L.length<c.subs/\∃ d,(begR r tag).dlg=some d/\begS c last L now r who watcher state tag=⟨last+1,L++[newS last r who watcher state d now (secN c r.exp)],newS last r who watcher state d now (secN c r.exp),0⟩):=by
 have hbe:=beg_err r tag
 unfold begS
 cases h1:tickB now
 .exact .inl ⟨rfl,if_pos (.inl rfl)⟩
 .refine .inr ?_
  by_cases h2:state=0\/state=1
  .rw [if_neg (by rintro (h|⟨h,h'⟩);exact absurd h (by decide);omega)]
   refine .inr ?_
   cases hd:(begR r tag).dlg with
   | none=>exact .inl ⟨rfl,h2,hbe.1 hd,rfl⟩
   | some d =>
     have h0:=hbe.2 (by rw [hd];simp)
     refine .inr ?_
     cases h3:secK c r.exp
     .exact .inl ⟨rfl,h2,h0,rfl,if_pos rfl⟩
     .refine .inr ?_
      by_cases h4:c.subs<=L.length
      .exact .inl ⟨rfl,h2,h0,rfl,h4,by simp [h4]⟩
      .exact .inr ⟨rfl,h2,h0,rfl,by omega,d,rfl,by simp [h4]⟩
  .exact .inl ⟨rfl,by omega,by omega,if_pos (.inr ⟨by omega,by omega⟩)⟩
set_option maxRecDepth 100000 in
set_option maxHeartbeats 16000000 in
theorem sbegin_no {w:World} {p:Nat} {c:Conf} {last now state:Int} {L:List SubP} {F:Nat->Prop} {r:ReqP} {q:RqV} {B:Nat} {who watcher tag:T} (H:Sb w p c last L F) (hB:B<=w.heap.size) (hr:ReqB w B r q) (hz:ReqZ r) (ht:tag.length<=9223372036854775807)
 (hno:(begS c last L now r who watcher state tag).err≠0) :
 Calls Tryz.prog 12 #[.pointer (some ⟨p,0,none⟩),.int .i64 now,.agg (reqA r q),.string (str who),.string (str watcher),.int .i64 state,.string (str tag)] w (SubTo p c (begS c last L now r who watcher state tag) F w):=by
 obtain ⟨w0,hw0⟩:∃ w0,(w.alloc (.cells (reqA r q) 45)).alloc (.cells sub0 39)=w0:=⟨_,rfl⟩
 have hb0:Below w.heap.size w w0:=hw0▸((Below.refl _ _).alloc (Nat.le_refl _) _).alloc (by simp) _
 have hka:Blk w0 w.heap.size 45 (reqA r q):=hw0▸(Blk.new w _ _).alloc _
 have hkb:Blk w0 (w.heap.size+1) 39 sub0:=hw0▸Blk.new' _ _ _ (by simp)
 have HSB:=hid H
 have H0:=H.below hb0
 have HW:=hid (begS_ways c last L now r who watcher state tag)
 obtain ⟨xs,l,bm,pw,km,FW,rfl,H0,Q⟩:=H0
 have hm:=hid (smade_any (pw:=pw) H0.top)
 have HTK:Hid (∀ W,Calls Tryz.prog 34 #[.int .i64 now] W fun e w'=>e=.returned (.bool (tickB now))/\W=w'):=hid (fun W=>tick_any now W)
 have HBG:=hid (Begin_any (r:=r) (tag:=tag) (v:=q) (w:=w0) (Nat.le_trans hB hb0.size) (hr.below (hb0.mono hB)) hz ht)
 have HSEC:Hid (∀ W,Calls Tryz.prog 36 #[.agg #[.string (str c.host),.int .i64 c.calls,.int .i64 c.pubs,.int .i64 c.subs,.int .i64 c.least,.int .i64 c.most,.int .i64 c.usual],.int .i64 r.exp] W fun e w'=>e=.returned (.tuple #[.int .i64 (secN c r.exp),.bool (secK c r.exp)])/\Below W.heap.size W w'):=hid (fun W=>seconds_any c r.exp W)
 have HKA:=hid hka
 have HKB:=hid hkb
 have HB0:=hid hb0
 have HTB:=hid H0
 have HNO:=hid hno
 have HRT:Hid (∀ w' er,Below w.heap.size w w'->begS c last (xs.map (·.s)) now r who watcher state tag=⟨last,xs.map (·.s),noSub,er⟩->SubTo p c (begS c last (xs.map (·.s)) now r who watcher state tag) F w (.returned (.tuple #[.agg sub0,.int .i64 er])) w'):=hid (fun w' er hb he=>sub_err HSB.out hb he)
 unfold BegPost at HBG
 clear hb0 hka hkb H H0 hB hr hz ht Q hno
 unfold sub0 at hw0
 go_enter Tryz.func12,Tryz.ntmps12
 go_upto_region 1 with (fail)
 try rw [hw0]
 clear hw0
 generalize hq0:Value.agg (reqA r q)=q0
 rw [hq0] at HBG
 rcases HW.out with ⟨h1,hx⟩|⟨h1,h2,h3,hx⟩|⟨h1,h2,h3,hx⟩|⟨h1,h2,h3,h4,hx⟩|⟨h1,h2,h3,h4,h5,hx⟩|⟨_,_,_,_,_,d,_,hx⟩
 .have HE:=hid hx
  rw [h1] at HTK
  clear hx h1
  go_wp2_with (first|(go_at_call 33;refine (hm.out).mono ?_;rintro e w' ⟨rfl,rfl⟩)|(go_at_call 34;refine (HTK.out _).mono ?_;rintro e w' ⟨rfl,rfl⟩)|(refine wpl_store rfl 39 (.tmp 14) (.tmp 38) rfl (w.heap.size+1) 0 rfl sub0 rfl HKB.out (Nat.le_refl 34) sub0 rfl (by kernel_rfl) sub0_one ?_;intro wz hkz hfz))
  exact ret_cell2 rfl rfl rfl rfl hkz _ Tryz.underlying39 rfl (by kernel_rfl) (HRT.out _ _ (below_upfr HB0.out (Nat.le_refl _) hfz (fun k e=>by omega)) HE.out)
 .have HE:=hid hx
  rw [h1] at HTK
  have d1:(state != 0)=true:=by simpa using h2
  have d2:(state != 1)=true:=by simpa using h3
  clear hx h1 h2 h3
  go_wp2_with (first|(go_at_call 33;refine (hm.out).mono ?_;rintro e w' ⟨rfl,rfl⟩)|(go_at_call 34;refine (HTK.out _).mono ?_;rintro e w' ⟨rfl,rfl⟩)|(refine wpl_store rfl 39 (.tmp 14) (.tmp 38) rfl (w.heap.size+1) 0 rfl sub0 rfl HKB.out (Nat.le_refl 34) sub0 rfl (by kernel_rfl) sub0_one ?_;intro wz hkz hfz))
  exact ret_cell2 rfl rfl rfl rfl hkz _ Tryz.underlying39 rfl (by kernel_rfl) (HRT.out _ _ (below_upfr HB0.out (Nat.le_refl _) hfz (fun k e=>by omega)) HE.out)
 .have HE:=hid hx
  rw [h1] at HTK
  have hway:(state != 0)=false\/((state != 0)=true/\(state != 1)=false):=by
   rcases h2 with h|h <;> subst h <;> simp
  generalize hge:(begR r tag).err=ge at *
  have d5:(ge != 0)=true:=by simpa using h3
  clear hge h3
  clear hx h1 h2
  rcases hway with d1|⟨d1,d2⟩
  .go_upto_region 6 with (first|(go_at_call 33;refine (hm.out).mono ?_;rintro e w' ⟨rfl,rfl⟩)|(go_at_call 34;refine (HTK.out _).mono ?_;rintro e w' ⟨rfl,rfl⟩)|(refine wpl_load rfl 45 (.tmp 9) rfl w.heap.size 0 rfl HKA.out (reqA r q).toList rfl _ Tryz.underlying45 rfl (by kernel_rfl) ?_)|(go_at_call 35;refine (HBG.out).mono ?_;rintro e w1 ⟨v1,rfl,m1,hb1⟩;have HM1:=hid m1;have HB1:=hid hb1;clear hb1 m1)|(refine wpl_store rfl 37 (.tmp 16) (.tmp 43) rfl w1.heap.size 0 rfl (dlgA ((begR r tag).dlg.getD noDlg) v1) rfl (Blk.new w1 37 dlg0) (Nat.le_refl 26) (dlgA ((begR r tag).dlg.getD noDlg) v1) rfl (by kernel_rfl) (dlgA_one HM1.out.one) ?_;intro w2 hk2 hf2))
   have HB2:Hid (Below w0.heap.size w0 w2):=hid (HB1.out.trans ((below_upfr ((Below.refl w1.heap.size w1).alloc (Nat.le_refl _) _) (Nat.le_refl _) hf2 (fun k e=>by omega)).mono HB1.out.size))
   clear hk2 hf2
   have HS:Hid (∀ W,Below w2.heap.size w2 W->W.cell? ⟨p,0,none⟩=some (.string (str c.host))/\W.cell? ⟨p,1,none⟩=some (.int .i64 c.calls)/\W.cell? ⟨p,2,none⟩=some (.int .i64 c.pubs)/\W.cell? ⟨p,3,none⟩=some (.int .i64 c.subs)/\W.cell? ⟨p,4,none⟩=some (.int .i64 c.least)/\W.cell? ⟨p,5,none⟩=some (.int .i64 c.most)/\W.cell? ⟨p,6,none⟩=some (.int .i64 c.usual)/\W.cell? ⟨w.heap.size,29,none⟩=some (.int .i64 r.exp)):=hid (fun W hW=>by
    have k1:=(HTB.out.below (HB2.out.trans (hW.mono HB2.out.size))).top
    have k2:=HKA.out.fr (Fr.of_below (F:=fun _=>False) (HB2.out.trans (hW.mono HB2.out.size))) (fun h=>h)
    exact ⟨k1.cell 0,k1.cell 1,k1.cell 2,k1.cell 3,k1.cell 4,k1.cell 5,k1.cell 6,k2.cell 29⟩)
   have HX0:Hid (Below w2.heap.size w2 w2.drew):=hid (Below.refl _ _).drew
   refine wp_region_noPanic (rgn HS.out HX0.out fun hHeld=>?_)
   refine tk 0 ?_
   refine tk 1 ?_
   refine tk 2 ?_
   refine tk 3 ?_
   refine tk 4 ?_
   refine tk 5 ?_
   refine rd1 6 fun K hK=>?_
   go_simp
   refine (HSEC.out _).mono ?_
   rintro e w3 ⟨rfl,hb3⟩
   have HX3:Hid (Below w2.heap.size w2 w3):=hid (thenB_ HX0.out hb3)
   clear hb3
   go_wp2_with fail
   refine bk hK (HS.out _ HX3.out) fun hHeld=>?_
   clear hK K
   refine tk 7 ?_
   refine tk 8 ?_
   refine tk 9 ?_
   refine tk 10 ?_
   refine tk 11 ?_
   refine dn9 (NoPanic.normal ?_)
   clear hHeld
   have HK3:=hid (HKB.out.fr (Fr.of_below (F:=fun _=>False) (HB2.out.trans (HX3.out.mono HB2.out.size))) (fun h=>h))
   have HB3:=hid (HB0.out.trans ((HB2.out.trans (HX3.out.mono HB2.out.size)).mono HB0.out.size))
   go_wp2_with (first|(refine wpl_store rfl 39 (.tmp 14) (.tmp 58) rfl (w.heap.size+1) 0 rfl sub0 rfl HK3.out (Nat.le_refl 34) sub0 rfl (by kernel_rfl) sub0_one ?_;intro wz hkz hfz))
   exact ret_cell2 rfl rfl rfl rfl hkz _ Tryz.underlying39 rfl (by kernel_rfl) (HRT.out _ _ (below_upfr HB3.out (Nat.le_refl _) hfz (fun k e=>by omega)) HE.out)
  .go_upto_region 6 with (first|(go_at_call 33;refine (hm.out).mono ?_;rintro e w' ⟨rfl,rfl⟩)|(go_at_call 34;refine (HTK.out _).mono ?_;rintro e w' ⟨rfl,rfl⟩)|(refine wpl_load rfl 45 (.tmp 9) rfl w.heap.size 0 rfl HKA.out (reqA r q).toList rfl _ Tryz.underlying45 rfl (by kernel_rfl) ?_)|(go_at_call 35;refine (HBG.out).mono ?_;rintro e w1 ⟨v1,rfl,m1,hb1⟩;have HM1:=hid m1;have HB1:=hid hb1;clear hb1 m1)|(refine wpl_store rfl 37 (.tmp 16) (.tmp 43) rfl w1.heap.size 0 rfl (dlgA ((begR r tag).dlg.getD noDlg) v1) rfl (Blk.new w1 37 dlg0) (Nat.le_refl 26) (dlgA ((begR r tag).dlg.getD noDlg) v1) rfl (by kernel_rfl) (dlgA_one HM1.out.one) ?_;intro w2 hk2 hf2))
   have HB2:Hid (Below w0.heap.size w0 w2):=hid (HB1.out.trans ((below_upfr ((Below.refl w1.heap.size w1).alloc (Nat.le_refl _) _) (Nat.le_refl _) hf2 (fun k e=>by omega)).mono HB1.out.size))
   clear hk2 hf2
   have HS:Hid (∀ W,Below w2.heap.size w2 W->W.cell? ⟨p,0,none⟩=some (.string (str c.host))/\W.cell? ⟨p,1,none⟩=some (.int .i64 c.calls)/\W.cell? ⟨p,2,none⟩=some (.int .i64 c.pubs)/\W.cell? ⟨p,3,none⟩=some (.int .i64 c.subs)/\W.cell? ⟨p,4,none⟩=some (.int .i64 c.least)/\W.cell? ⟨p,5,none⟩=some (.int .i64 c.most)/\W.cell? ⟨p,6,none⟩=some (.int .i64 c.usual)/\W.cell? ⟨w.heap.size,29,none⟩=some (.int .i64 r.exp)):=hid (fun W hW=>by
    have k1:=(HTB.out.below (HB2.out.trans (hW.mono HB2.out.size))).top
    have k2:=HKA.out.fr (Fr.of_below (F:=fun _=>False) (HB2.out.trans (hW.mono HB2.out.size))) (fun h=>h)
    exact ⟨k1.cell 0,k1.cell 1,k1.cell 2,k1.cell 3,k1.cell 4,k1.cell 5,k1.cell 6,k2.cell 29⟩)
   have HX0:Hid (Below w2.heap.size w2 w2.drew):=hid (Below.refl _ _).drew
   refine wp_region_noPanic (rgn HS.out HX0.out fun hHeld=>?_)
   refine tk 0 ?_
   refine tk 1 ?_
   refine tk 2 ?_
   refine tk 3 ?_
   refine tk 4 ?_
   refine tk 5 ?_
   refine rd1 6 fun K hK=>?_
   go_simp
   refine (HSEC.out _).mono ?_
   rintro e w3 ⟨rfl,hb3⟩
   have HX3:Hid (Below w2.heap.size w2 w3):=hid (thenB_ HX0.out hb3)
   clear hb3
   go_wp2_with fail
   refine bk hK (HS.out _ HX3.out) fun hHeld=>?_
   clear hK K
   refine tk 7 ?_
   refine tk 8 ?_
   refine tk 9 ?_
   refine tk 10 ?_
   refine tk 11 ?_
   refine dn9 (NoPanic.normal ?_)
   clear hHeld
   have HK3:=hid (HKB.out.fr (Fr.of_below (F:=fun _=>False) (HB2.out.trans (HX3.out.mono HB2.out.size))) (fun h=>h))
   have HB3:=hid (HB0.out.trans ((HB2.out.trans (HX3.out.mono HB2.out.size)).mono HB0.out.size))
   go_wp2_with (first|(refine wpl_store rfl 39 (.tmp 14) (.tmp 58) rfl (w.heap.size+1) 0 rfl sub0 rfl HK3.out (Nat.le_refl 34) sub0 rfl (by kernel_rfl) sub0_one ?_;intro wz hkz hfz))
   exact ret_cell2 rfl rfl rfl rfl hkz _ Tryz.underlying39 rfl (by kernel_rfl) (HRT.out _ _ (below_upfr HB3.out (Nat.le_refl _) hfz (fun k e=>by omega)) HE.out)
 .have HE:=hid hx
  rw [h1] at HTK
  have hway:(state != 0)=false\/((state != 0)=true/\(state != 1)=false):=by
   rcases h2 with h|h <;> subst h <;> simp
  rw [h3] at HBG
  rw [h4] at HSEC
  clear h3 h4
  clear hx h1 h2
  rcases hway with d1|⟨d1,d2⟩
  .go_upto_region 6 with (first|(go_at_call 33;refine (hm.out).mono ?_;rintro e w' ⟨rfl,rfl⟩)|(go_at_call 34;refine (HTK.out _).mono ?_;rintro e w' ⟨rfl,rfl⟩)|(refine wpl_load rfl 45 (.tmp 9) rfl w.heap.size 0 rfl HKA.out (reqA r q).toList rfl _ Tryz.underlying45 rfl (by kernel_rfl) ?_)|(go_at_call 35;refine (HBG.out).mono ?_;rintro e w1 ⟨v1,rfl,m1,hb1⟩;have HM1:=hid m1;have HB1:=hid hb1;clear hb1 m1)|(refine wpl_store rfl 37 (.tmp 16) (.tmp 43) rfl w1.heap.size 0 rfl (dlgA ((begR r tag).dlg.getD noDlg) v1) rfl (Blk.new w1 37 dlg0) (Nat.le_refl 26) (dlgA ((begR r tag).dlg.getD noDlg) v1) rfl (by kernel_rfl) (dlgA_one HM1.out.one) ?_;intro w2 hk2 hf2))
   have HB2:Hid (Below w0.heap.size w0 w2):=hid (HB1.out.trans ((below_upfr ((Below.refl w1.heap.size w1).alloc (Nat.le_refl _) _) (Nat.le_refl _) hf2 (fun k e=>by omega)).mono HB1.out.size))
   clear hk2 hf2
   have HS:Hid (∀ W,Below w2.heap.size w2 W->W.cell? ⟨p,0,none⟩=some (.string (str c.host))/\W.cell? ⟨p,1,none⟩=some (.int .i64 c.calls)/\W.cell? ⟨p,2,none⟩=some (.int .i64 c.pubs)/\W.cell? ⟨p,3,none⟩=some (.int .i64 c.subs)/\W.cell? ⟨p,4,none⟩=some (.int .i64 c.least)/\W.cell? ⟨p,5,none⟩=some (.int .i64 c.most)/\W.cell? ⟨p,6,none⟩=some (.int .i64 c.usual)/\W.cell? ⟨w.heap.size,29,none⟩=some (.int .i64 r.exp)):=hid (fun W hW=>by
    have k1:=(HTB.out.below (HB2.out.trans (hW.mono HB2.out.size))).top
    have k2:=HKA.out.fr (Fr.of_below (F:=fun _=>False) (HB2.out.trans (hW.mono HB2.out.size))) (fun h=>h)
    exact ⟨k1.cell 0,k1.cell 1,k1.cell 2,k1.cell 3,k1.cell 4,k1.cell 5,k1.cell 6,k2.cell 29⟩)
   have HX0:Hid (Below w2.heap.size w2 w2.drew):=hid (Below.refl _ _).drew
   refine wp_region_noPanic (rgn HS.out HX0.out fun hHeld=>?_)
   refine tk 0 ?_
   refine tk 1 ?_
   refine tk 2 ?_
   refine tk 3 ?_
   refine tk 4 ?_
   refine tk 5 ?_
   refine rd1 6 fun K hK=>?_
   go_simp
   refine (HSEC.out _).mono ?_
   rintro e w3 ⟨rfl,hb3⟩
   have HX3:Hid (Below w2.heap.size w2 w3):=hid (thenB_ HX0.out hb3)
   clear hb3
   go_wp2_with fail
   refine bk hK (HS.out _ HX3.out) fun hHeld=>?_
   clear hK K
   refine tk 7 ?_
   refine tk 8 ?_
   refine tk 9 ?_
   refine tk 10 ?_
   refine tk 11 ?_
   refine dn9 (NoPanic.normal ?_)
   clear hHeld
   have HK3:=hid (HKB.out.fr (Fr.of_below (F:=fun _=>False) (HB2.out.trans (HX3.out.mono HB2.out.size))) (fun h=>h))
   have HB3:=hid (HB0.out.trans ((HB2.out.trans (HX3.out.mono HB2.out.size)).mono HB0.out.size))
   go_wp2_with (first|(refine wpl_store rfl 39 (.tmp 14) (.tmp 63) rfl (w.heap.size+1) 0 rfl sub0 rfl HK3.out (Nat.le_refl 34) sub0 rfl (by kernel_rfl) sub0_one ?_;intro wz hkz hfz))
   exact ret_cell2 rfl rfl rfl rfl hkz _ Tryz.underlying39 rfl (by kernel_rfl) (HRT.out _ _ (below_upfr HB3.out (Nat.le_refl _) hfz (fun k e=>by omega)) HE.out)
  .go_upto_region 6 with (first|(go_at_call 33;refine (hm.out).mono ?_;rintro e w' ⟨rfl,rfl⟩)|(go_at_call 34;refine (HTK.out _).mono ?_;rintro e w' ⟨rfl,rfl⟩)|(refine wpl_load rfl 45 (.tmp 9) rfl w.heap.size 0 rfl HKA.out (reqA r q).toList rfl _ Tryz.underlying45 rfl (by kernel_rfl) ?_)|(go_at_call 35;refine (HBG.out).mono ?_;rintro e w1 ⟨v1,rfl,m1,hb1⟩;have HM1:=hid m1;have HB1:=hid hb1;clear hb1 m1)|(refine wpl_store rfl 37 (.tmp 16) (.tmp 43) rfl w1.heap.size 0 rfl (dlgA ((begR r tag).dlg.getD noDlg) v1) rfl (Blk.new w1 37 dlg0) (Nat.le_refl 26) (dlgA ((begR r tag).dlg.getD noDlg) v1) rfl (by kernel_rfl) (dlgA_one HM1.out.one) ?_;intro w2 hk2 hf2))
   have HB2:Hid (Below w0.heap.size w0 w2):=hid (HB1.out.trans ((below_upfr ((Below.refl w1.heap.size w1).alloc (Nat.le_refl _) _) (Nat.le_refl _) hf2 (fun k e=>by omega)).mono HB1.out.size))
   clear hk2 hf2
   have HS:Hid (∀ W,Below w2.heap.size w2 W->W.cell? ⟨p,0,none⟩=some (.string (str c.host))/\W.cell? ⟨p,1,none⟩=some (.int .i64 c.calls)/\W.cell? ⟨p,2,none⟩=some (.int .i64 c.pubs)/\W.cell? ⟨p,3,none⟩=some (.int .i64 c.subs)/\W.cell? ⟨p,4,none⟩=some (.int .i64 c.least)/\W.cell? ⟨p,5,none⟩=some (.int .i64 c.most)/\W.cell? ⟨p,6,none⟩=some (.int .i64 c.usual)/\W.cell? ⟨w.heap.size,29,none⟩=some (.int .i64 r.exp)):=hid (fun W hW=>by
    have k1:=(HTB.out.below (HB2.out.trans (hW.mono HB2.out.size))).top
    have k2:=HKA.out.fr (Fr.of_below (F:=fun _=>False) (HB2.out.trans (hW.mono HB2.out.size))) (fun h=>h)
    exact ⟨k1.cell 0,k1.cell 1,k1.cell 2,k1.cell 3,k1.cell 4,k1.cell 5,k1.cell 6,k2.cell 29⟩)
   have HX0:Hid (Below w2.heap.size w2 w2.drew):=hid (Below.refl _ _).drew
   refine wp_region_noPanic (rgn HS.out HX0.out fun hHeld=>?_)
   refine tk 0 ?_
   refine tk 1 ?_
   refine tk 2 ?_
   refine tk 3 ?_
   refine tk 4 ?_
   refine tk 5 ?_
   refine rd1 6 fun K hK=>?_
   go_simp
   refine (HSEC.out _).mono ?_
   rintro e w3 ⟨rfl,hb3⟩
   have HX3:Hid (Below w2.heap.size w2 w3):=hid (thenB_ HX0.out hb3)
   clear hb3
   go_wp2_with fail
   refine bk hK (HS.out _ HX3.out) fun hHeld=>?_
   clear hK K
   refine tk 7 ?_
   refine tk 8 ?_
   refine tk 9 ?_
   refine tk 10 ?_
   refine tk 11 ?_
   refine dn9 (NoPanic.normal ?_)
   clear hHeld
   have HK3:=hid (HKB.out.fr (Fr.of_below (F:=fun _=>False) (HB2.out.trans (HX3.out.mono HB2.out.size))) (fun h=>h))
   have HB3:=hid (HB0.out.trans ((HB2.out.trans (HX3.out.mono HB2.out.size)).mono HB0.out.size))
   go_wp2_with (first|(refine wpl_store rfl 39 (.tmp 14) (.tmp 63) rfl (w.heap.size+1) 0 rfl sub0 rfl HK3.out (Nat.le_refl 34) sub0 rfl (by kernel_rfl) sub0_one ?_;intro wz hkz hfz))
   exact ret_cell2 rfl rfl rfl rfl hkz _ Tryz.underlying39 rfl (by kernel_rfl) (HRT.out _ _ (below_upfr HB3.out (Nat.le_refl _) hfz (fun k e=>by omega)) HE.out)
 .have HE:=hid hx
  rw [h1] at HTK
  have hway:(state != 0)=false\/((state != 0)=true/\(state != 1)=false):=by
   rcases h2 with h|h <;> subst h <;> simp
  rw [h3] at HBG
  rw [h4] at HSEC
  have h5':c.subs<=(xs.length:Int):=by simpa using h5
  have HF5:=hid h5'
  clear h3 h4 h5 h5'
  clear hx h1 h2
  rcases hway with d1|⟨d1,d2⟩
  .go_upto_region 6 with (first|(go_at_call 33;refine (hm.out).mono ?_;rintro e w' ⟨rfl,rfl⟩)|(go_at_call 34;refine (HTK.out _).mono ?_;rintro e w' ⟨rfl,rfl⟩)|(refine wpl_load rfl 45 (.tmp 9) rfl w.heap.size 0 rfl HKA.out (reqA r q).toList rfl _ Tryz.underlying45 rfl (by kernel_rfl) ?_)|(go_at_call 35;refine (HBG.out).mono ?_;rintro e w1 ⟨v1,rfl,m1,hb1⟩;have HM1:=hid m1;have HB1:=hid hb1;clear hb1 m1)|(refine wpl_store rfl 37 (.tmp 16) (.tmp 43) rfl w1.heap.size 0 rfl (dlgA ((begR r tag).dlg.getD noDlg) v1) rfl (Blk.new w1 37 dlg0) (Nat.le_refl 26) (dlgA ((begR r tag).dlg.getD noDlg) v1) rfl (by kernel_rfl) (dlgA_one HM1.out.one) ?_;intro w2 hk2 hf2))
   have HB2:Hid (Below w0.heap.size w0 w2):=hid (HB1.out.trans ((below_upfr ((Below.refl w1.heap.size w1).alloc (Nat.le_refl _) _) (Nat.le_refl _) hf2 (fun k e=>by omega)).mono HB1.out.size))
   clear hk2 hf2
   have HS:Hid (∀ W,Below w2.heap.size w2 W->W.cell? ⟨p,0,none⟩=some (.string (str c.host))/\W.cell? ⟨p,1,none⟩=some (.int .i64 c.calls)/\W.cell? ⟨p,2,none⟩=some (.int .i64 c.pubs)/\W.cell? ⟨p,3,none⟩=some (.int .i64 c.subs)/\W.cell? ⟨p,4,none⟩=some (.int .i64 c.least)/\W.cell? ⟨p,5,none⟩=some (.int .i64 c.most)/\W.cell? ⟨p,6,none⟩=some (.int .i64 c.usual)/\W.cell? ⟨w.heap.size,29,none⟩=some (.int .i64 r.exp)):=hid (fun W hW=>by
    have k1:=(HTB.out.below (HB2.out.trans (hW.mono HB2.out.size))).top
    have k2:=HKA.out.fr (Fr.of_below (F:=fun _=>False) (HB2.out.trans (hW.mono HB2.out.size))) (fun h=>h)
    exact ⟨k1.cell 0,k1.cell 1,k1.cell 2,k1.cell 3,k1.cell 4,k1.cell 5,k1.cell 6,k2.cell 29⟩)
   have HX0:Hid (Below w2.heap.size w2 w2.drew):=hid (Below.refl _ _).drew
   refine wp_region_noPanic (rgn HS.out HX0.out fun hHeld=>?_)
   refine tk 0 ?_
   refine tk 1 ?_
   refine tk 2 ?_
   refine tk 3 ?_
   refine tk 4 ?_
   refine tk 5 ?_
   refine rd1 6 fun K hK=>?_
   go_simp
   refine (HSEC.out _).mono ?_
   rintro e w3 ⟨rfl,hb3⟩
   have HX3:Hid (Below w2.heap.size w2 w3):=hid (thenB_ HX0.out hb3)
   clear hb3
   go_wp2_with fail
   refine bk hK (HS.out _ HX3.out) fun hHeld=>?_
   clear hK K
   refine tk 7 ?_
   refine tk 8 ?_
   refine tk 9 ?_
   refine tk 10 ?_
   refine tk 11 ?_
   refine dn9 (NoPanic.normal ?_)
   clear hHeld
   have HK3:=hid (HKB.out.fr (Fr.of_below (F:=fun _=>False) (HB2.out.trans (HX3.out.mono HB2.out.size))) (fun h=>h))
   have HB3:=hid (HB0.out.trans ((HB2.out.trans (HX3.out.mono HB2.out.size)).mono HB0.out.size))
   have HBX:=hid (HB2.out.trans (HX3.out.mono HB2.out.size))
   have hlen:∀ n,(Builtin.len_ #[82] 3 #[.map (some bm)]).run Tryz.prog (w3.drewN n)=.ok (.int .i64 xs.length) (w3.drewN n):=fun n=>by
    have h9:=((HTB.out.below HBX.out).mm.drewN n).len Tryz.underlying82 (ty:=3)
    rw [HTB.out.lenm] at h9
    exact h9
   have y8:w3.cell? ⟨p,8,none⟩=some (.map (some bm)):=(HTB.out.below HBX.out).top.cell 8
   have y3:w3.cell? ⟨p,3,none⟩=some (.int .i64 c.subs):=(HTB.out.below HBX.out).top.cell 3
   have hge:((xs.length:Int)>=c.subs):=HF5.out
   go_wp2_with fail
   go_quiet (fail)
   go_wp2_with (first|(refine wpl_store rfl 39 (.tmp 14) (.tmp 76) rfl (w.heap.size+1) 0 rfl sub0 rfl (HK3.out.drewN _) (Nat.le_refl 34) sub0 rfl (by kernel_rfl) sub0_one ?_;intro wz hkz hfz))
   exact ret_cell2 rfl rfl rfl rfl hkz _ Tryz.underlying39 rfl (by kernel_rfl) (HRT.out _ _ (below_upfr (below_drewN HB3.out _) (Nat.le_refl _) hfz (fun k e=>by omega)) HE.out)
  .go_upto_region 6 with (first|(go_at_call 33;refine (hm.out).mono ?_;rintro e w' ⟨rfl,rfl⟩)|(go_at_call 34;refine (HTK.out _).mono ?_;rintro e w' ⟨rfl,rfl⟩)|(refine wpl_load rfl 45 (.tmp 9) rfl w.heap.size 0 rfl HKA.out (reqA r q).toList rfl _ Tryz.underlying45 rfl (by kernel_rfl) ?_)|(go_at_call 35;refine (HBG.out).mono ?_;rintro e w1 ⟨v1,rfl,m1,hb1⟩;have HM1:=hid m1;have HB1:=hid hb1;clear hb1 m1)|(refine wpl_store rfl 37 (.tmp 16) (.tmp 43) rfl w1.heap.size 0 rfl (dlgA ((begR r tag).dlg.getD noDlg) v1) rfl (Blk.new w1 37 dlg0) (Nat.le_refl 26) (dlgA ((begR r tag).dlg.getD noDlg) v1) rfl (by kernel_rfl) (dlgA_one HM1.out.one) ?_;intro w2 hk2 hf2))
   have HB2:Hid (Below w0.heap.size w0 w2):=hid (HB1.out.trans ((below_upfr ((Below.refl w1.heap.size w1).alloc (Nat.le_refl _) _) (Nat.le_refl _) hf2 (fun k e=>by omega)).mono HB1.out.size))
   clear hk2 hf2
   have HS:Hid (∀ W,Below w2.heap.size w2 W->W.cell? ⟨p,0,none⟩=some (.string (str c.host))/\W.cell? ⟨p,1,none⟩=some (.int .i64 c.calls)/\W.cell? ⟨p,2,none⟩=some (.int .i64 c.pubs)/\W.cell? ⟨p,3,none⟩=some (.int .i64 c.subs)/\W.cell? ⟨p,4,none⟩=some (.int .i64 c.least)/\W.cell? ⟨p,5,none⟩=some (.int .i64 c.most)/\W.cell? ⟨p,6,none⟩=some (.int .i64 c.usual)/\W.cell? ⟨w.heap.size,29,none⟩=some (.int .i64 r.exp)):=hid (fun W hW=>by
    have k1:=(HTB.out.below (HB2.out.trans (hW.mono HB2.out.size))).top
    have k2:=HKA.out.fr (Fr.of_below (F:=fun _=>False) (HB2.out.trans (hW.mono HB2.out.size))) (fun h=>h)
    exact ⟨k1.cell 0,k1.cell 1,k1.cell 2,k1.cell 3,k1.cell 4,k1.cell 5,k1.cell 6,k2.cell 29⟩)
   have HX0:Hid (Below w2.heap.size w2 w2.drew):=hid (Below.refl _ _).drew
   refine wp_region_noPanic (rgn HS.out HX0.out fun hHeld=>?_)
   refine tk 0 ?_
   refine tk 1 ?_
   refine tk 2 ?_
   refine tk 3 ?_
   refine tk 4 ?_
   refine tk 5 ?_
   refine rd1 6 fun K hK=>?_
   go_simp
   refine (HSEC.out _).mono ?_
   rintro e w3 ⟨rfl,hb3⟩
   have HX3:Hid (Below w2.heap.size w2 w3):=hid (thenB_ HX0.out hb3)
   clear hb3
   go_wp2_with fail
   refine bk hK (HS.out _ HX3.out) fun hHeld=>?_
   clear hK K
   refine tk 7 ?_
   refine tk 8 ?_
   refine tk 9 ?_
   refine tk 10 ?_
   refine tk 11 ?_
   refine dn9 (NoPanic.normal ?_)
   clear hHeld
   have HK3:=hid (HKB.out.fr (Fr.of_below (F:=fun _=>False) (HB2.out.trans (HX3.out.mono HB2.out.size))) (fun h=>h))
   have HB3:=hid (HB0.out.trans ((HB2.out.trans (HX3.out.mono HB2.out.size)).mono HB0.out.size))
   have HBX:=hid (HB2.out.trans (HX3.out.mono HB2.out.size))
   have hlen:∀ n,(Builtin.len_ #[82] 3 #[.map (some bm)]).run Tryz.prog (w3.drewN n)=.ok (.int .i64 xs.length) (w3.drewN n):=fun n=>by
    have h9:=((HTB.out.below HBX.out).mm.drewN n).len Tryz.underlying82 (ty:=3)
    rw [HTB.out.lenm] at h9
    exact h9
   have y8:w3.cell? ⟨p,8,none⟩=some (.map (some bm)):=(HTB.out.below HBX.out).top.cell 8
   have y3:w3.cell? ⟨p,3,none⟩=some (.int .i64 c.subs):=(HTB.out.below HBX.out).top.cell 3
   have hge:((xs.length:Int)>=c.subs):=HF5.out
   go_wp2_with fail
   go_quiet (fail)
   go_wp2_with (first|(refine wpl_store rfl 39 (.tmp 14) (.tmp 76) rfl (w.heap.size+1) 0 rfl sub0 rfl (HK3.out.drewN _) (Nat.le_refl 34) sub0 rfl (by kernel_rfl) sub0_one ?_;intro wz hkz hfz))
   exact ret_cell2 rfl rfl rfl rfl hkz _ Tryz.underlying39 rfl (by kernel_rfl) (HRT.out _ _ (below_upfr (below_drewN HB3.out _) (Nat.le_refl _) hfz (fun k e=>by omega)) HE.out)
 .exact absurd (by rw [hx]) HNO.out
end Go.Proofs.YthkadehlclcggaaGreatDoor
