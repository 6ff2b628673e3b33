/- Chapter 19: subs.Begin where it refuses. -/
import Derived.Test.YthkadehlclcggaaGreatDoorGy54
import Derived.Test.YthkadehlclcggaaGreatDoorGy72
namespace Go.Proofs.YthkadehlclcggaaGreatDoor
set_option linter.unusedSimpArgs false
set_option linter.unusedVariables false
open Go.RowKit
open Go.Lib (hid)
def SubTo (p:Nat) (c:Conf) (R:SbR) (F:Nat->Prop) (w:World) (e:Ending) (w':World):Prop:=∃ v',e=.returned (.tuple #[.agg (subA R.sub v'),.int .i64 R.err])/\SubM w' R.sub v'/\TabTo p c R.last R.L F w w'
theorem sub_none (w:World):SubM w noSub nilV:=⟨PrM.nil w,PrM.nil w,PrM.nil w,PrM.nil w,PrM.nil w,PrM.nil w,PrM.nil w,PrM.nil w,PrM.nil w,RdV.nil _ _ _⟩
theorem sub_err {w w':World} {p:Nat} {c:Conf} {last er:Int} {L:List SubP} {F:Nat->Prop} {R:SbR} (H:Sb w p c last L F) (hb:Below w.heap.size w w') (he:R=⟨last,L,noSub,er⟩):SubTo p c R F w (.returned (.tuple #[.agg sub0,.int .i64 er])) w':=by
 subst he
 exact ⟨nilV,rfl,sub_none _,F,H.below hb,Fr.of_below hb,fun k h=>.inl h⟩
theorem beg_err (r:ReqP) (tag:T):((begR r tag).dlg=none->(begR r tag).err≠0)/\((begR r tag).dlg≠none->(begR r tag).err=0):=by
 rcases beg_ways r tag with ⟨_,h⟩|⟨_,_,h⟩|⟨_,_,_,h⟩|⟨_,_,_,_,h⟩|⟨_,_,_,k,_,h⟩
 .rw [h];simp
 .rw [h];simp
 .rw [h];simp
 .rw [h];simp
 .by_cases he:addrE (tagged r.to_ tag)=0
  .rw [if_neg (by simp [he])] at h
   rw [h];simp
  .rw [if_pos he] at h
   rw [h]
   exact ⟨fun _=>he,fun q=>absurd rfl q⟩
theorem begS_ways (c:Conf) (last:Int) (L:List SubP) (now:Int) (r:ReqP) (who watcher:T) (state:Int) (tag:T) :
 (tickB now=false/\begS c last L now r who watcher state tag=⟨last,L,noSub,1⟩)\/(tickB now=true/\state≠0/\state≠1/\begS c last L now r who watcher state tag=⟨last,L,noSub,1⟩) \/
 (tickB now=true/\(state=0\/state=1)/\(begR r tag).err≠0/\begS c last L now r who watcher state tag=⟨last,L,noSub,(begR r tag).err⟩) \/
 (tickB now=true/\(state=0\/state=1)/\(begR r tag).err=0/\secK c r.exp=false/\begS c last L now r who watcher state tag=⟨last,L,noSub,161⟩) \/
 (tickB now=true/\(state=0\/state=1)/\(begR r tag).err=0/\secK c r.exp=true/\c.subs<=L.length/\begS c last L now r who watcher state tag=⟨last,L,noSub,5⟩) \/
 (tickB now=true/\(state=0\/state=1)/\(begR r tag).err=0/\secK c r.exp=true/\L.length<c.subs/\∃ d,(begR r tag).dlg=some d/\begS c last L now r who watcher state tag=⟨last+1,L++[newS last r who watcher state d now (secN c r.exp)],newS last r who watcher state d now (secN c r.exp),0⟩):=by
 have hbe:=beg_err r tag
 unfold begS
 cases h1:tickB now
 .exact .inl ⟨rfl,if_pos (.inl rfl)⟩
 .refine .inr ?_
  by_cases h2:state=0\/state=1
  .rw [if_neg (by rintro (h|⟨h,h'⟩);exact absurd h (by decide);omega)]
   refine .inr ?_
   cases hd:(begR r tag).dlg with
   | none=>exact .inl ⟨rfl,h2,hbe.1 hd,rfl⟩
   | some d =>
     have h0:=hbe.2 (by rw [hd];simp)
     refine .inr ?_
     cases h3:secK c r.exp
     .exact .inl ⟨rfl,h2,h0,rfl,if_pos rfl⟩
     .refine .inr ?_
      by_cases h4:c.subs<=L.length
      .exact .inl ⟨rfl,h2,h0,rfl,h4,by simp [h4]⟩
      .exact .inr ⟨rfl,h2,h0,rfl,by omega,d,rfl,by simp [h4]⟩
  .exact .inl ⟨rfl,by omega,by omega,if_pos (.inr ⟨by omega,by omega⟩)⟩
set_option maxRecDepth 100000 in
set_option maxHeartbeats 16000000 in
theorem sbegin_no {w:World} {p:Nat} {c:Conf} {last now state:Int} {L:List SubP} {F:Nat->Prop} {r:ReqP} {q:RqV} {B:Nat} {who watcher tag:T} (H:Sb w p c last L F) (hB:B<=w.heap.size) (hr:ReqB w B r q) (hz:ReqZ r) (ht:tag.length<=9223372036854775807)
 (hno:(begS c last L now r who watcher state tag).err≠0) :
 Calls Tryz.prog 12 #[.pointer (some ⟨p,0,none⟩),.int .i64 now,.agg (reqA r q),.string (str who),.string (str watcher),.int .i64 state,.string (str tag)] w (SubTo p c (begS c last L now r who watcher state tag) F w):=by
 obtain ⟨w0,hw0⟩:∃ w0,(w.alloc (.cells (reqA r q) 45)).alloc (.cells sub0 39)=w0:=⟨_,rfl⟩
 have hb0:Below w.heap.size w w0:=hw0▸((Below.refl _ _).alloc (Nat.le_refl _) _).alloc (by simp) _
 have hka:Blk w0 w.heap.size 45 (reqA r q):=hw0▸(Blk.new w _ _).alloc _
 have hkb:Blk w0 (w.heap.size+1) 39 sub0:=hw0▸Blk.new' _ _ _ (by simp)
 have HSB:=hid H
 have H0:=H.below hb0
 have HW:=hid (begS_ways c last L now r who watcher state tag)
 obtain ⟨xs,l,bm,pw,km,FW,rfl,H0,Q⟩:=H0
 have hm:=hid (smade_any (pw:=pw) H0.top)
 have HTK:Hid (∀ W,Calls Tryz.prog 34 #[.int .i64 now] W fun e w'=>e=.returned (.bool (tickB now))/\W=w'):=hid (fun W=>tick_any now W)
 have HBG:=hid (Begin_any (r:=r) (tag:=tag) (v:=q) (w:=w0) (Nat.le_trans hB hb0.size) (hr.below (hb0.mono hB)) hz ht)
 have HSEC:Hid (∀ W,Calls Tryz.prog 36 #[.agg #[.string (str c.host),.int .i64 c.calls,.int .i64 c.pubs,.int .i64 c.subs,.int .i64 c.least,.int .i64 c.most,.int .i64 c.usual],.int .i64 r.exp] W fun e w'=>e=.returned (.tuple #[.int .i64 (secN c r.exp),.bool (secK c r.exp)])/\Below W.heap.size W w'):=hid (fun W=>seconds_any c r.exp W)
 have HKA:=hid hka
 have HKB:=hid hkb
 have HB0:=hid hb0
 have HTB:=hid H0
 have HNO:=hid hno
 have HRT:Hid (∀ w' er,Below w.heap.size w w'->begS c last (xs.map (·.s)) now r who watcher state tag=⟨last,xs.map (·.s),noSub,er⟩->SubTo p c (begS c last (xs.map (·.s)) now r who watcher state tag) F w (.returned (.tuple #[.agg sub0,.int .i64 er])) w'):=hid (fun w' er hb he=>sub_err HSB.out hb he)
 unfold BegPost at HBG
 clear hb0 hka hkb H H0 hB hr hz ht Q hno
 unfold sub0 at hw0
 go_enter Tryz.func12,Tryz.ntmps12
 go_upto_region 1 with (fail)
 try rw [hw0]
 clear hw0
 generalize hq0:Value.agg (reqA r q)=q0
 rw [hq0] at HBG
 rcases HW.out with ⟨h1,hx⟩|⟨h1,h2,h3,hx⟩|⟨h1,h2,h3,hx⟩|⟨h1,h2,h3,h4,hx⟩|⟨h1,h2,h3,h4,h5,hx⟩|⟨_,_,_,_,_,d,_,hx⟩
 .have HE:=hid hx
  rw [h1] at HTK
  clear hx h1
  go_wp2_with (first|(go_at_call 33;refine (hm.out).mono ?_;rintro e w' ⟨rfl,rfl⟩)|(go_at_call 34;refine (HTK.out _).mono ?_;rintro e w' ⟨rfl,rfl⟩)|(refine wpl_store rfl 39 (.tmp 14) (.tmp 38) rfl (w.heap.size+1) 0 rfl sub0 rfl HKB.out (Nat.le_refl 34) sub0 rfl (by kernel_rfl) sub0_one ?_;intro wz hkz hfz))
  exact ret_cell2 rfl rfl rfl rfl hkz _ Tryz.underlying39 rfl (by kernel_rfl) (HRT.out _ _ (below_upfr HB0.out (Nat.le_refl _) hfz (fun k e=>by omega)) HE.out)
 .have HE:=hid hx
  rw [h1] at HTK
  have d1:(state != 0)=true:=by simpa using h2
  have d2:(state != 1)=true:=by simpa using h3
  clear hx h1 h2 h3
  go_wp2_with (first|(go_at_call 33;refine (hm.out).mono ?_;rintro e w' ⟨rfl,rfl⟩)|(go_at_call 34;refine (HTK.out _).mono ?_;rintro e w' ⟨rfl,rfl⟩)|(refine wpl_store rfl 39 (.tmp 14) (.tmp 38) rfl (w.heap.size+1) 0 rfl sub0 rfl HKB.out (Nat.le_refl 34) sub0 rfl (by kernel_rfl) sub0_one ?_;intro wz hkz hfz))
  exact ret_cell2 rfl rfl rfl rfl hkz _ Tryz.underlying39 rfl (by kernel_rfl) (HRT.out _ _ (below_upfr HB0.out (Nat.le_refl _) hfz (fun k e=>by omega)) HE.out)
 .have HE:=hid hx
  rw [h1] at HTK
  have hway:(state != 0)=false\/((state != 0)=true/\(state != 1)=false):=by
   rcases h2 with h|h <;> subst h <;> simp
  generalize hge:(begR r tag).err=ge at *
  have d5:(ge != 0)=true:=by simpa using h3
  clear hge h3
  clear hx h1 h2
  rcases hway with d1|⟨d1,d2⟩
  .go_upto_region 6 with (first|(go_at_call 33;refine (hm.out).mono ?_;rintro e w' ⟨rfl,rfl⟩)|(go_at_call 34;refine (HTK.out _).mono ?_;rintro e w' ⟨rfl,rfl⟩)|(refine wpl_load rfl 45 (.tmp 9) rfl w.heap.size 0 rfl HKA.out (reqA r q).toList rfl _ Tryz.underlying45 rfl (by kernel_rfl) ?_)|(go_at_call 35;refine (HBG.out).mono ?_;rintro e w1 ⟨v1,rfl,m1,hb1⟩;have HM1:=hid m1;have HB1:=hid hb1;clear hb1 m1)|(refine wpl_store rfl 37 (.tmp 16) (.tmp 43) rfl w1.heap.size 0 rfl (dlgA ((begR r tag).dlg.getD noDlg) v1) rfl (Blk.new w1 37 dlg0) (Nat.le_refl 26) (dlgA ((begR r tag).dlg.getD noDlg) v1) rfl (by kernel_rfl) (dlgA_one HM1.out.one) ?_;intro w2 hk2 hf2))
   have HB2:Hid (Below w0.heap.size w0 w2):=hid (HB1.out.trans ((below_upfr ((Below.refl w1.heap.size w1).alloc (Nat.le_refl _) _) (Nat.le_refl _) hf2 (fun k e=>by omega)).mono HB1.out.size))
   clear hk2 hf2
   have HS:Hid (∀ W,Below w2.heap.size w2 W->W.cell? ⟨p,0,none⟩=some (.string (str c.host))/\W.cell? ⟨p,1,none⟩=some (.int .i64 c.calls)/\W.cell? ⟨p,2,none⟩=some (.int .i64 c.pubs)/\W.cell? ⟨p,3,none⟩=some (.int .i64 c.subs)/\W.cell? ⟨p,4,none⟩=some (.int .i64 c.least)/\W.cell? ⟨p,5,none⟩=some (.int .i64 c.most)/\W.cell? ⟨p,6,none⟩=some (.int .i64 c.usual)/\W.cell? ⟨w.heap.size,29,none⟩=some (.int .i64 r.exp)):=hid (fun W hW=>by
    have k1:=(HTB.out.below (HB2.out.trans (hW.mono HB2.out.size))).top
    have k2:=HKA.out.fr (Fr.of_below (F:=fun _=>False) (HB2.out.trans (hW.mono HB2.out.size))) (fun h=>h)
    exact ⟨k1.cell 0,k1.cell 1,k1.cell 2,k1.cell 3,k1.cell 4,k1.cell 5,k1.cell 6,k2.cell 29⟩)
   have HX0:Hid (Below w2.heap.size w2 w2.drew):=hid (Below.refl _ _).drew
   refine wp_region_noPanic ?_
   refine wp_region_held_drew (S:=fun W=>W.cell? ⟨p,0,none⟩=some (.string (str c.host))/\W.cell? ⟨p,1,none⟩=some (.int .i64 c.calls)/\W.cell? ⟨p,2,none⟩=some (.int .i64 c.pubs)/\W.cell? ⟨p,3,none⟩=some (.int .i64 c.subs)/\W.cell? ⟨p,4,none⟩=some (.int .i64 c.least)/\W.cell? ⟨p,5,none⟩=some (.int .i64 c.most)/\W.cell? ⟨p,6,none⟩=some (.int .i64 c.usual)/\W.cell? ⟨w.heap.size,29,none⟩=some (.int .i64 r.exp)) (by kernel_rfl) (HS.out _ HX0.out) (fun hHeld=>?_)
   refine wpAnyH_take (i:=0) (oi:=?oi1) (v:=?v1) ?ho1 ?ka1 ?kb1 ?kc1 (fun _ _ _ h=>h) (Or.inl ⟨?kw1,?hy1⟩) (by assumption) ?rest1
   case ho1=>(simp only [List.getElem?_toArray,List.getElem?_cons_zero,List.getElem?_cons_succ];rfl)
   case ka1=>kernel_rfl
   case kb1=>kernel_rfl
   case kc1=>kernel_rfl
   case kw1=>rfl
   case hy1=>(intro wq hSw;(try dsimp only at hSw);go_simp;try with_reducible rfl)
   try simp only [Act.put,List.setIfInBounds_toArray,List.set_cons_zero,List.set_cons_succ]
   refine wpAnyH_take (i:=1) (oi:=?oi2) (v:=?v2) ?ho2 ?ka2 ?kb2 ?kc2 (fun _ _ _ h=>h) (Or.inl ⟨?kw2,?hy2⟩) (by assumption) ?rest2
   case ho2=>(simp only [List.getElem?_toArray,List.getElem?_cons_zero,List.getElem?_cons_succ];rfl)
   case ka2=>kernel_rfl
   case kb2=>kernel_rfl
   case kc2=>kernel_rfl
   case kw2=>rfl
   case hy2=>(intro wq hSw;(try dsimp only at hSw);go_simp;try with_reducible rfl)
   try simp only [Act.put,List.setIfInBounds_toArray,List.set_cons_zero,List.set_cons_succ]
   refine wpAnyH_take (i:=2) (oi:=?oi3) (v:=?v3) ?ho3 ?ka3 ?kb3 ?kc3 (fun _ _ _ h=>h) (Or.inl ⟨?kw3,?hy3⟩) (by assumption) ?rest3
   case ho3=>(simp only [List.getElem?_toArray,List.getElem?_cons_zero,List.getElem?_cons_succ];rfl)
   case ka3=>kernel_rfl
   case kb3=>kernel_rfl
   case kc3=>kernel_rfl
   case kw3=>rfl
   case hy3=>(intro wq hSw;(try dsimp only at hSw);go_simp;try with_reducible rfl)
   try simp only [Act.put,List.setIfInBounds_toArray,List.set_cons_zero,List.set_cons_succ]
   refine wpAnyH_take (i:=3) (oi:=?oi4) (v:=?v4) ?ho4 ?ka4 ?kb4 ?kc4 (fun _ _ _ h=>h) (Or.inl ⟨?kw4,?hy4⟩) (by assumption) ?rest4
   case ho4=>(simp only [List.getElem?_toArray,List.getElem?_cons_zero,List.getElem?_cons_succ];rfl)
   case ka4=>kernel_rfl
   case kb4=>kernel_rfl
   case kc4=>kernel_rfl
   case kw4=>rfl
   case hy4=>(intro wq hSw;(try dsimp only at hSw);go_simp;try with_reducible rfl)
   try simp only [Act.put,List.setIfInBounds_toArray,List.set_cons_zero,List.set_cons_succ]
   refine wpAnyH_take (i:=4) (oi:=?oi5) (v:=?v5) ?ho5 ?ka5 ?kb5 ?kc5 (fun _ _ _ h=>h) (Or.inl ⟨?kw5,?hy5⟩) (by assumption) ?rest5
   case ho5=>(simp only [List.getElem?_toArray,List.getElem?_cons_zero,List.getElem?_cons_succ];rfl)
   case ka5=>kernel_rfl
   case kb5=>kernel_rfl
   case kc5=>kernel_rfl
   case kw5=>rfl
   case hy5=>(intro wq hSw;(try dsimp only at hSw);go_simp;try with_reducible rfl)
   try simp only [Act.put,List.setIfInBounds_toArray,List.set_cons_zero,List.set_cons_succ]
   refine wpAnyH_take (i:=5) (oi:=?oi6) (v:=?v6) ?ho6 ?ka6 ?kb6 ?kc6 (fun _ _ _ h=>h) (Or.inl ⟨?kw6,?hy6⟩) (by assumption) ?rest6
   case ho6=>(simp only [List.getElem?_toArray,List.getElem?_cons_zero,List.getElem?_cons_succ];rfl)
   case ka6=>kernel_rfl
   case kb6=>kernel_rfl
   case kc6=>kernel_rfl
   case kw6=>rfl
   case hy6=>(intro wq hSw;(try dsimp only at hSw);go_simp;try with_reducible rfl)
   try simp only [Act.put,List.setIfInBounds_toArray,List.set_cons_zero,List.set_cons_succ]
   refine wpAnyH_ready (rs:=[6]) (by kernel_rfl) (by simp) ?_
   refine AllReadyH.cons (o:=?oi7) ?ho7 (fun K hK=>?st7) AllReadyH.nil
   case ho7=>(simp only [List.getElem?_toArray,List.getElem?_cons_zero,List.getElem?_cons_succ];rfl)
   go_simp
   refine (HSEC.out _).mono ?_
   rintro e w3 ⟨rfl,hb3⟩
   have HX3:Hid (Below w2.heap.size w2 w3):=hid (thenB_ HX0.out hb3)
   clear hb3
   go_wp2_with fail
   refine hK.out _ _ (HS.out _ HX3.out) (fun hHeld=>?_)
   clear hK K
   try simp only [Act.put,List.setIfInBounds_toArray,List.set_cons_zero,List.set_cons_succ]
   refine wpAnyH_take (i:=7) (oi:=?oi8) (v:=?v8) ?ho8 ?ka8 ?kb8 ?kc8 (fun _ _ _ h=>h) (Or.inl ⟨?kw8,?hy8⟩) (by assumption) ?rest8
   case ho8=>(simp only [List.getElem?_toArray,List.getElem?_cons_zero,List.getElem?_cons_succ];rfl)
   case ka8=>kernel_rfl
   case kb8=>kernel_rfl
   case kc8=>kernel_rfl
   case kw8=>rfl
   case hy8=>(intro wq hSw;(try dsimp only at hSw);go_simp;try with_reducible rfl)
   try simp only [Act.put,List.setIfInBounds_toArray,List.set_cons_zero,List.set_cons_succ]
   refine wpAnyH_take (i:=8) (oi:=?oi9) (v:=?v9) ?ho9 ?ka9 ?kb9 ?kc9 (fun _ _ _ h=>h) (Or.inl ⟨?kw9,?hy9⟩) (by assumption) ?rest9
   case ho9=>(simp only [List.getElem?_toArray,List.getElem?_cons_zero,List.getElem?_cons_succ];rfl)
   case ka9=>kernel_rfl
   case kb9=>kernel_rfl
   case kc9=>kernel_rfl
   case kw9=>rfl
   case hy9=>(intro wq hSw;(try dsimp only at hSw);go_simp;try with_reducible rfl)
   try simp only [Act.put,List.setIfInBounds_toArray,List.set_cons_zero,List.set_cons_succ]
   refine wpAnyH_take (i:=9) (oi:=?oi10) (v:=?v10) ?ho10 ?ka10 ?kb10 ?kc10 (fun _ _ _ h=>h) (Or.inl ⟨?kw10,?hy10⟩) (by assumption) ?rest10
   case ho10=>(simp only [List.getElem?_toArray,List.getElem?_cons_zero,List.getElem?_cons_succ];rfl)
   case ka10=>kernel_rfl
   case kb10=>kernel_rfl
   case kc10=>kernel_rfl
   case kw10=>rfl
   case hy10=>(intro wq hSw;(try dsimp only at hSw);go_simp;try with_reducible rfl)
   try simp only [Act.put,List.setIfInBounds_toArray,List.set_cons_zero,List.set_cons_succ]
   refine wpAnyH_take (i:=10) (oi:=?oi11) (v:=?v11) ?ho11 ?ka11 ?kb11 ?kc11 (fun _ _ _ h=>h) (Or.inl ⟨?kw11,?hy11⟩) (by assumption) ?rest11
   case ho11=>(simp only [List.getElem?_toArray,List.getElem?_cons_zero,List.getElem?_cons_succ];rfl)
   case ka11=>kernel_rfl
   case kb11=>kernel_rfl
   case kc11=>kernel_rfl
   case kw11=>rfl
   case hy11=>(intro wq hSw;(try dsimp only at hSw);go_simp;try with_reducible rfl)
   try simp only [Act.put,List.setIfInBounds_toArray,List.set_cons_zero,List.set_cons_succ]
   refine wpAnyH_take (i:=11) (oi:=?oi12) (v:=?v12) ?ho12 ?ka12 ?kb12 ?kc12 (fun _ _ _ h=>h) (Or.inl ⟨?kw12,?hy12⟩) (by assumption) ?rest12
   case ho12=>(simp only [List.getElem?_toArray,List.getElem?_cons_zero,List.getElem?_cons_succ];rfl)
   case ka12=>kernel_rfl
   case kb12=>kernel_rfl
   case kc12=>kernel_rfl
   case kw12=>rfl
   case hy12=>(intro wq hSw;(try dsimp only at hSw);go_simp;try with_reducible rfl)
   try simp only [Act.put,List.setIfInBounds_toArray,List.set_cons_zero,List.set_cons_succ]
   refine wpAnyH_done (by kernel_rfl) ?_ _
   refine NoPanic.normal ?_
   clear hHeld
   have HK3:=hid (HKB.out.fr (Fr.of_below (F:=fun _=>False) (HB2.out.trans (HX3.out.mono HB2.out.size))) (fun h=>h))
   have HB3:=hid (HB0.out.trans ((HB2.out.trans (HX3.out.mono HB2.out.size)).mono HB0.out.size))
   go_wp2_with (first|(refine wpl_store rfl 39 (.tmp 14) (.tmp 58) rfl (w.heap.size+1) 0 rfl sub0 rfl HK3.out (Nat.le_refl 34) sub0 rfl (by kernel_rfl) sub0_one ?_;intro wz hkz hfz))
   exact ret_cell2 rfl rfl rfl rfl hkz _ Tryz.underlying39 rfl (by kernel_rfl) (HRT.out _ _ (below_upfr HB3.out (Nat.le_refl _) hfz (fun k e=>by omega)) HE.out)
  .go_upto_region 6 with (first|(go_at_call 33;refine (hm.out).mono ?_;rintro e w' ⟨rfl,rfl⟩)|(go_at_call 34;refine (HTK.out _).mono ?_;rintro e w' ⟨rfl,rfl⟩)|(refine wpl_load rfl 45 (.tmp 9) rfl w.heap.size 0 rfl HKA.out (reqA r q).toList rfl _ Tryz.underlying45 rfl (by kernel_rfl) ?_)|(go_at_call 35;refine (HBG.out).mono ?_;rintro e w1 ⟨v1,rfl,m1,hb1⟩;have HM1:=hid m1;have HB1:=hid hb1;clear hb1 m1)|(refine wpl_store rfl 37 (.tmp 16) (.tmp 43) rfl w1.heap.size 0 rfl (dlgA ((begR r tag).dlg.getD noDlg) v1) rfl (Blk.new w1 37 dlg0) (Nat.le_refl 26) (dlgA ((begR r tag).dlg.getD noDlg) v1) rfl (by kernel_rfl) (dlgA_one HM1.out.one) ?_;intro w2 hk2 hf2))
   have HB2:Hid (Below w0.heap.size w0 w2):=hid (HB1.out.trans ((below_upfr ((Below.refl w1.heap.size w1).alloc (Nat.le_refl _) _) (Nat.le_refl _) hf2 (fun k e=>by omega)).mono HB1.out.size))
   clear hk2 hf2
   have HS:Hid (∀ W,Below w2.heap.size w2 W->W.cell? ⟨p,0,none⟩=some (.string (str c.host))/\W.cell? ⟨p,1,none⟩=some (.int .i64 c.calls)/\W.cell? ⟨p,2,none⟩=some (.int .i64 c.pubs)/\W.cell? ⟨p,3,none⟩=some (.int .i64 c.subs)/\W.cell? ⟨p,4,none⟩=some (.int .i64 c.least)/\W.cell? ⟨p,5,none⟩=some (.int .i64 c.most)/\W.cell? ⟨p,6,none⟩=some (.int .i64 c.usual)/\W.cell? ⟨w.heap.size,29,none⟩=some (.int .i64 r.exp)):=hid (fun W hW=>by
    have k1:=(HTB.out.below (HB2.out.trans (hW.mono HB2.out.size))).top
    have k2:=HKA.out.fr (Fr.of_below (F:=fun _=>False) (HB2.out.trans (hW.mono HB2.out.size))) (fun h=>h)
    exact ⟨k1.cell 0,k1.cell 1,k1.cell 2,k1.cell 3,k1.cell 4,k1.cell 5,k1.cell 6,k2.cell 29⟩)
   have HX0:Hid (Below w2.heap.size w2 w2.drew):=hid (Below.refl _ _).drew
   refine wp_region_noPanic ?_
   refine wp_region_held_drew (S:=fun W=>W.cell? ⟨p,0,none⟩=some (.string (str c.host))/\W.cell? ⟨p,1,none⟩=some (.int .i64 c.calls)/\W.cell? ⟨p,2,none⟩=some (.int .i64 c.pubs)/\W.cell? ⟨p,3,none⟩=some (.int .i64 c.subs)/\W.cell? ⟨p,4,none⟩=some (.int .i64 c.least)/\W.cell? ⟨p,5,none⟩=some (.int .i64 c.most)/\W.cell? ⟨p,6,none⟩=some (.int .i64 c.usual)/\W.cell? ⟨w.heap.size,29,none⟩=some (.int .i64 r.exp)) (by kernel_rfl) (HS.out _ HX0.out) (fun hHeld=>?_)
   refine wpAnyH_take (i:=0) (oi:=?oi13) (v:=?v13) ?ho13 ?ka13 ?kb13 ?kc13 (fun _ _ _ h=>h) (Or.inl ⟨?kw13,?hy13⟩) (by assumption) ?rest13
   case ho13=>(simp only [List.getElem?_toArray,List.getElem?_cons_zero,List.getElem?_cons_succ];rfl)
   case ka13=>kernel_rfl
   case kb13=>kernel_rfl
   case kc13=>kernel_rfl
   case kw13=>rfl
   case hy13=>(intro wq hSw;(try dsimp only at hSw);go_simp;try with_reducible rfl)
   try simp only [Act.put,List.setIfInBounds_toArray,List.set_cons_zero,List.set_cons_succ]
   refine wpAnyH_take (i:=1) (oi:=?oi14) (v:=?v14) ?ho14 ?ka14 ?kb14 ?kc14 (fun _ _ _ h=>h) (Or.inl ⟨?kw14,?hy14⟩) (by assumption) ?rest14
   case ho14=>(simp only [List.getElem?_toArray,List.getElem?_cons_zero,List.getElem?_cons_succ];rfl)
   case ka14=>kernel_rfl
   case kb14=>kernel_rfl
   case kc14=>kernel_rfl
   case kw14=>rfl
   case hy14=>(intro wq hSw;(try dsimp only at hSw);go_simp;try with_reducible rfl)
   try simp only [Act.put,List.setIfInBounds_toArray,List.set_cons_zero,List.set_cons_succ]
   refine wpAnyH_take (i:=2) (oi:=?oi15) (v:=?v15) ?ho15 ?ka15 ?kb15 ?kc15 (fun _ _ _ h=>h) (Or.inl ⟨?kw15,?hy15⟩) (by assumption) ?rest15
   case ho15=>(simp only [List.getElem?_toArray,List.getElem?_cons_zero,List.getElem?_cons_succ];rfl)
   case ka15=>kernel_rfl
   case kb15=>kernel_rfl
   case kc15=>kernel_rfl
   case kw15=>rfl
   case hy15=>(intro wq hSw;(try dsimp only at hSw);go_simp;try with_reducible rfl)
   try simp only [Act.put,List.setIfInBounds_toArray,List.set_cons_zero,List.set_cons_succ]
   refine wpAnyH_take (i:=3) (oi:=?oi16) (v:=?v16) ?ho16 ?ka16 ?kb16 ?kc16 (fun _ _ _ h=>h) (Or.inl ⟨?kw16,?hy16⟩) (by assumption) ?rest16
   case ho16=>(simp only [List.getElem?_toArray,List.getElem?_cons_zero,List.getElem?_cons_succ];rfl)
   case ka16=>kernel_rfl
   case kb16=>kernel_rfl
   case kc16=>kernel_rfl
   case kw16=>rfl
   case hy16=>(intro wq hSw;(try dsimp only at hSw);go_simp;try with_reducible rfl)
   try simp only [Act.put,List.setIfInBounds_toArray,List.set_cons_zero,List.set_cons_succ]
   refine wpAnyH_take (i:=4) (oi:=?oi17) (v:=?v17) ?ho17 ?ka17 ?kb17 ?kc17 (fun _ _ _ h=>h) (Or.inl ⟨?kw17,?hy17⟩) (by assumption) ?rest17
   case ho17=>(simp only [List.getElem?_toArray,List.getElem?_cons_zero,List.getElem?_cons_succ];rfl)
   case ka17=>kernel_rfl
   case kb17=>kernel_rfl
   case kc17=>kernel_rfl
   case kw17=>rfl
   case hy17=>(intro wq hSw;(try dsimp only at hSw);go_simp;try with_reducible rfl)
   try simp only [Act.put,List.setIfInBounds_toArray,List.set_cons_zero,List.set_cons_succ]
   refine wpAnyH_take (i:=5) (oi:=?oi18) (v:=?v18) ?ho18 ?ka18 ?kb18 ?kc18 (fun _ _ _ h=>h) (Or.inl ⟨?kw18,?hy18⟩) (by assumption) ?rest18
   case ho18=>(simp only [List.getElem?_toArray,List.getElem?_cons_zero,List.getElem?_cons_succ];rfl)
   case ka18=>kernel_rfl
   case kb18=>kernel_rfl
   case kc18=>kernel_rfl
   case kw18=>rfl
   case hy18=>(intro wq hSw;(try dsimp only at hSw);go_simp;try with_reducible rfl)
   try simp only [Act.put,List.setIfInBounds_toArray,List.set_cons_zero,List.set_cons_succ]
   refine wpAnyH_ready (rs:=[6]) (by kernel_rfl) (by simp) ?_
   refine AllReadyH.cons (o:=?oi19) ?ho19 (fun K hK=>?st19) AllReadyH.nil
   case ho19=>(simp only [List.getElem?_toArray,List.getElem?_cons_zero,List.getElem?_cons_succ];rfl)
   go_simp
   refine (HSEC.out _).mono ?_
   rintro e w3 ⟨rfl,hb3⟩
   have HX3:Hid (Below w2.heap.size w2 w3):=hid (thenB_ HX0.out hb3)
   clear hb3
   go_wp2_with fail
   refine hK.out _ _ (HS.out _ HX3.out) (fun hHeld=>?_)
   clear hK K
   try simp only [Act.put,List.setIfInBounds_toArray,List.set_cons_zero,List.set_cons_succ]
   refine wpAnyH_take (i:=7) (oi:=?oi20) (v:=?v20) ?ho20 ?ka20 ?kb20 ?kc20 (fun _ _ _ h=>h) (Or.inl ⟨?kw20,?hy20⟩) (by assumption) ?rest20
   case ho20=>(simp only [List.getElem?_toArray,List.getElem?_cons_zero,List.getElem?_cons_succ];rfl)
   case ka20=>kernel_rfl
   case kb20=>kernel_rfl
   case kc20=>kernel_rfl
   case kw20=>rfl
   case hy20=>(intro wq hSw;(try dsimp only at hSw);go_simp;try with_reducible rfl)
   try simp only [Act.put,List.setIfInBounds_toArray,List.set_cons_zero,List.set_cons_succ]
   refine wpAnyH_take (i:=8) (oi:=?oi21) (v:=?v21) ?ho21 ?ka21 ?kb21 ?kc21 (fun _ _ _ h=>h) (Or.inl ⟨?kw21,?hy21⟩) (by assumption) ?rest21
   case ho21=>(simp only [List.getElem?_toArray,List.getElem?_cons_zero,List.getElem?_cons_succ];rfl)
   case ka21=>kernel_rfl
   case kb21=>kernel_rfl
   case kc21=>kernel_rfl
   case kw21=>rfl
   case hy21=>(intro wq hSw;(try dsimp only at hSw);go_simp;try with_reducible rfl)
   try simp only [Act.put,List.setIfInBounds_toArray,List.set_cons_zero,List.set_cons_succ]
   refine wpAnyH_take (i:=9) (oi:=?oi22) (v:=?v22) ?ho22 ?ka22 ?kb22 ?kc22 (fun _ _ _ h=>h) (Or.inl ⟨?kw22,?hy22⟩) (by assumption) ?rest22
   case ho22=>(simp only [List.getElem?_toArray,List.getElem?_cons_zero,List.getElem?_cons_succ];rfl)
   case ka22=>kernel_rfl
   case kb22=>kernel_rfl
   case kc22=>kernel_rfl
   case kw22=>rfl
   case hy22=>(intro wq hSw;(try dsimp only at hSw);go_simp;try with_reducible rfl)
   try simp only [Act.put,List.setIfInBounds_toArray,List.set_cons_zero,List.set_cons_succ]
   refine wpAnyH_take (i:=10) (oi:=?oi23) (v:=?v23) ?ho23 ?ka23 ?kb23 ?kc23 (fun _ _ _ h=>h) (Or.inl ⟨?kw23,?hy23⟩) (by assumption) ?rest23
   case ho23=>(simp only [List.getElem?_toArray,List.getElem?_cons_zero,List.getElem?_cons_succ];rfl)
   case ka23=>kernel_rfl
   case kb23=>kernel_rfl
   case kc23=>kernel_rfl
   case kw23=>rfl
   case hy23=>(intro wq hSw;(try dsimp only at hSw);go_simp;try with_reducible rfl)
   try simp only [Act.put,List.setIfInBounds_toArray,List.set_cons_zero,List.set_cons_succ]
   refine wpAnyH_take (i:=11) (oi:=?oi24) (v:=?v24) ?ho24 ?ka24 ?kb24 ?kc24 (fun _ _ _ h=>h) (Or.inl ⟨?kw24,?hy24⟩) (by assumption) ?rest24
   case ho24=>(simp only [List.getElem?_toArray,List.getElem?_cons_zero,List.getElem?_cons_succ];rfl)
   case ka24=>kernel_rfl
   case kb24=>kernel_rfl
   case kc24=>kernel_rfl
   case kw24=>rfl
   case hy24=>(intro wq hSw;(try dsimp only at hSw);go_simp;try with_reducible rfl)
   try simp only [Act.put,List.setIfInBounds_toArray,List.set_cons_zero,List.set_cons_succ]
   refine wpAnyH_done (by kernel_rfl) ?_ _
   refine NoPanic.normal ?_
   clear hHeld
   have HK3:=hid (HKB.out.fr (Fr.of_below (F:=fun _=>False) (HB2.out.trans (HX3.out.mono HB2.out.size))) (fun h=>h))
   have HB3:=hid (HB0.out.trans ((HB2.out.trans (HX3.out.mono HB2.out.size)).mono HB0.out.size))
   go_wp2_with (first|(refine wpl_store rfl 39 (.tmp 14) (.tmp 58) rfl (w.heap.size+1) 0 rfl sub0 rfl HK3.out (Nat.le_refl 34) sub0 rfl (by kernel_rfl) sub0_one ?_;intro wz hkz hfz))
   exact ret_cell2 rfl rfl rfl rfl hkz _ Tryz.underlying39 rfl (by kernel_rfl) (HRT.out _ _ (below_upfr HB3.out (Nat.le_refl _) hfz (fun k e=>by omega)) HE.out)
 .have HE:=hid hx
  rw [h1] at HTK
  have hway:(state != 0)=false\/((state != 0)=true/\(state != 1)=false):=by
   rcases h2 with h|h <;> subst h <;> simp
  rw [h3] at HBG
  rw [h4] at HSEC
  clear h3 h4
  clear hx h1 h2
  rcases hway with d1|⟨d1,d2⟩
  .go_upto_region 6 with (first|(go_at_call 33;refine (hm.out).mono ?_;rintro e w' ⟨rfl,rfl⟩)|(go_at_call 34;refine (HTK.out _).mono ?_;rintro e w' ⟨rfl,rfl⟩)|(refine wpl_load rfl 45 (.tmp 9) rfl w.heap.size 0 rfl HKA.out (reqA r q).toList rfl _ Tryz.underlying45 rfl (by kernel_rfl) ?_)|(go_at_call 35;refine (HBG.out).mono ?_;rintro e w1 ⟨v1,rfl,m1,hb1⟩;have HM1:=hid m1;have HB1:=hid hb1;clear hb1 m1)|(refine wpl_store rfl 37 (.tmp 16) (.tmp 43) rfl w1.heap.size 0 rfl (dlgA ((begR r tag).dlg.getD noDlg) v1) rfl (Blk.new w1 37 dlg0) (Nat.le_refl 26) (dlgA ((begR r tag).dlg.getD noDlg) v1) rfl (by kernel_rfl) (dlgA_one HM1.out.one) ?_;intro w2 hk2 hf2))
   have HB2:Hid (Below w0.heap.size w0 w2):=hid (HB1.out.trans ((below_upfr ((Below.refl w1.heap.size w1).alloc (Nat.le_refl _) _) (Nat.le_refl _) hf2 (fun k e=>by omega)).mono HB1.out.size))
   clear hk2 hf2
   have HS:Hid (∀ W,Below w2.heap.size w2 W->W.cell? ⟨p,0,none⟩=some (.string (str c.host))/\W.cell? ⟨p,1,none⟩=some (.int .i64 c.calls)/\W.cell? ⟨p,2,none⟩=some (.int .i64 c.pubs)/\W.cell? ⟨p,3,none⟩=some (.int .i64 c.subs)/\W.cell? ⟨p,4,none⟩=some (.int .i64 c.least)/\W.cell? ⟨p,5,none⟩=some (.int .i64 c.most)/\W.cell? ⟨p,6,none⟩=some (.int .i64 c.usual)/\W.cell? ⟨w.heap.size,29,none⟩=some (.int .i64 r.exp)):=hid (fun W hW=>by
    have k1:=(HTB.out.below (HB2.out.trans (hW.mono HB2.out.size))).top
    have k2:=HKA.out.fr (Fr.of_below (F:=fun _=>False) (HB2.out.trans (hW.mono HB2.out.size))) (fun h=>h)
    exact ⟨k1.cell 0,k1.cell 1,k1.cell 2,k1.cell 3,k1.cell 4,k1.cell 5,k1.cell 6,k2.cell 29⟩)
   have HX0:Hid (Below w2.heap.size w2 w2.drew):=hid (Below.refl _ _).drew
   refine wp_region_noPanic ?_
   refine wp_region_held_drew (S:=fun W=>W.cell? ⟨p,0,none⟩=some (.string (str c.host))/\W.cell? ⟨p,1,none⟩=some (.int .i64 c.calls)/\W.cell? ⟨p,2,none⟩=some (.int .i64 c.pubs)/\W.cell? ⟨p,3,none⟩=some (.int .i64 c.subs)/\W.cell? ⟨p,4,none⟩=some (.int .i64 c.least)/\W.cell? ⟨p,5,none⟩=some (.int .i64 c.most)/\W.cell? ⟨p,6,none⟩=some (.int .i64 c.usual)/\W.cell? ⟨w.heap.size,29,none⟩=some (.int .i64 r.exp)) (by kernel_rfl) (HS.out _ HX0.out) (fun hHeld=>?_)
   refine wpAnyH_take (i:=0) (oi:=?oi25) (v:=?v25) ?ho25 ?ka25 ?kb25 ?kc25 (fun _ _ _ h=>h) (Or.inl ⟨?kw25,?hy25⟩) (by assumption) ?rest25
   case ho25=>(simp only [List.getElem?_toArray,List.getElem?_cons_zero,List.getElem?_cons_succ];rfl)
   case ka25=>kernel_rfl
   case kb25=>kernel_rfl
   case kc25=>kernel_rfl
   case kw25=>rfl
   case hy25=>(intro wq hSw;(try dsimp only at hSw);go_simp;try with_reducible rfl)
   try simp only [Act.put,List.setIfInBounds_toArray,List.set_cons_zero,List.set_cons_succ]
   refine wpAnyH_take (i:=1) (oi:=?oi26) (v:=?v26) ?ho26 ?ka26 ?kb26 ?kc26 (fun _ _ _ h=>h) (Or.inl ⟨?kw26,?hy26⟩) (by assumption) ?rest26
   case ho26=>(simp only [List.getElem?_toArray,List.getElem?_cons_zero,List.getElem?_cons_succ];rfl)
   case ka26=>kernel_rfl
   case kb26=>kernel_rfl
   case kc26=>kernel_rfl
   case kw26=>rfl
   case hy26=>(intro wq hSw;(try dsimp only at hSw);go_simp;try with_reducible rfl)
   try simp only [Act.put,List.setIfInBounds_toArray,List.set_cons_zero,List.set_cons_succ]
   refine wpAnyH_take (i:=2) (oi:=?oi27) (v:=?v27) ?ho27 ?ka27 ?kb27 ?kc27 (fun _ _ _ h=>h) (Or.inl ⟨?kw27,?hy27⟩) (by assumption) ?rest27
   case ho27=>(simp only [List.getElem?_toArray,List.getElem?_cons_zero,List.getElem?_cons_succ];rfl)
   case ka27=>kernel_rfl
   case kb27=>kernel_rfl
   case kc27=>kernel_rfl
   case kw27=>rfl
   case hy27=>(intro wq hSw;(try dsimp only at hSw);go_simp;try with_reducible rfl)
   try simp only [Act.put,List.setIfInBounds_toArray,List.set_cons_zero,List.set_cons_succ]
   refine wpAnyH_take (i:=3) (oi:=?oi28) (v:=?v28) ?ho28 ?ka28 ?kb28 ?kc28 (fun _ _ _ h=>h) (Or.inl ⟨?kw28,?hy28⟩) (by assumption) ?rest28
   case ho28=>(simp only [List.getElem?_toArray,List.getElem?_cons_zero,List.getElem?_cons_succ];rfl)
   case ka28=>kernel_rfl
   case kb28=>kernel_rfl
   case kc28=>kernel_rfl
   case kw28=>rfl
   case hy28=>(intro wq hSw;(try dsimp only at hSw);go_simp;try with_reducible rfl)
   try simp only [Act.put,List.setIfInBounds_toArray,List.set_cons_zero,List.set_cons_succ]
   refine wpAnyH_take (i:=4) (oi:=?oi29) (v:=?v29) ?ho29 ?ka29 ?kb29 ?kc29 (fun _ _ _ h=>h) (Or.inl ⟨?kw29,?hy29⟩) (by assumption) ?rest29
   case ho29=>(simp only [List.getElem?_toArray,List.getElem?_cons_zero,List.getElem?_cons_succ];rfl)
   case ka29=>kernel_rfl
   case kb29=>kernel_rfl
   case kc29=>kernel_rfl
   case kw29=>rfl
   case hy29=>(intro wq hSw;(try dsimp only at hSw);go_simp;try with_reducible rfl)
   try simp only [Act.put,List.setIfInBounds_toArray,List.set_cons_zero,List.set_cons_succ]
   refine wpAnyH_take (i:=5) (oi:=?oi30) (v:=?v30) ?ho30 ?ka30 ?kb30 ?kc30 (fun _ _ _ h=>h) (Or.inl ⟨?kw30,?hy30⟩) (by assumption) ?rest30
   case ho30=>(simp only [List.getElem?_toArray,List.getElem?_cons_zero,List.getElem?_cons_succ];rfl)
   case ka30=>kernel_rfl
   case kb30=>kernel_rfl
   case kc30=>kernel_rfl
   case kw30=>rfl
   case hy30=>(intro wq hSw;(try dsimp only at hSw);go_simp;try with_reducible rfl)
   try simp only [Act.put,List.setIfInBounds_toArray,List.set_cons_zero,List.set_cons_succ]
   refine wpAnyH_ready (rs:=[6]) (by kernel_rfl) (by simp) ?_
   refine AllReadyH.cons (o:=?oi31) ?ho31 (fun K hK=>?st31) AllReadyH.nil
   case ho31=>(simp only [List.getElem?_toArray,List.getElem?_cons_zero,List.getElem?_cons_succ];rfl)
   go_simp
   refine (HSEC.out _).mono ?_
   rintro e w3 ⟨rfl,hb3⟩
   have HX3:Hid (Below w2.heap.size w2 w3):=hid (thenB_ HX0.out hb3)
   clear hb3
   go_wp2_with fail
   refine hK.out _ _ (HS.out _ HX3.out) (fun hHeld=>?_)
   clear hK K
   try simp only [Act.put,List.setIfInBounds_toArray,List.set_cons_zero,List.set_cons_succ]
   refine wpAnyH_take (i:=7) (oi:=?oi32) (v:=?v32) ?ho32 ?ka32 ?kb32 ?kc32 (fun _ _ _ h=>h) (Or.inl ⟨?kw32,?hy32⟩) (by assumption) ?rest32
   case ho32=>(simp only [List.getElem?_toArray,List.getElem?_cons_zero,List.getElem?_cons_succ];rfl)
   case ka32=>kernel_rfl
   case kb32=>kernel_rfl
   case kc32=>kernel_rfl
   case kw32=>rfl
   case hy32=>(intro wq hSw;(try dsimp only at hSw);go_simp;try with_reducible rfl)
   try simp only [Act.put,List.setIfInBounds_toArray,List.set_cons_zero,List.set_cons_succ]
   refine wpAnyH_take (i:=8) (oi:=?oi33) (v:=?v33) ?ho33 ?ka33 ?kb33 ?kc33 (fun _ _ _ h=>h) (Or.inl ⟨?kw33,?hy33⟩) (by assumption) ?rest33
   case ho33=>(simp only [List.getElem?_toArray,List.getElem?_cons_zero,List.getElem?_cons_succ];rfl)
   case ka33=>kernel_rfl
   case kb33=>kernel_rfl
   case kc33=>kernel_rfl
   case kw33=>rfl
   case hy33=>(intro wq hSw;(try dsimp only at hSw);go_simp;try with_reducible rfl)
   try simp only [Act.put,List.setIfInBounds_toArray,List.set_cons_zero,List.set_cons_succ]
   refine wpAnyH_take (i:=9) (oi:=?oi34) (v:=?v34) ?ho34 ?ka34 ?kb34 ?kc34 (fun _ _ _ h=>h) (Or.inl ⟨?kw34,?hy34⟩) (by assumption) ?rest34
   case ho34=>(simp only [List.getElem?_toArray,List.getElem?_cons_zero,List.getElem?_cons_succ];rfl)
   case ka34=>kernel_rfl
   case kb34=>kernel_rfl
   case kc34=>kernel_rfl
   case kw34=>rfl
   case hy34=>(intro wq hSw;(try dsimp only at hSw);go_simp;try with_reducible rfl)
   try simp only [Act.put,List.setIfInBounds_toArray,List.set_cons_zero,List.set_cons_succ]
   refine wpAnyH_take (i:=10) (oi:=?oi35) (v:=?v35) ?ho35 ?ka35 ?kb35 ?kc35 (fun _ _ _ h=>h) (Or.inl ⟨?kw35,?hy35⟩) (by assumption) ?rest35
   case ho35=>(simp only [List.getElem?_toArray,List.getElem?_cons_zero,List.getElem?_cons_succ];rfl)
   case ka35=>kernel_rfl
   case kb35=>kernel_rfl
   case kc35=>kernel_rfl
   case kw35=>rfl
   case hy35=>(intro wq hSw;(try dsimp only at hSw);go_simp;try with_reducible rfl)
   try simp only [Act.put,List.setIfInBounds_toArray,List.set_cons_zero,List.set_cons_succ]
   refine wpAnyH_take (i:=11) (oi:=?oi36) (v:=?v36) ?ho36 ?ka36 ?kb36 ?kc36 (fun _ _ _ h=>h) (Or.inl ⟨?kw36,?hy36⟩) (by assumption) ?rest36
   case ho36=>(simp only [List.getElem?_toArray,List.getElem?_cons_zero,List.getElem?_cons_succ];rfl)
   case ka36=>kernel_rfl
   case kb36=>kernel_rfl
   case kc36=>kernel_rfl
   case kw36=>rfl
   case hy36=>(intro wq hSw;(try dsimp only at hSw);go_simp;try with_reducible rfl)
   try simp only [Act.put,List.setIfInBounds_toArray,List.set_cons_zero,List.set_cons_succ]
   refine wpAnyH_done (by kernel_rfl) ?_ _
   refine NoPanic.normal ?_
   clear hHeld
   have HK3:=hid (HKB.out.fr (Fr.of_below (F:=fun _=>False) (HB2.out.trans (HX3.out.mono HB2.out.size))) (fun h=>h))
   have HB3:=hid (HB0.out.trans ((HB2.out.trans (HX3.out.mono HB2.out.size)).mono HB0.out.size))
   go_wp2_with (first|(refine wpl_store rfl 39 (.tmp 14) (.tmp 63) rfl (w.heap.size+1) 0 rfl sub0 rfl HK3.out (Nat.le_refl 34) sub0 rfl (by kernel_rfl) sub0_one ?_;intro wz hkz hfz))
   exact ret_cell2 rfl rfl rfl rfl hkz _ Tryz.underlying39 rfl (by kernel_rfl) (HRT.out _ _ (below_upfr HB3.out (Nat.le_refl _) hfz (fun k e=>by omega)) HE.out)
  .go_upto_region 6 with (first|(go_at_call 33;refine (hm.out).mono ?_;rintro e w' ⟨rfl,rfl⟩)|(go_at_call 34;refine (HTK.out _).mono ?_;rintro e w' ⟨rfl,rfl⟩)|(refine wpl_load rfl 45 (.tmp 9) rfl w.heap.size 0 rfl HKA.out (reqA r q).toList rfl _ Tryz.underlying45 rfl (by kernel_rfl) ?_)|(go_at_call 35;refine (HBG.out).mono ?_;rintro e w1 ⟨v1,rfl,m1,hb1⟩;have HM1:=hid m1;have HB1:=hid hb1;clear hb1 m1)|(refine wpl_store rfl 37 (.tmp 16) (.tmp 43) rfl w1.heap.size 0 rfl (dlgA ((begR r tag).dlg.getD noDlg) v1) rfl (Blk.new w1 37 dlg0) (Nat.le_refl 26) (dlgA ((begR r tag).dlg.getD noDlg) v1) rfl (by kernel_rfl) (dlgA_one HM1.out.one) ?_;intro w2 hk2 hf2))
   have HB2:Hid (Below w0.heap.size w0 w2):=hid (HB1.out.trans ((below_upfr ((Below.refl w1.heap.size w1).alloc (Nat.le_refl _) _) (Nat.le_refl _) hf2 (fun k e=>by omega)).mono HB1.out.size))
   clear hk2 hf2
   have HS:Hid (∀ W,Below w2.heap.size w2 W->W.cell? ⟨p,0,none⟩=some (.string (str c.host))/\W.cell? ⟨p,1,none⟩=some (.int .i64 c.calls)/\W.cell? ⟨p,2,none⟩=some (.int .i64 c.pubs)/\W.cell? ⟨p,3,none⟩=some (.int .i64 c.subs)/\W.cell? ⟨p,4,none⟩=some (.int .i64 c.least)/\W.cell? ⟨p,5,none⟩=some (.int .i64 c.most)/\W.cell? ⟨p,6,none⟩=some (.int .i64 c.usual)/\W.cell? ⟨w.heap.size,29,none⟩=some (.int .i64 r.exp)):=hid (fun W hW=>by
    have k1:=(HTB.out.below (HB2.out.trans (hW.mono HB2.out.size))).top
    have k2:=HKA.out.fr (Fr.of_below (F:=fun _=>False) (HB2.out.trans (hW.mono HB2.out.size))) (fun h=>h)
    exact ⟨k1.cell 0,k1.cell 1,k1.cell 2,k1.cell 3,k1.cell 4,k1.cell 5,k1.cell 6,k2.cell 29⟩)
   have HX0:Hid (Below w2.heap.size w2 w2.drew):=hid (Below.refl _ _).drew
   refine wp_region_noPanic ?_
   refine wp_region_held_drew (S:=fun W=>W.cell? ⟨p,0,none⟩=some (.string (str c.host))/\W.cell? ⟨p,1,none⟩=some (.int .i64 c.calls)/\W.cell? ⟨p,2,none⟩=some (.int .i64 c.pubs)/\W.cell? ⟨p,3,none⟩=some (.int .i64 c.subs)/\W.cell? ⟨p,4,none⟩=some (.int .i64 c.least)/\W.cell? ⟨p,5,none⟩=some (.int .i64 c.most)/\W.cell? ⟨p,6,none⟩=some (.int .i64 c.usual)/\W.cell? ⟨w.heap.size,29,none⟩=some (.int .i64 r.exp)) (by kernel_rfl) (HS.out _ HX0.out) (fun hHeld=>?_)
   refine wpAnyH_take (i:=0) (oi:=?oi37) (v:=?v37) ?ho37 ?ka37 ?kb37 ?kc37 (fun _ _ _ h=>h) (Or.inl ⟨?kw37,?hy37⟩) (by assumption) ?rest37
   case ho37=>(simp only [List.getElem?_toArray,List.getElem?_cons_zero,List.getElem?_cons_succ];rfl)
   case ka37=>kernel_rfl
   case kb37=>kernel_rfl
   case kc37=>kernel_rfl
   case kw37=>rfl
   case hy37=>(intro wq hSw;(try dsimp only at hSw);go_simp;try with_reducible rfl)
   try simp only [Act.put,List.setIfInBounds_toArray,List.set_cons_zero,List.set_cons_succ]
   refine wpAnyH_take (i:=1) (oi:=?oi38) (v:=?v38) ?ho38 ?ka38 ?kb38 ?kc38 (fun _ _ _ h=>h) (Or.inl ⟨?kw38,?hy38⟩) (by assumption) ?rest38
   case ho38=>(simp only [List.getElem?_toArray,List.getElem?_cons_zero,List.getElem?_cons_succ];rfl)
   case ka38=>kernel_rfl
   case kb38=>kernel_rfl
   case kc38=>kernel_rfl
   case kw38=>rfl
   case hy38=>(intro wq hSw;(try dsimp only at hSw);go_simp;try with_reducible rfl)
   try simp only [Act.put,List.setIfInBounds_toArray,List.set_cons_zero,List.set_cons_succ]
   refine wpAnyH_take (i:=2) (oi:=?oi39) (v:=?v39) ?ho39 ?ka39 ?kb39 ?kc39 (fun _ _ _ h=>h) (Or.inl ⟨?kw39,?hy39⟩) (by assumption) ?rest39
   case ho39=>(simp only [List.getElem?_toArray,List.getElem?_cons_zero,List.getElem?_cons_succ];rfl)
   case ka39=>kernel_rfl
   case kb39=>kernel_rfl
   case kc39=>kernel_rfl
   case kw39=>rfl
   case hy39=>(intro wq hSw;(try dsimp only at hSw);go_simp;try with_reducible rfl)
   try simp only [Act.put,List.setIfInBounds_toArray,List.set_cons_zero,List.set_cons_succ]
   refine wpAnyH_take (i:=3) (oi:=?oi40) (v:=?v40) ?ho40 ?ka40 ?kb40 ?kc40 (fun _ _ _ h=>h) (Or.inl ⟨?kw40,?hy40⟩) (by assumption) ?rest40
   case ho40=>(simp only [List.getElem?_toArray,List.getElem?_cons_zero,List.getElem?_cons_succ];rfl)
   case ka40=>kernel_rfl
   case kb40=>kernel_rfl
   case kc40=>kernel_rfl
   case kw40=>rfl
   case hy40=>(intro wq hSw;(try dsimp only at hSw);go_simp;try with_reducible rfl)
   try simp only [Act.put,List.setIfInBounds_toArray,List.set_cons_zero,List.set_cons_succ]
   refine wpAnyH_take (i:=4) (oi:=?oi41) (v:=?v41) ?ho41 ?ka41 ?kb41 ?kc41 (fun _ _ _ h=>h) (Or.inl ⟨?kw41,?hy41⟩) (by assumption) ?rest41
   case ho41=>(simp only [List.getElem?_toArray,List.getElem?_cons_zero,List.getElem?_cons_succ];rfl)
   case ka41=>kernel_rfl
   case kb41=>kernel_rfl
   case kc41=>kernel_rfl
   case kw41=>rfl
   case hy41=>(intro wq hSw;(try dsimp only at hSw);go_simp;try with_reducible rfl)
   try simp only [Act.put,List.setIfInBounds_toArray,List.set_cons_zero,List.set_cons_succ]
   refine wpAnyH_take (i:=5) (oi:=?oi42) (v:=?v42) ?ho42 ?ka42 ?kb42 ?kc42 (fun _ _ _ h=>h) (Or.inl ⟨?kw42,?hy42⟩) (by assumption) ?rest42
   case ho42=>(simp only [List.getElem?_toArray,List.getElem?_cons_zero,List.getElem?_cons_succ];rfl)
   case ka42=>kernel_rfl
   case kb42=>kernel_rfl
   case kc42=>kernel_rfl
   case kw42=>rfl
   case hy42=>(intro wq hSw;(try dsimp only at hSw);go_simp;try with_reducible rfl)
   try simp only [Act.put,List.setIfInBounds_toArray,List.set_cons_zero,List.set_cons_succ]
   refine wpAnyH_ready (rs:=[6]) (by kernel_rfl) (by simp) ?_
   refine AllReadyH.cons (o:=?oi43) ?ho43 (fun K hK=>?st43) AllReadyH.nil
   case ho43=>(simp only [List.getElem?_toArray,List.getElem?_cons_zero,List.getElem?_cons_succ];rfl)
   go_simp
   refine (HSEC.out _).mono ?_
   rintro e w3 ⟨rfl,hb3⟩
   have HX3:Hid (Below w2.heap.size w2 w3):=hid (thenB_ HX0.out hb3)
   clear hb3
   go_wp2_with fail
   refine hK.out _ _ (HS.out _ HX3.out) (fun hHeld=>?_)
   clear hK K
   try simp only [Act.put,List.setIfInBounds_toArray,List.set_cons_zero,List.set_cons_succ]
   refine wpAnyH_take (i:=7) (oi:=?oi44) (v:=?v44) ?ho44 ?ka44 ?kb44 ?kc44 (fun _ _ _ h=>h) (Or.inl ⟨?kw44,?hy44⟩) (by assumption) ?rest44
   case ho44=>(simp only [List.getElem?_toArray,List.getElem?_cons_zero,List.getElem?_cons_succ];rfl)
   case ka44=>kernel_rfl
   case kb44=>kernel_rfl
   case kc44=>kernel_rfl
   case kw44=>rfl
   case hy44=>(intro wq hSw;(try dsimp only at hSw);go_simp;try with_reducible rfl)
   try simp only [Act.put,List.setIfInBounds_toArray,List.set_cons_zero,List.set_cons_succ]
   refine wpAnyH_take (i:=8) (oi:=?oi45) (v:=?v45) ?ho45 ?ka45 ?kb45 ?kc45 (fun _ _ _ h=>h) (Or.inl ⟨?kw45,?hy45⟩) (by assumption) ?rest45
   case ho45=>(simp only [List.getElem?_toArray,List.getElem?_cons_zero,List.getElem?_cons_succ];rfl)
   case ka45=>kernel_rfl
   case kb45=>kernel_rfl
   case kc45=>kernel_rfl
   case kw45=>rfl
   case hy45=>(intro wq hSw;(try dsimp only at hSw);go_simp;try with_reducible rfl)
   try simp only [Act.put,List.setIfInBounds_toArray,List.set_cons_zero,List.set_cons_succ]
   refine wpAnyH_take (i:=9) (oi:=?oi46) (v:=?v46) ?ho46 ?ka46 ?kb46 ?kc46 (fun _ _ _ h=>h) (Or.inl ⟨?kw46,?hy46⟩) (by assumption) ?rest46
   case ho46=>(simp only [List.getElem?_toArray,List.getElem?_cons_zero,List.getElem?_cons_succ];rfl)
   case ka46=>kernel_rfl
   case kb46=>kernel_rfl
   case kc46=>kernel_rfl
   case kw46=>rfl
   case hy46=>(intro wq hSw;(try dsimp only at hSw);go_simp;try with_reducible rfl)
   try simp only [Act.put,List.setIfInBounds_toArray,List.set_cons_zero,List.set_cons_succ]
   refine wpAnyH_take (i:=10) (oi:=?oi47) (v:=?v47) ?ho47 ?ka47 ?kb47 ?kc47 (fun _ _ _ h=>h) (Or.inl ⟨?kw47,?hy47⟩) (by assumption) ?rest47
   case ho47=>(simp only [List.getElem?_toArray,List.getElem?_cons_zero,List.getElem?_cons_succ];rfl)
   case ka47=>kernel_rfl
   case kb47=>kernel_rfl
   case kc47=>kernel_rfl
   case kw47=>rfl
   case hy47=>(intro wq hSw;(try dsimp only at hSw);go_simp;try with_reducible rfl)
   try simp only [Act.put,List.setIfInBounds_toArray,List.set_cons_zero,List.set_cons_succ]
   refine wpAnyH_take (i:=11) (oi:=?oi48) (v:=?v48) ?ho48 ?ka48 ?kb48 ?kc48 (fun _ _ _ h=>h) (Or.inl ⟨?kw48,?hy48⟩) (by assumption) ?rest48
   case ho48=>(simp only [List.getElem?_toArray,List.getElem?_cons_zero,List.getElem?_cons_succ];rfl)
   case ka48=>kernel_rfl
   case kb48=>kernel_rfl
   case kc48=>kernel_rfl
   case kw48=>rfl
   case hy48=>(intro wq hSw;(try dsimp only at hSw);go_simp;try with_reducible rfl)
   try simp only [Act.put,List.setIfInBounds_toArray,List.set_cons_zero,List.set_cons_succ]
   refine wpAnyH_done (by kernel_rfl) ?_ _
   refine NoPanic.normal ?_
   clear hHeld
   have HK3:=hid (HKB.out.fr (Fr.of_below (F:=fun _=>False) (HB2.out.trans (HX3.out.mono HB2.out.size))) (fun h=>h))
   have HB3:=hid (HB0.out.trans ((HB2.out.trans (HX3.out.mono HB2.out.size)).mono HB0.out.size))
   go_wp2_with (first|(refine wpl_store rfl 39 (.tmp 14) (.tmp 63) rfl (w.heap.size+1) 0 rfl sub0 rfl HK3.out (Nat.le_refl 34) sub0 rfl (by kernel_rfl) sub0_one ?_;intro wz hkz hfz))
   exact ret_cell2 rfl rfl rfl rfl hkz _ Tryz.underlying39 rfl (by kernel_rfl) (HRT.out _ _ (below_upfr HB3.out (Nat.le_refl _) hfz (fun k e=>by omega)) HE.out)
 .have HE:=hid hx
  rw [h1] at HTK
  have hway:(state != 0)=false\/((state != 0)=true/\(state != 1)=false):=by
   rcases h2 with h|h <;> subst h <;> simp
  rw [h3] at HBG
  rw [h4] at HSEC
  have h5':c.subs<=(xs.length:Int):=by simpa using h5
  have HF5:=hid h5'
  clear h3 h4 h5 h5'
  clear hx h1 h2
  rcases hway with d1|⟨d1,d2⟩
  .go_upto_region 6 with (first|(go_at_call 33;refine (hm.out).mono ?_;rintro e w' ⟨rfl,rfl⟩)|(go_at_call 34;refine (HTK.out _).mono ?_;rintro e w' ⟨rfl,rfl⟩)|(refine wpl_load rfl 45 (.tmp 9) rfl w.heap.size 0 rfl HKA.out (reqA r q).toList rfl _ Tryz.underlying45 rfl (by kernel_rfl) ?_)|(go_at_call 35;refine (HBG.out).mono ?_;rintro e w1 ⟨v1,rfl,m1,hb1⟩;have HM1:=hid m1;have HB1:=hid hb1;clear hb1 m1)|(refine wpl_store rfl 37 (.tmp 16) (.tmp 43) rfl w1.heap.size 0 rfl (dlgA ((begR r tag).dlg.getD noDlg) v1) rfl (Blk.new w1 37 dlg0) (Nat.le_refl 26) (dlgA ((begR r tag).dlg.getD noDlg) v1) rfl (by kernel_rfl) (dlgA_one HM1.out.one) ?_;intro w2 hk2 hf2))
   have HB2:Hid (Below w0.heap.size w0 w2):=hid (HB1.out.trans ((below_upfr ((Below.refl w1.heap.size w1).alloc (Nat.le_refl _) _) (Nat.le_refl _) hf2 (fun k e=>by omega)).mono HB1.out.size))
   clear hk2 hf2
   have HS:Hid (∀ W,Below w2.heap.size w2 W->W.cell? ⟨p,0,none⟩=some (.string (str c.host))/\W.cell? ⟨p,1,none⟩=some (.int .i64 c.calls)/\W.cell? ⟨p,2,none⟩=some (.int .i64 c.pubs)/\W.cell? ⟨p,3,none⟩=some (.int .i64 c.subs)/\W.cell? ⟨p,4,none⟩=some (.int .i64 c.least)/\W.cell? ⟨p,5,none⟩=some (.int .i64 c.most)/\W.cell? ⟨p,6,none⟩=some (.int .i64 c.usual)/\W.cell? ⟨w.heap.size,29,none⟩=some (.int .i64 r.exp)):=hid (fun W hW=>by
    have k1:=(HTB.out.below (HB2.out.trans (hW.mono HB2.out.size))).top
    have k2:=HKA.out.fr (Fr.of_below (F:=fun _=>False) (HB2.out.trans (hW.mono HB2.out.size))) (fun h=>h)
    exact ⟨k1.cell 0,k1.cell 1,k1.cell 2,k1.cell 3,k1.cell 4,k1.cell 5,k1.cell 6,k2.cell 29⟩)
   have HX0:Hid (Below w2.heap.size w2 w2.drew):=hid (Below.refl _ _).drew
   refine wp_region_noPanic ?_
   refine wp_region_held_drew (S:=fun W=>W.cell? ⟨p,0,none⟩=some (.string (str c.host))/\W.cell? ⟨p,1,none⟩=some (.int .i64 c.calls)/\W.cell? ⟨p,2,none⟩=some (.int .i64 c.pubs)/\W.cell? ⟨p,3,none⟩=some (.int .i64 c.subs)/\W.cell? ⟨p,4,none⟩=some (.int .i64 c.least)/\W.cell? ⟨p,5,none⟩=some (.int .i64 c.most)/\W.cell? ⟨p,6,none⟩=some (.int .i64 c.usual)/\W.cell? ⟨w.heap.size,29,none⟩=some (.int .i64 r.exp)) (by kernel_rfl) (HS.out _ HX0.out) (fun hHeld=>?_)
   refine wpAnyH_take (i:=0) (oi:=?oi49) (v:=?v49) ?ho49 ?ka49 ?kb49 ?kc49 (fun _ _ _ h=>h) (Or.inl ⟨?kw49,?hy49⟩) (by assumption) ?rest49
   case ho49=>(simp only [List.getElem?_toArray,List.getElem?_cons_zero,List.getElem?_cons_succ];rfl)
   case ka49=>kernel_rfl
   case kb49=>kernel_rfl
   case kc49=>kernel_rfl
   case kw49=>rfl
   case hy49=>(intro wq hSw;(try dsimp only at hSw);go_simp;try with_reducible rfl)
   try simp only [Act.put,List.setIfInBounds_toArray,List.set_cons_zero,List.set_cons_succ]
   refine wpAnyH_take (i:=1) (oi:=?oi50) (v:=?v50) ?ho50 ?ka50 ?kb50 ?kc50 (fun _ _ _ h=>h) (Or.inl ⟨?kw50,?hy50⟩) (by assumption) ?rest50
   case ho50=>(simp only [List.getElem?_toArray,List.getElem?_cons_zero,List.getElem?_cons_succ];rfl)
   case ka50=>kernel_rfl
   case kb50=>kernel_rfl
   case kc50=>kernel_rfl
   case kw50=>rfl
   case hy50=>(intro wq hSw;(try dsimp only at hSw);go_simp;try with_reducible rfl)
   try simp only [Act.put,List.setIfInBounds_toArray,List.set_cons_zero,List.set_cons_succ]
   refine wpAnyH_take (i:=2) (oi:=?oi51) (v:=?v51) ?ho51 ?ka51 ?kb51 ?kc51 (fun _ _ _ h=>h) (Or.inl ⟨?kw51,?hy51⟩) (by assumption) ?rest51
   case ho51=>(simp only [List.getElem?_toArray,List.getElem?_cons_zero,List.getElem?_cons_succ];rfl)
   case ka51=>kernel_rfl
   case kb51=>kernel_rfl
   case kc51=>kernel_rfl
   case kw51=>rfl
   case hy51=>(intro wq hSw;(try dsimp only at hSw);go_simp;try with_reducible rfl)
   try simp only [Act.put,List.setIfInBounds_toArray,List.set_cons_zero,List.set_cons_succ]
   refine wpAnyH_take (i:=3) (oi:=?oi52) (v:=?v52) ?ho52 ?ka52 ?kb52 ?kc52 (fun _ _ _ h=>h) (Or.inl ⟨?kw52,?hy52⟩) (by assumption) ?rest52
   case ho52=>(simp only [List.getElem?_toArray,List.getElem?_cons_zero,List.getElem?_cons_succ];rfl)
   case ka52=>kernel_rfl
   case kb52=>kernel_rfl
   case kc52=>kernel_rfl
   case kw52=>rfl
   case hy52=>(intro wq hSw;(try dsimp only at hSw);go_simp;try with_reducible rfl)
   try simp only [Act.put,List.setIfInBounds_toArray,List.set_cons_zero,List.set_cons_succ]
   refine wpAnyH_take (i:=4) (oi:=?oi53) (v:=?v53) ?ho53 ?ka53 ?kb53 ?kc53 (fun _ _ _ h=>h) (Or.inl ⟨?kw53,?hy53⟩) (by assumption) ?rest53
   case ho53=>(simp only [List.getElem?_toArray,List.getElem?_cons_zero,List.getElem?_cons_succ];rfl)
   case ka53=>kernel_rfl
   case kb53=>kernel_rfl
   case kc53=>kernel_rfl
   case kw53=>rfl
   case hy53=>(intro wq hSw;(try dsimp only at hSw);go_simp;try with_reducible rfl)
   try simp only [Act.put,List.setIfInBounds_toArray,List.set_cons_zero,List.set_cons_succ]
   refine wpAnyH_take (i:=5) (oi:=?oi54) (v:=?v54) ?ho54 ?ka54 ?kb54 ?kc54 (fun _ _ _ h=>h) (Or.inl ⟨?kw54,?hy54⟩) (by assumption) ?rest54
   case ho54=>(simp only [List.getElem?_toArray,List.getElem?_cons_zero,List.getElem?_cons_succ];rfl)
   case ka54=>kernel_rfl
   case kb54=>kernel_rfl
   case kc54=>kernel_rfl
   case kw54=>rfl
   case hy54=>(intro wq hSw;(try dsimp only at hSw);go_simp;try with_reducible rfl)
   try simp only [Act.put,List.setIfInBounds_toArray,List.set_cons_zero,List.set_cons_succ]
   refine wpAnyH_ready (rs:=[6]) (by kernel_rfl) (by simp) ?_
   refine AllReadyH.cons (o:=?oi55) ?ho55 (fun K hK=>?st55) AllReadyH.nil
   case ho55=>(simp only [List.getElem?_toArray,List.getElem?_cons_zero,List.getElem?_cons_succ];rfl)
   go_simp
   refine (HSEC.out _).mono ?_
   rintro e w3 ⟨rfl,hb3⟩
   have HX3:Hid (Below w2.heap.size w2 w3):=hid (thenB_ HX0.out hb3)
   clear hb3
   go_wp2_with fail
   refine hK.out _ _ (HS.out _ HX3.out) (fun hHeld=>?_)
   clear hK K
   try simp only [Act.put,List.setIfInBounds_toArray,List.set_cons_zero,List.set_cons_succ]
   refine wpAnyH_take (i:=7) (oi:=?oi56) (v:=?v56) ?ho56 ?ka56 ?kb56 ?kc56 (fun _ _ _ h=>h) (Or.inl ⟨?kw56,?hy56⟩) (by assumption) ?rest56
   case ho56=>(simp only [List.getElem?_toArray,List.getElem?_cons_zero,List.getElem?_cons_succ];rfl)
   case ka56=>kernel_rfl
   case kb56=>kernel_rfl
   case kc56=>kernel_rfl
   case kw56=>rfl
   case hy56=>(intro wq hSw;(try dsimp only at hSw);go_simp;try with_reducible rfl)
   try simp only [Act.put,List.setIfInBounds_toArray,List.set_cons_zero,List.set_cons_succ]
   refine wpAnyH_take (i:=8) (oi:=?oi57) (v:=?v57) ?ho57 ?ka57 ?kb57 ?kc57 (fun _ _ _ h=>h) (Or.inl ⟨?kw57,?hy57⟩) (by assumption) ?rest57
   case ho57=>(simp only [List.getElem?_toArray,List.getElem?_cons_zero,List.getElem?_cons_succ];rfl)
   case ka57=>kernel_rfl
   case kb57=>kernel_rfl
   case kc57=>kernel_rfl
   case kw57=>rfl
   case hy57=>(intro wq hSw;(try dsimp only at hSw);go_simp;try with_reducible rfl)
   try simp only [Act.put,List.setIfInBounds_toArray,List.set_cons_zero,List.set_cons_succ]
   refine wpAnyH_take (i:=9) (oi:=?oi58) (v:=?v58) ?ho58 ?ka58 ?kb58 ?kc58 (fun _ _ _ h=>h) (Or.inl ⟨?kw58,?hy58⟩) (by assumption) ?rest58
   case ho58=>(simp only [List.getElem?_toArray,List.getElem?_cons_zero,List.getElem?_cons_succ];rfl)
   case ka58=>kernel_rfl
   case kb58=>kernel_rfl
   case kc58=>kernel_rfl
   case kw58=>rfl
   case hy58=>(intro wq hSw;(try dsimp only at hSw);go_simp;try with_reducible rfl)
   try simp only [Act.put,List.setIfInBounds_toArray,List.set_cons_zero,List.set_cons_succ]
   refine wpAnyH_take (i:=10) (oi:=?oi59) (v:=?v59) ?ho59 ?ka59 ?kb59 ?kc59 (fun _ _ _ h=>h) (Or.inl ⟨?kw59,?hy59⟩) (by assumption) ?rest59
   case ho59=>(simp only [List.getElem?_toArray,List.getElem?_cons_zero,List.getElem?_cons_succ];rfl)
   case ka59=>kernel_rfl
   case kb59=>kernel_rfl
   case kc59=>kernel_rfl
   case kw59=>rfl
   case hy59=>(intro wq hSw;(try dsimp only at hSw);go_simp;try with_reducible rfl)
   try simp only [Act.put,List.setIfInBounds_toArray,List.set_cons_zero,List.set_cons_succ]
   refine wpAnyH_take (i:=11) (oi:=?oi60) (v:=?v60) ?ho60 ?ka60 ?kb60 ?kc60 (fun _ _ _ h=>h) (Or.inl ⟨?kw60,?hy60⟩) (by assumption) ?rest60
   case ho60=>(simp only [List.getElem?_toArray,List.getElem?_cons_zero,List.getElem?_cons_succ];rfl)
   case ka60=>kernel_rfl
   case kb60=>kernel_rfl
   case kc60=>kernel_rfl
   case kw60=>rfl
   case hy60=>(intro wq hSw;(try dsimp only at hSw);go_simp;try with_reducible rfl)
   try simp only [Act.put,List.setIfInBounds_toArray,List.set_cons_zero,List.set_cons_succ]
   refine wpAnyH_done (by kernel_rfl) ?_ _
   refine NoPanic.normal ?_
   clear hHeld
   have HK3:=hid (HKB.out.fr (Fr.of_below (F:=fun _=>False) (HB2.out.trans (HX3.out.mono HB2.out.size))) (fun h=>h))
   have HB3:=hid (HB0.out.trans ((HB2.out.trans (HX3.out.mono HB2.out.size)).mono HB0.out.size))
   have HBX:=hid (HB2.out.trans (HX3.out.mono HB2.out.size))
   have hlen:∀ n,(Builtin.len_ #[82] 3 #[.map (some bm)]).run Tryz.prog (w3.drewN n)=.ok (.int .i64 xs.length) (w3.drewN n):=fun n=>by
    have h9:=((HTB.out.below HBX.out).mm.drewN n).len Tryz.underlying82 (ty:=3)
    rw [HTB.out.lenm] at h9
    exact h9
   have y8:w3.cell? ⟨p,8,none⟩=some (.map (some bm)):=(HTB.out.below HBX.out).top.cell 8
   have y3:w3.cell? ⟨p,3,none⟩=some (.int .i64 c.subs):=(HTB.out.below HBX.out).top.cell 3
   have hge:((xs.length:Int)>=c.subs):=HF5.out
   go_wp2_with fail
   go_quiet (fail)
   go_wp2_with (first|(refine wpl_store rfl 39 (.tmp 14) (.tmp 76) rfl (w.heap.size+1) 0 rfl sub0 rfl (HK3.out.drewN _) (Nat.le_refl 34) sub0 rfl (by kernel_rfl) sub0_one ?_;intro wz hkz hfz))
   exact ret_cell2 rfl rfl rfl rfl hkz _ Tryz.underlying39 rfl (by kernel_rfl) (HRT.out _ _ (below_upfr (below_drewN HB3.out _) (Nat.le_refl _) hfz (fun k e=>by omega)) HE.out)
  .go_upto_region 6 with (first|(go_at_call 33;refine (hm.out).mono ?_;rintro e w' ⟨rfl,rfl⟩)|(go_at_call 34;refine (HTK.out _).mono ?_;rintro e w' ⟨rfl,rfl⟩)|(refine wpl_load rfl 45 (.tmp 9) rfl w.heap.size 0 rfl HKA.out (reqA r q).toList rfl _ Tryz.underlying45 rfl (by kernel_rfl) ?_)|(go_at_call 35;refine (HBG.out).mono ?_;rintro e w1 ⟨v1,rfl,m1,hb1⟩;have HM1:=hid m1;have HB1:=hid hb1;clear hb1 m1)|(refine wpl_store rfl 37 (.tmp 16) (.tmp 43) rfl w1.heap.size 0 rfl (dlgA ((begR r tag).dlg.getD noDlg) v1) rfl (Blk.new w1 37 dlg0) (Nat.le_refl 26) (dlgA ((begR r tag).dlg.getD noDlg) v1) rfl (by kernel_rfl) (dlgA_one HM1.out.one) ?_;intro w2 hk2 hf2))
   have HB2:Hid (Below w0.heap.size w0 w2):=hid (HB1.out.trans ((below_upfr ((Below.refl w1.heap.size w1).alloc (Nat.le_refl _) _) (Nat.le_refl _) hf2 (fun k e=>by omega)).mono HB1.out.size))
   clear hk2 hf2
   have HS:Hid (∀ W,Below w2.heap.size w2 W->W.cell? ⟨p,0,none⟩=some (.string (str c.host))/\W.cell? ⟨p,1,none⟩=some (.int .i64 c.calls)/\W.cell? ⟨p,2,none⟩=some (.int .i64 c.pubs)/\W.cell? ⟨p,3,none⟩=some (.int .i64 c.subs)/\W.cell? ⟨p,4,none⟩=some (.int .i64 c.least)/\W.cell? ⟨p,5,none⟩=some (.int .i64 c.most)/\W.cell? ⟨p,6,none⟩=some (.int .i64 c.usual)/\W.cell? ⟨w.heap.size,29,none⟩=some (.int .i64 r.exp)):=hid (fun W hW=>by
    have k1:=(HTB.out.below (HB2.out.trans (hW.mono HB2.out.size))).top
    have k2:=HKA.out.fr (Fr.of_below (F:=fun _=>False) (HB2.out.trans (hW.mono HB2.out.size))) (fun h=>h)
    exact ⟨k1.cell 0,k1.cell 1,k1.cell 2,k1.cell 3,k1.cell 4,k1.cell 5,k1.cell 6,k2.cell 29⟩)
   have HX0:Hid (Below w2.heap.size w2 w2.drew):=hid (Below.refl _ _).drew
   refine wp_region_noPanic ?_
   refine wp_region_held_drew (S:=fun W=>W.cell? ⟨p,0,none⟩=some (.string (str c.host))/\W.cell? ⟨p,1,none⟩=some (.int .i64 c.calls)/\W.cell? ⟨p,2,none⟩=some (.int .i64 c.pubs)/\W.cell? ⟨p,3,none⟩=some (.int .i64 c.subs)/\W.cell? ⟨p,4,none⟩=some (.int .i64 c.least)/\W.cell? ⟨p,5,none⟩=some (.int .i64 c.most)/\W.cell? ⟨p,6,none⟩=some (.int .i64 c.usual)/\W.cell? ⟨w.heap.size,29,none⟩=some (.int .i64 r.exp)) (by kernel_rfl) (HS.out _ HX0.out) (fun hHeld=>?_)
   refine wpAnyH_take (i:=0) (oi:=?oi61) (v:=?v61) ?ho61 ?ka61 ?kb61 ?kc61 (fun _ _ _ h=>h) (Or.inl ⟨?kw61,?hy61⟩) (by assumption) ?rest61
   case ho61=>(simp only [List.getElem?_toArray,List.getElem?_cons_zero,List.getElem?_cons_succ];rfl)
   case ka61=>kernel_rfl
   case kb61=>kernel_rfl
   case kc61=>kernel_rfl
   case kw61=>rfl
   case hy61=>(intro wq hSw;(try dsimp only at hSw);go_simp;try with_reducible rfl)
   try simp only [Act.put,List.setIfInBounds_toArray,List.set_cons_zero,List.set_cons_succ]
   refine wpAnyH_take (i:=1) (oi:=?oi62) (v:=?v62) ?ho62 ?ka62 ?kb62 ?kc62 (fun _ _ _ h=>h) (Or.inl ⟨?kw62,?hy62⟩) (by assumption) ?rest62
   case ho62=>(simp only [List.getElem?_toArray,List.getElem?_cons_zero,List.getElem?_cons_succ];rfl)
   case ka62=>kernel_rfl
   case kb62=>kernel_rfl
   case kc62=>kernel_rfl
   case kw62=>rfl
   case hy62=>(intro wq hSw;(try dsimp only at hSw);go_simp;try with_reducible rfl)
   try simp only [Act.put,List.setIfInBounds_toArray,List.set_cons_zero,List.set_cons_succ]
   refine wpAnyH_take (i:=2) (oi:=?oi63) (v:=?v63) ?ho63 ?ka63 ?kb63 ?kc63 (fun _ _ _ h=>h) (Or.inl ⟨?kw63,?hy63⟩) (by assumption) ?rest63
   case ho63=>(simp only [List.getElem?_toArray,List.getElem?_cons_zero,List.getElem?_cons_succ];rfl)
   case ka63=>kernel_rfl
   case kb63=>kernel_rfl
   case kc63=>kernel_rfl
   case kw63=>rfl
   case hy63=>(intro wq hSw;(try dsimp only at hSw);go_simp;try with_reducible rfl)
   try simp only [Act.put,List.setIfInBounds_toArray,List.set_cons_zero,List.set_cons_succ]
   refine wpAnyH_take (i:=3) (oi:=?oi64) (v:=?v64) ?ho64 ?ka64 ?kb64 ?kc64 (fun _ _ _ h=>h) (Or.inl ⟨?kw64,?hy64⟩) (by assumption) ?rest64
   case ho64=>(simp only [List.getElem?_toArray,List.getElem?_cons_zero,List.getElem?_cons_succ];rfl)
   case ka64=>kernel_rfl
   case kb64=>kernel_rfl
   case kc64=>kernel_rfl
   case kw64=>rfl
   case hy64=>(intro wq hSw;(try dsimp only at hSw);go_simp;try with_reducible rfl)
   try simp only [Act.put,List.setIfInBounds_toArray,List.set_cons_zero,List.set_cons_succ]
   refine wpAnyH_take (i:=4) (oi:=?oi65) (v:=?v65) ?ho65 ?ka65 ?kb65 ?kc65 (fun _ _ _ h=>h) (Or.inl ⟨?kw65,?hy65⟩) (by assumption) ?rest65
   case ho65=>(simp only [List.getElem?_toArray,List.getElem?_cons_zero,List.getElem?_cons_succ];rfl)
   case ka65=>kernel_rfl
   case kb65=>kernel_rfl
   case kc65=>kernel_rfl
   case kw65=>rfl
   case hy65=>(intro wq hSw;(try dsimp only at hSw);go_simp;try with_reducible rfl)
   try simp only [Act.put,List.setIfInBounds_toArray,List.set_cons_zero,List.set_cons_succ]
   refine wpAnyH_take (i:=5) (oi:=?oi66) (v:=?v66) ?ho66 ?ka66 ?kb66 ?kc66 (fun _ _ _ h=>h) (Or.inl ⟨?kw66,?hy66⟩) (by assumption) ?rest66
   case ho66=>(simp only [List.getElem?_toArray,List.getElem?_cons_zero,List.getElem?_cons_succ];rfl)
   case ka66=>kernel_rfl
   case kb66=>kernel_rfl
   case kc66=>kernel_rfl
   case kw66=>rfl
   case hy66=>(intro wq hSw;(try dsimp only at hSw);go_simp;try with_reducible rfl)
   try simp only [Act.put,List.setIfInBounds_toArray,List.set_cons_zero,List.set_cons_succ]
   refine wpAnyH_ready (rs:=[6]) (by kernel_rfl) (by simp) ?_
   refine AllReadyH.cons (o:=?oi67) ?ho67 (fun K hK=>?st67) AllReadyH.nil
   case ho67=>(simp only [List.getElem?_toArray,List.getElem?_cons_zero,List.getElem?_cons_succ];rfl)
   go_simp
   refine (HSEC.out _).mono ?_
   rintro e w3 ⟨rfl,hb3⟩
   have HX3:Hid (Below w2.heap.size w2 w3):=hid (thenB_ HX0.out hb3)
   clear hb3
   go_wp2_with fail
   refine hK.out _ _ (HS.out _ HX3.out) (fun hHeld=>?_)
   clear hK K
   try simp only [Act.put,List.setIfInBounds_toArray,List.set_cons_zero,List.set_cons_succ]
   refine wpAnyH_take (i:=7) (oi:=?oi68) (v:=?v68) ?ho68 ?ka68 ?kb68 ?kc68 (fun _ _ _ h=>h) (Or.inl ⟨?kw68,?hy68⟩) (by assumption) ?rest68
   case ho68=>(simp only [List.getElem?_toArray,List.getElem?_cons_zero,List.getElem?_cons_succ];rfl)
   case ka68=>kernel_rfl
   case kb68=>kernel_rfl
   case kc68=>kernel_rfl
   case kw68=>rfl
   case hy68=>(intro wq hSw;(try dsimp only at hSw);go_simp;try with_reducible rfl)
   try simp only [Act.put,List.setIfInBounds_toArray,List.set_cons_zero,List.set_cons_succ]
   refine wpAnyH_take (i:=8) (oi:=?oi69) (v:=?v69) ?ho69 ?ka69 ?kb69 ?kc69 (fun _ _ _ h=>h) (Or.inl ⟨?kw69,?hy69⟩) (by assumption) ?rest69
   case ho69=>(simp only [List.getElem?_toArray,List.getElem?_cons_zero,List.getElem?_cons_succ];rfl)
   case ka69=>kernel_rfl
   case kb69=>kernel_rfl
   case kc69=>kernel_rfl
   case kw69=>rfl
   case hy69=>(intro wq hSw;(try dsimp only at hSw);go_simp;try with_reducible rfl)
   try simp only [Act.put,List.setIfInBounds_toArray,List.set_cons_zero,List.set_cons_succ]
   refine wpAnyH_take (i:=9) (oi:=?oi70) (v:=?v70) ?ho70 ?ka70 ?kb70 ?kc70 (fun _ _ _ h=>h) (Or.inl ⟨?kw70,?hy70⟩) (by assumption) ?rest70
   case ho70=>(simp only [List.getElem?_toArray,List.getElem?_cons_zero,List.getElem?_cons_succ];rfl)
   case ka70=>kernel_rfl
   case kb70=>kernel_rfl
   case kc70=>kernel_rfl
   case kw70=>rfl
   case hy70=>(intro wq hSw;(try dsimp only at hSw);go_simp;try with_reducible rfl)
   try simp only [Act.put,List.setIfInBounds_toArray,List.set_cons_zero,List.set_cons_succ]
   refine wpAnyH_take (i:=10) (oi:=?oi71) (v:=?v71) ?ho71 ?ka71 ?kb71 ?kc71 (fun _ _ _ h=>h) (Or.inl ⟨?kw71,?hy71⟩) (by assumption) ?rest71
   case ho71=>(simp only [List.getElem?_toArray,List.getElem?_cons_zero,List.getElem?_cons_succ];rfl)
   case ka71=>kernel_rfl
   case kb71=>kernel_rfl
   case kc71=>kernel_rfl
   case kw71=>rfl
   case hy71=>(intro wq hSw;(try dsimp only at hSw);go_simp;try with_reducible rfl)
   try simp only [Act.put,List.setIfInBounds_toArray,List.set_cons_zero,List.set_cons_succ]
   refine wpAnyH_take (i:=11) (oi:=?oi72) (v:=?v72) ?ho72 ?ka72 ?kb72 ?kc72 (fun _ _ _ h=>h) (Or.inl ⟨?kw72,?hy72⟩) (by assumption) ?rest72
   case ho72=>(simp only [List.getElem?_toArray,List.getElem?_cons_zero,List.getElem?_cons_succ];rfl)
   case ka72=>kernel_rfl
   case kb72=>kernel_rfl
   case kc72=>kernel_rfl
   case kw72=>rfl
   case hy72=>(intro wq hSw;(try dsimp only at hSw);go_simp;try with_reducible rfl)
   try simp only [Act.put,List.setIfInBounds_toArray,List.set_cons_zero,List.set_cons_succ]
   refine wpAnyH_done (by kernel_rfl) ?_ _
   refine NoPanic.normal ?_
   clear hHeld
   have HK3:=hid (HKB.out.fr (Fr.of_below (F:=fun _=>False) (HB2.out.trans (HX3.out.mono HB2.out.size))) (fun h=>h))
   have HB3:=hid (HB0.out.trans ((HB2.out.trans (HX3.out.mono HB2.out.size)).mono HB0.out.size))
   have HBX:=hid (HB2.out.trans (HX3.out.mono HB2.out.size))
   have hlen:∀ n,(Builtin.len_ #[82] 3 #[.map (some bm)]).run Tryz.prog (w3.drewN n)=.ok (.int .i64 xs.length) (w3.drewN n):=fun n=>by
    have h9:=((HTB.out.below HBX.out).mm.drewN n).len Tryz.underlying82 (ty:=3)
    rw [HTB.out.lenm] at h9
    exact h9
   have y8:w3.cell? ⟨p,8,none⟩=some (.map (some bm)):=(HTB.out.below HBX.out).top.cell 8
   have y3:w3.cell? ⟨p,3,none⟩=some (.int .i64 c.subs):=(HTB.out.below HBX.out).top.cell 3
   have hge:((xs.length:Int)>=c.subs):=HF5.out
   go_wp2_with fail
   go_quiet (fail)
   go_wp2_with (first|(refine wpl_store rfl 39 (.tmp 14) (.tmp 76) rfl (w.heap.size+1) 0 rfl sub0 rfl (HK3.out.drewN _) (Nat.le_refl 34) sub0 rfl (by kernel_rfl) sub0_one ?_;intro wz hkz hfz))
   exact ret_cell2 rfl rfl rfl rfl hkz _ Tryz.underlying39 rfl (by kernel_rfl) (HRT.out _ _ (below_upfr (below_drewN HB3.out _) (Nat.le_refl _) hfz (fun k e=>by omega)) HE.out)
 .exact absurd (by rw [hx]) HNO.out
end Go.Proofs.YthkadehlclcggaaGreatDoor
