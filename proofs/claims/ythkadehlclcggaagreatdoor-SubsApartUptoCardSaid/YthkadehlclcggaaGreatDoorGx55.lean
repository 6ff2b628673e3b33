/- Chapter 19: dialog.Match. -/
import Derived.Test.YthkadehlclcggaaGreatDoorGx54
namespace Go.Proofs.YthkadehlclcggaaGreatDoor
set_option linter.unusedSimpArgs false
set_option linter.unusedVariables false
open Go.RowKit
open Go.Lib (hid)
theorem mat_ways (d:Dlg) (r:ReqP):(r.callid≠d.callid/\matchB d r=false)\/(r.callid=d.callid/\r.ttag≠tagA d.loc/\matchB d r=false)\/(r.callid=d.callid/\r.ttag=tagA d.loc/\r.ftag≠tagA d.rem/\matchB d r=false)\/(r.callid=d.callid/\r.ttag=tagA d.loc/\r.ftag=tagA d.rem/\matchB d r=true):=by
 unfold matchB
 by_cases h1:r.callid=d.callid
 .refine .inr ?_
  by_cases h2:r.ttag=tagA d.loc
  .refine .inr ?_
   by_cases h3:r.ftag=tagA d.rem
   .exact .inr ⟨h1,h2,h3,by rw [decide_eq_true h1,decide_eq_true h2,decide_eq_true h3];rfl⟩
   .exact .inl ⟨h1,h2,h3,by rw [decide_eq_false h3,Bool.and_false]⟩
  .exact .inl ⟨h1,h2,by rw [decide_eq_false h2,Bool.and_false];rfl⟩
 .exact .inl ⟨h1,by rw [decide_eq_false h1];rfl⟩
def MatPost (d:Dlg) (r:ReqP) (w:World) (e:Ending) (w':World):Prop:=e=.returned (.bool (matchB d r))/\Below w.heap.size w w'
set_option maxRecDepth 100000 in
set_option maxHeartbeats 16000000 in
theorem Match_any {d:Dlg} {v:SlV} {r:ReqP} {q:RqV} {B:Nat} {w:World} (hB:B<=w.heap.size) (h1:PrB w B d.loc.params v.la) (h2:PrB w B d.rem.params v.ra) (s1:∀ p∈d.loc.params,parS p) (s2:∀ p∈d.rem.params,parS p) :
 Calls Tryz.prog 59 #[.agg (dlgA d v),.agg (reqA r q)] w (MatPost d r w):=by
 obtain ⟨w0,hw0⟩:∃ w0,(w.alloc (.cells (dlgA d v) 37)).alloc (.cells (reqA r q) 45)=w0:=⟨_,rfl⟩
 have hb0:Below w.heap.size w w0:=hw0▸((Below.refl _ _).alloc (Nat.le_refl _) _).alloc (by simp) _
 have hka:Blk w0 w.heap.size 37 (dlgA d v):=hw0▸(Blk.new w _ _).alloc _
 have hkb:Blk w0 (w.heap.size+1) 45 (reqA r q):=hw0▸Blk.new' _ _ _ (by simp)
 have HBO:Hid (∀ W,Below w0.heap.size w0 W->PrB W B d.loc.params v.la/\PrB W B d.rem.params v.ra/\B<=W.heap.size):=hid (fun W hW=>⟨h1.below ((hb0.mono hB).trans (hW.mono (Nat.le_trans hB hb0.size))),h2.below ((hb0.mono hB).trans (hW.mono (Nat.le_trans hB hb0.size))),Nat.le_trans hB (Nat.le_trans hb0.size hW.size)⟩)
 have HL:Hid (∀ W,Below w0.heap.size w0 W->Calls Tryz.prog 100 #[.agg #[.string (str d.loc.display),.string (str d.loc.uri.scheme),.string (str d.loc.uri.user),.string (str d.loc.uri.host),.int .i64 d.loc.uri.port,v.lp,v.lh,v.la]] W fun e w'=>e=.returned (.string (str (tagA d.loc)))/\Below W.heap.size W w'):=hid (fun W hW=>Tag_any (HBO.out W hW).2.2 (HBO.out W hW).1 s1)
 have HR:Hid (∀ W,Below w0.heap.size w0 W->Calls Tryz.prog 100 #[.agg #[.string (str d.rem.display),.string (str d.rem.uri.scheme),.string (str d.rem.uri.user),.string (str d.rem.uri.host),.int .i64 d.rem.uri.port,v.rp,v.rh,v.ra]] W fun e w'=>e=.returned (.string (str (tagA d.rem)))/\Below W.heap.size W w'):=hid (fun W hW=>Tag_any (HBO.out W hW).2.2 (HBO.out W hW).2.1 s2)
 have HS:Hid (∀ W,Below w0.heap.size w0 W->W.cell? ⟨w.heap.size,0,none⟩=some (.string (str d.callid))/\W.cell? ⟨w.heap.size,1,none⟩=some (.string (str d.loc.display))/\W.cell? ⟨w.heap.size,2,none⟩=some (.string (str d.loc.uri.scheme))/\W.cell? ⟨w.heap.size,3,none⟩=some (.string (str d.loc.uri.user))/\W.cell? ⟨w.heap.size,4,none⟩=some (.string (str d.loc.uri.host))/\W.cell? ⟨w.heap.size,5,none⟩=some (.int .i64 d.loc.uri.port)/\W.cell? ⟨w.heap.size,6,none⟩=some (v.lp)/\W.cell? ⟨w.heap.size,7,none⟩=some (v.lh)/\W.cell? ⟨w.heap.size,8,none⟩=some (v.la)/\W.cell? ⟨w.heap.size,9,none⟩=some (.string (str d.rem.display))/\W.cell? ⟨w.heap.size,10,none⟩=some (.string (str d.rem.uri.scheme))/\W.cell? ⟨w.heap.size,11,none⟩=some (.string (str d.rem.uri.user))/\W.cell? ⟨w.heap.size,12,none⟩=some (.string (str d.rem.uri.host))/\W.cell? ⟨w.heap.size,13,none⟩=some (.int .i64 d.rem.uri.port)/\W.cell? ⟨w.heap.size,14,none⟩=some (v.rp)/\W.cell? ⟨w.heap.size,15,none⟩=some (v.rh)/\W.cell? ⟨w.heap.size,16,none⟩=some (v.ra)/\W.cell? ⟨w.heap.size+1,25,none⟩=some (.string (str r.ftag))/\W.cell? ⟨w.heap.size+1,26,none⟩=some (.string (str r.ttag))/\W.cell? ⟨w.heap.size+1,27,none⟩=some (.string (str r.callid))):=hid (fun W hW=>by
  have k1:=hka.fr (Fr.of_below (F:=fun _=>False) hW) (fun h=>h)
  have k2:=hkb.fr (Fr.of_below (F:=fun _=>False) hW) (fun h=>h)
  exact ⟨k1.cell 0,k1.cell 1,k1.cell 2,k1.cell 3,k1.cell 4,k1.cell 5,k1.cell 6,k1.cell 7,k1.cell 8,k1.cell 9,k1.cell 10,k1.cell 11,k1.cell 12,k1.cell 13,k1.cell 14,k1.cell 15,k1.cell 16,k2.cell 25,k2.cell 26,k2.cell 27⟩)
 have HB0:=hid hb0
 have HX0:Hid (Below w0.heap.size w0 w0.drew):=hid (Below.refl _ _).drew
 have HW:=hid (mat_ways d r)
 unfold MatPost
 generalize matchB d r=R at *
 clear hb0 hka hkb hB h1 h2 s1 s2 HBO
 go_enter Tryz.func59,Tryz.ntmps59
 go_upto_region 1 with (fail)
 try rw [hw0]
 clear hw0
 generalize Value.agg (dlgA d v)=q0
 generalize Value.agg (reqA r q)=q1
 rcases HW.out with ⟨h1,hR⟩|⟨h1,h2,hR⟩|⟨h1,h2,h3,hR⟩|⟨h1,h2,h3,hR⟩
 .have t1:=beq_no (s:=str r.callid) (t:=str d.callid) (fun q=>h1 (str_inj q))
  have HE:=hid hR
  clear h1 hR
  refine wp_region_noPanic (rgn HS.out HX0.out fun hHeld=>?_)
  refine tk 0 ?_
  refine tk 1 ?_
  refine tk 2 ?_
  refine tk 3 ?_
  refine tk 4 ?_
  refine tk 5 ?_
  refine tkv 6 undef (Or.inr ⟨?_,rfl⟩) ?_
  .rfl
  refine tkv 7 undef (Or.inr ⟨?_,rfl⟩) ?_
  .rfl
  refine tkv 8 undef (Or.inr ⟨?_,rfl⟩) ?_
  .rfl
  refine tkv 9 undef (Or.inr ⟨?_,rfl⟩) ?_
  .rfl
  refine tkv 10 undef (Or.inr ⟨?_,rfl⟩) ?_
  .rfl
  refine tkv 11 undef (Or.inr ⟨?_,rfl⟩) ?_
  .rfl
  refine tk 12 ?_
  refine tk 13 ?_
  refine tkv 14 undef (Or.inr ⟨?_,rfl⟩) ?_
  .rfl
  refine tkv 15 undef (Or.inr ⟨?_,rfl⟩) ?_
  .rfl
  refine tkv 16 undef (Or.inr ⟨?_,rfl⟩) ?_
  .rfl
  refine tkv 17 undef (Or.inr ⟨?_,rfl⟩) ?_
  .rfl
  refine tkv 18 undef (Or.inr ⟨?_,rfl⟩) ?_
  .rfl
  refine tkv 19 undef (Or.inr ⟨?_,rfl⟩) ?_
  .rfl
  refine tk 20 ?_
  refine tk 21 ?_
  refine dn9 (NoPanic.normal ?_)
  go_wp2
  go_ret
  exact ⟨ret_bool HE.out.symm,HB0.out.drew⟩
 .have t1:=beq_yes (s:=str r.callid) (t:=str d.callid) (by rw [h1])
  have t2:=beq_no (s:=str r.ttag) (t:=str (tagA d.loc)) (fun q=>h2 (str_inj q))
  have HE:=hid hR
  clear h1 h2 hR
  refine wp_region_noPanic (rgn HS.out HX0.out fun hHeld=>?_)
  refine tk 0 ?_
  refine tk 1 ?_
  refine tk 2 ?_
  refine tk 3 ?_
  refine tk 4 ?_
  refine tk 5 ?_
  refine tk 6 ?_
  refine tk 7 ?_
  refine tk 8 ?_
  refine tk 9 ?_
  refine rd1 10 fun K hK=>?_
  go_simp
  refine (HL.out _ HX0.out).mono ?_
  rintro e w3 ⟨rfl,hb1⟩
  have HX3:Hid (Below w0.heap.size w0 w3):=hid (thenB_ HX0.out hb1)
  clear hb1
  go_wp2_with fail
  refine bk hK (HS.out _ HX3.out) fun hHeld=>?_
  clear hK K
  refine tk 11 ?_
  refine tk 12 ?_
  refine tk 13 ?_
  refine tkv 14 undef (Or.inr ⟨?_,rfl⟩) ?_
  .rfl
  refine tkv 15 undef (Or.inr ⟨?_,rfl⟩) ?_
  .rfl
  refine tkv 16 undef (Or.inr ⟨?_,rfl⟩) ?_
  .rfl
  refine tkv 17 undef (Or.inr ⟨?_,rfl⟩) ?_
  .rfl
  refine tkv 18 undef (Or.inr ⟨?_,rfl⟩) ?_
  .rfl
  refine tkv 19 undef (Or.inr ⟨?_,rfl⟩) ?_
  .rfl
  refine tk 20 ?_
  refine tk 21 ?_
  refine dn9 (NoPanic.normal ?_)
  go_wp2
  go_ret
  exact ⟨ret_bool HE.out.symm,HB0.out.trans (HX3.out.mono HB0.out.size)⟩
 .have t1:=beq_yes (s:=str r.callid) (t:=str d.callid) (by rw [h1])
  have t2:=beq_yes (s:=str r.ttag) (t:=str (tagA d.loc)) (by rw [h2])
  have t3:=beq_no (s:=str r.ftag) (t:=str (tagA d.rem)) (fun q=>h3 (str_inj q))
  have HE:=hid hR
  clear h1 h2 h3 hR
  refine wp_region_noPanic (rgn HS.out HX0.out fun hHeld=>?_)
  refine tk 0 ?_
  refine tk 1 ?_
  refine tk 2 ?_
  refine tk 3 ?_
  refine tk 4 ?_
  refine tk 5 ?_
  refine tk 6 ?_
  refine tk 7 ?_
  refine tk 8 ?_
  refine tk 9 ?_
  refine rd1 10 fun K hK=>?_
  go_simp
  refine (HL.out _ HX0.out).mono ?_
  rintro e w3 ⟨rfl,hb1⟩
  have HX3:Hid (Below w0.heap.size w0 w3):=hid (thenB_ HX0.out hb1)
  clear hb1
  go_wp2_with fail
  refine bk hK (HS.out _ HX3.out) fun hHeld=>?_
  clear hK K
  refine tk 11 ?_
  refine tk 12 ?_
  refine tk 13 ?_
  refine tk 14 ?_
  refine tk 15 ?_
  refine tk 16 ?_
  refine tk 17 ?_
  refine rd1 18 fun K hK=>?_
  go_simp
  refine (HR.out _ HX3.out).mono ?_
  rintro e w4 ⟨rfl,hb1⟩
  have HX4:Hid (Below w0.heap.size w0 w4):=hid (thenB_ HX3.out hb1)
  clear hb1
  go_wp2_with fail
  refine bk hK (HS.out _ HX4.out) fun hHeld=>?_
  clear hK K
  refine tk 19 ?_
  refine tk 20 ?_
  refine tk 21 ?_
  refine dn9 (NoPanic.normal ?_)
  go_wp2
  go_ret
  exact ⟨ret_bool HE.out.symm,HB0.out.trans (HX4.out.mono HB0.out.size)⟩
 .have t1:=beq_yes (s:=str r.callid) (t:=str d.callid) (by rw [h1])
  have t2:=beq_yes (s:=str r.ttag) (t:=str (tagA d.loc)) (by rw [h2])
  have t3:=beq_yes (s:=str r.ftag) (t:=str (tagA d.rem)) (by rw [h3])
  have HE:=hid hR
  clear h1 h2 h3 hR
  refine wp_region_noPanic (rgn HS.out HX0.out fun hHeld=>?_)
  refine tk 0 ?_
  refine tk 1 ?_
  refine tk 2 ?_
  refine tk 3 ?_
  refine tk 4 ?_
  refine tk 5 ?_
  refine tk 6 ?_
  refine tk 7 ?_
  refine tk 8 ?_
  refine tk 9 ?_
  refine rd1 10 fun K hK=>?_
  go_simp
  refine (HL.out _ HX0.out).mono ?_
  rintro e w3 ⟨rfl,hb1⟩
  have HX3:Hid (Below w0.heap.size w0 w3):=hid (thenB_ HX0.out hb1)
  clear hb1
  go_wp2_with fail
  refine bk hK (HS.out _ HX3.out) fun hHeld=>?_
  clear hK K
  refine tk 11 ?_
  refine tk 12 ?_
  refine tk 13 ?_
  refine tk 14 ?_
  refine tk 15 ?_
  refine tk 16 ?_
  refine tk 17 ?_
  refine rd1 18 fun K hK=>?_
  go_simp
  refine (HR.out _ HX3.out).mono ?_
  rintro e w4 ⟨rfl,hb1⟩
  have HX4:Hid (Below w0.heap.size w0 w4):=hid (thenB_ HX3.out hb1)
  clear hb1
  go_wp2_with fail
  refine bk hK (HS.out _ HX4.out) fun hHeld=>?_
  clear hK K
  refine tk 19 ?_
  refine tk 20 ?_
  refine tk 21 ?_
  refine dn9 (NoPanic.normal ?_)
  go_wp2
  go_ret
  exact ⟨ret_bool HE.out.symm,HB0.out.trans (HX4.out.mono HB0.out.size)⟩
end Go.Proofs.YthkadehlclcggaaGreatDoor
