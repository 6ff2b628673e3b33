/- Chapter 19: dialog.Match. -/
import Derived.Test.YthkadehlclcggaaGreatDoorGy54
namespace Go.Proofs.YthkadehlclcggaaGreatDoor
set_option linter.unusedSimpArgs false
set_option linter.unusedVariables false
open Go.RowKit
open Go.Lib (hid)
theorem mat_ways (d:Dlg) (r:ReqP):(r.callid≠d.callid/\matchB d r=false)\/(r.callid=d.callid/\r.ttag≠tagA d.loc/\matchB d r=false)\/(r.callid=d.callid/\r.ttag=tagA d.loc/\r.ftag≠tagA d.rem/\matchB d r=false)\/(r.callid=d.callid/\r.ttag=tagA d.loc/\r.ftag=tagA d.rem/\matchB d r=true):=by
 unfold matchB
 by_cases h1:r.callid=d.callid
 .refine .inr ?_
  by_cases h2:r.ttag=tagA d.loc
  .refine .inr ?_
   by_cases h3:r.ftag=tagA d.rem
   .exact .inr ⟨h1,h2,h3,by rw [decide_eq_true h1,decide_eq_true h2,decide_eq_true h3];rfl⟩
   .exact .inl ⟨h1,h2,h3,by rw [decide_eq_false h3,Bool.and_false]⟩
  .exact .inl ⟨h1,h2,by rw [decide_eq_false h2,Bool.and_false];rfl⟩
 .exact .inl ⟨h1,by rw [decide_eq_false h1];rfl⟩
def MatPost (d:Dlg) (r:ReqP) (w:World) (e:Ending) (w':World):Prop:=e=.returned (.bool (matchB d r))/\Below w.heap.size w w'
set_option maxRecDepth 100000 in
set_option maxHeartbeats 16000000 in
theorem Match_any {d:Dlg} {v:SlV} {r:ReqP} {q:RqV} {B:Nat} {w:World} (hB:B<=w.heap.size) (h1:PrB w B d.loc.params v.la) (h2:PrB w B d.rem.params v.ra) (s1:∀ p∈d.loc.params,parS p) (s2:∀ p∈d.rem.params,parS p) :
 Calls Tryz.prog 59 #[.agg (dlgA d v),.agg (reqA r q)] w (MatPost d r w):=by
 obtain ⟨w0,hw0⟩:∃ w0,(w.alloc (.cells (dlgA d v) 37)).alloc (.cells (reqA r q) 45)=w0:=⟨_,rfl⟩
 have hb0:Below w.heap.size w w0:=hw0▸((Below.refl _ _).alloc (Nat.le_refl _) _).alloc (by simp) _
 have hka:Blk w0 w.heap.size 37 (dlgA d v):=hw0▸(Blk.new w _ _).alloc _
 have hkb:Blk w0 (w.heap.size+1) 45 (reqA r q):=hw0▸Blk.new' _ _ _ (by simp)
 have HBO:Hid (∀ W,Below w0.heap.size w0 W->PrB W B d.loc.params v.la/\PrB W B d.rem.params v.ra/\B<=W.heap.size):=hid (fun W hW=>⟨h1.below ((hb0.mono hB).trans (hW.mono (Nat.le_trans hB hb0.size))),h2.below ((hb0.mono hB).trans (hW.mono (Nat.le_trans hB hb0.size))),Nat.le_trans hB (Nat.le_trans hb0.size hW.size)⟩)
 have HL:Hid (∀ W,Below w0.heap.size w0 W->Calls Tryz.prog 100 #[.agg #[.string (str d.loc.display),.string (str d.loc.uri.scheme),.string (str d.loc.uri.user),.string (str d.loc.uri.host),.int .i64 d.loc.uri.port,v.lp,v.lh,v.la]] W fun e w'=>e=.returned (.string (str (tagA d.loc)))/\Below W.heap.size W w'):=hid (fun W hW=>Tag_any (HBO.out W hW).2.2 (HBO.out W hW).1 s1)
 have HR:Hid (∀ W,Below w0.heap.size w0 W->Calls Tryz.prog 100 #[.agg #[.string (str d.rem.display),.string (str d.rem.uri.scheme),.string (str d.rem.uri.user),.string (str d.rem.uri.host),.int .i64 d.rem.uri.port,v.rp,v.rh,v.ra]] W fun e w'=>e=.returned (.string (str (tagA d.rem)))/\Below W.heap.size W w'):=hid (fun W hW=>Tag_any (HBO.out W hW).2.2 (HBO.out W hW).2.1 s2)
 have HS:Hid (∀ W,Below w0.heap.size w0 W->W.cell? ⟨w.heap.size,0,none⟩=some (.string (str d.callid))/\W.cell? ⟨w.heap.size,1,none⟩=some (.string (str d.loc.display))/\W.cell? ⟨w.heap.size,2,none⟩=some (.string (str d.loc.uri.scheme))/\W.cell? ⟨w.heap.size,3,none⟩=some (.string (str d.loc.uri.user))/\W.cell? ⟨w.heap.size,4,none⟩=some (.string (str d.loc.uri.host))/\W.cell? ⟨w.heap.size,5,none⟩=some (.int .i64 d.loc.uri.port)/\W.cell? ⟨w.heap.size,6,none⟩=some (v.lp)/\W.cell? ⟨w.heap.size,7,none⟩=some (v.lh)/\W.cell? ⟨w.heap.size,8,none⟩=some (v.la)/\W.cell? ⟨w.heap.size,9,none⟩=some (.string (str d.rem.display))/\W.cell? ⟨w.heap.size,10,none⟩=some (.string (str d.rem.uri.scheme))/\W.cell? ⟨w.heap.size,11,none⟩=some (.string (str d.rem.uri.user))/\W.cell? ⟨w.heap.size,12,none⟩=some (.string (str d.rem.uri.host))/\W.cell? ⟨w.heap.size,13,none⟩=some (.int .i64 d.rem.uri.port)/\W.cell? ⟨w.heap.size,14,none⟩=some (v.rp)/\W.cell? ⟨w.heap.size,15,none⟩=some (v.rh)/\W.cell? ⟨w.heap.size,16,none⟩=some (v.ra)/\W.cell? ⟨w.heap.size+1,25,none⟩=some (.string (str r.ftag))/\W.cell? ⟨w.heap.size+1,26,none⟩=some (.string (str r.ttag))/\W.cell? ⟨w.heap.size+1,27,none⟩=some (.string (str r.callid))):=hid (fun W hW=>by
  have k1:=hka.fr (Fr.of_below (F:=fun _=>False) hW) (fun h=>h)
  have k2:=hkb.fr (Fr.of_below (F:=fun _=>False) hW) (fun h=>h)
  exact ⟨k1.cell 0,k1.cell 1,k1.cell 2,k1.cell 3,k1.cell 4,k1.cell 5,k1.cell 6,k1.cell 7,k1.cell 8,k1.cell 9,k1.cell 10,k1.cell 11,k1.cell 12,k1.cell 13,k1.cell 14,k1.cell 15,k1.cell 16,k2.cell 25,k2.cell 26,k2.cell 27⟩)
 have HB0:=hid hb0
 have HX0:Hid (Below w0.heap.size w0 w0.drew):=hid (Below.refl _ _).drew
 have HW:=hid (mat_ways d r)
 unfold MatPost
 generalize matchB d r=R at *
 clear hb0 hka hkb hB h1 h2 s1 s2 HBO
 go_enter Tryz.func59,Tryz.ntmps59
 go_upto_region 1 with (fail)
 try rw [hw0]
 clear hw0
 generalize Value.agg (dlgA d v)=q0
 generalize Value.agg (reqA r q)=q1
 rcases HW.out with ⟨h1,hR⟩|⟨h1,h2,hR⟩|⟨h1,h2,h3,hR⟩|⟨h1,h2,h3,hR⟩
 .have t1:=beq_no (s:=str r.callid) (t:=str d.callid) (fun q=>h1 (str_inj q))
  have HE:=hid hR
  clear h1 hR
  refine wp_region_noPanic ?_
  refine wp_region_held_drew (S:=fun W=>W.cell? ⟨w.heap.size,0,none⟩=some (.string (str d.callid))/\W.cell? ⟨w.heap.size,1,none⟩=some (.string (str d.loc.display))/\W.cell? ⟨w.heap.size,2,none⟩=some (.string (str d.loc.uri.scheme))/\W.cell? ⟨w.heap.size,3,none⟩=some (.string (str d.loc.uri.user))/\W.cell? ⟨w.heap.size,4,none⟩=some (.string (str d.loc.uri.host))/\W.cell? ⟨w.heap.size,5,none⟩=some (.int .i64 d.loc.uri.port)/\W.cell? ⟨w.heap.size,6,none⟩=some (v.lp)/\W.cell? ⟨w.heap.size,7,none⟩=some (v.lh)/\W.cell? ⟨w.heap.size,8,none⟩=some (v.la)/\W.cell? ⟨w.heap.size,9,none⟩=some (.string (str d.rem.display))/\W.cell? ⟨w.heap.size,10,none⟩=some (.string (str d.rem.uri.scheme))/\W.cell? ⟨w.heap.size,11,none⟩=some (.string (str d.rem.uri.user))/\W.cell? ⟨w.heap.size,12,none⟩=some (.string (str d.rem.uri.host))/\W.cell? ⟨w.heap.size,13,none⟩=some (.int .i64 d.rem.uri.port)/\W.cell? ⟨w.heap.size,14,none⟩=some (v.rp)/\W.cell? ⟨w.heap.size,15,none⟩=some (v.rh)/\W.cell? ⟨w.heap.size,16,none⟩=some (v.ra)/\W.cell? ⟨w.heap.size+1,25,none⟩=some (.string (str r.ftag))/\W.cell? ⟨w.heap.size+1,26,none⟩=some (.string (str r.ttag))/\W.cell? ⟨w.heap.size+1,27,none⟩=some (.string (str r.callid))) (by kernel_rfl) (HS.out _ HX0.out) (fun hHeld=>?_)
  refine wpAnyH_take (i:=0) (oi:=?oi1) (v:=?v1) ?ho1 ?ka1 ?kb1 ?kc1 (fun _ _ _ h=>h) (Or.inl ⟨?kw1,?hy1⟩) (by assumption) ?rest1
  case ho1=>(simp only [List.getElem?_toArray,List.getElem?_cons_zero,List.getElem?_cons_succ];rfl)
  case ka1=>kernel_rfl
  case kb1=>kernel_rfl
  case kc1=>kernel_rfl
  case kw1=>rfl
  case hy1=>(intro wq hSw;(try dsimp only at hSw);go_simp;try with_reducible rfl)
  try simp only [Act.put,List.setIfInBounds_toArray,List.set_cons_zero,List.set_cons_succ]
  refine wpAnyH_take (i:=1) (oi:=?oi2) (v:=?v2) ?ho2 ?ka2 ?kb2 ?kc2 (fun _ _ _ h=>h) (Or.inl ⟨?kw2,?hy2⟩) (by assumption) ?rest2
  case ho2=>(simp only [List.getElem?_toArray,List.getElem?_cons_zero,List.getElem?_cons_succ];rfl)
  case ka2=>kernel_rfl
  case kb2=>kernel_rfl
  case kc2=>kernel_rfl
  case kw2=>rfl
  case hy2=>(intro wq hSw;(try dsimp only at hSw);go_simp;try with_reducible rfl)
  try simp only [Act.put,List.setIfInBounds_toArray,List.set_cons_zero,List.set_cons_succ]
  refine wpAnyH_take (i:=2) (oi:=?oi3) (v:=?v3) ?ho3 ?ka3 ?kb3 ?kc3 (fun _ _ _ h=>h) (Or.inl ⟨?kw3,?hy3⟩) (by assumption) ?rest3
  case ho3=>(simp only [List.getElem?_toArray,List.getElem?_cons_zero,List.getElem?_cons_succ];rfl)
  case ka3=>kernel_rfl
  case kb3=>kernel_rfl
  case kc3=>kernel_rfl
  case kw3=>rfl
  case hy3=>(intro wq hSw;(try dsimp only at hSw);go_simp;try with_reducible rfl)
  try simp only [Act.put,List.setIfInBounds_toArray,List.set_cons_zero,List.set_cons_succ]
  refine wpAnyH_take (i:=3) (oi:=?oi4) (v:=?v4) ?ho4 ?ka4 ?kb4 ?kc4 (fun _ _ _ h=>h) (Or.inl ⟨?kw4,?hy4⟩) (by assumption) ?rest4
  case ho4=>(simp only [List.getElem?_toArray,List.getElem?_cons_zero,List.getElem?_cons_succ];rfl)
  case ka4=>kernel_rfl
  case kb4=>kernel_rfl
  case kc4=>kernel_rfl
  case kw4=>rfl
  case hy4=>(intro wq hSw;(try dsimp only at hSw);go_simp;try with_reducible rfl)
  try simp only [Act.put,List.setIfInBounds_toArray,List.set_cons_zero,List.set_cons_succ]
  refine wpAnyH_take (i:=4) (oi:=?oi5) (v:=?v5) ?ho5 ?ka5 ?kb5 ?kc5 (fun _ _ _ h=>h) (Or.inl ⟨?kw5,?hy5⟩) (by assumption) ?rest5
  case ho5=>(simp only [List.getElem?_toArray,List.getElem?_cons_zero,List.getElem?_cons_succ];rfl)
  case ka5=>kernel_rfl
  case kb5=>kernel_rfl
  case kc5=>kernel_rfl
  case kw5=>rfl
  case hy5=>(intro wq hSw;(try dsimp only at hSw);go_simp;try with_reducible rfl)
  try simp only [Act.put,List.setIfInBounds_toArray,List.set_cons_zero,List.set_cons_succ]
  refine wpAnyH_take (i:=5) (oi:=?oi6) (v:=?v6) ?ho6 ?ka6 ?kb6 ?kc6 (fun _ _ _ h=>h) (Or.inl ⟨?kw6,?hy6⟩) (by assumption) ?rest6
  case ho6=>(simp only [List.getElem?_toArray,List.getElem?_cons_zero,List.getElem?_cons_succ];rfl)
  case ka6=>kernel_rfl
  case kb6=>kernel_rfl
  case kc6=>kernel_rfl
  case kw6=>rfl
  case hy6=>(intro wq hSw;(try dsimp only at hSw);go_simp;try with_reducible rfl)
  try simp only [Act.put,List.setIfInBounds_toArray,List.set_cons_zero,List.set_cons_succ]
  refine wpAnyH_take (i:=6) (oi:=?oi7) (v:=undef) ?ho7 ?ka7 ?kb7 ?kc7 (fun _ _ _ h=>h) (Or.inr ⟨?kw7,rfl⟩) (by assumption) ?rest7
  case ho7=>(simp only [List.getElem?_toArray,List.getElem?_cons_zero,List.getElem?_cons_succ];rfl)
  case ka7=>kernel_rfl
  case kb7=>kernel_rfl
  case kc7=>kernel_rfl
  case kw7=>rfl
  try simp only [Act.put,List.setIfInBounds_toArray,List.set_cons_zero,List.set_cons_succ]
  refine wpAnyH_take (i:=7) (oi:=?oi8) (v:=undef) ?ho8 ?ka8 ?kb8 ?kc8 (fun _ _ _ h=>h) (Or.inr ⟨?kw8,rfl⟩) (by assumption) ?rest8
  case ho8=>(simp only [List.getElem?_toArray,List.getElem?_cons_zero,List.getElem?_cons_succ];rfl)
  case ka8=>kernel_rfl
  case kb8=>kernel_rfl
  case kc8=>kernel_rfl
  case kw8=>rfl
  try simp only [Act.put,List.setIfInBounds_toArray,List.set_cons_zero,List.set_cons_succ]
  refine wpAnyH_take (i:=8) (oi:=?oi9) (v:=undef) ?ho9 ?ka9 ?kb9 ?kc9 (fun _ _ _ h=>h) (Or.inr ⟨?kw9,rfl⟩) (by assumption) ?rest9
  case ho9=>(simp only [List.getElem?_toArray,List.getElem?_cons_zero,List.getElem?_cons_succ];rfl)
  case ka9=>kernel_rfl
  case kb9=>kernel_rfl
  case kc9=>kernel_rfl
  case kw9=>rfl
  try simp only [Act.put,List.setIfInBounds_toArray,List.set_cons_zero,List.set_cons_succ]
  refine wpAnyH_take (i:=9) (oi:=?oi10) (v:=undef) ?ho10 ?ka10 ?kb10 ?kc10 (fun _ _ _ h=>h) (Or.inr ⟨?kw10,rfl⟩) (by assumption) ?rest10
  case ho10=>(simp only [List.getElem?_toArray,List.getElem?_cons_zero,List.getElem?_cons_succ];rfl)
  case ka10=>kernel_rfl
  case kb10=>kernel_rfl
  case kc10=>kernel_rfl
  case kw10=>rfl
  try simp only [Act.put,List.setIfInBounds_toArray,List.set_cons_zero,List.set_cons_succ]
  refine wpAnyH_take (i:=10) (oi:=?oi11) (v:=undef) ?ho11 ?ka11 ?kb11 ?kc11 (fun _ _ _ h=>h) (Or.inr ⟨?kw11,rfl⟩) (by assumption) ?rest11
  case ho11=>(simp only [List.getElem?_toArray,List.getElem?_cons_zero,List.getElem?_cons_succ];rfl)
  case ka11=>kernel_rfl
  case kb11=>kernel_rfl
  case kc11=>kernel_rfl
  case kw11=>rfl
  try simp only [Act.put,List.setIfInBounds_toArray,List.set_cons_zero,List.set_cons_succ]
  refine wpAnyH_take (i:=11) (oi:=?oi12) (v:=undef) ?ho12 ?ka12 ?kb12 ?kc12 (fun _ _ _ h=>h) (Or.inr ⟨?kw12,rfl⟩) (by assumption) ?rest12
  case ho12=>(simp only [List.getElem?_toArray,List.getElem?_cons_zero,List.getElem?_cons_succ];rfl)
  case ka12=>kernel_rfl
  case kb12=>kernel_rfl
  case kc12=>kernel_rfl
  case kw12=>rfl
  try simp only [Act.put,List.setIfInBounds_toArray,List.set_cons_zero,List.set_cons_succ]
  refine wpAnyH_take (i:=12) (oi:=?oi13) (v:=?v13) ?ho13 ?ka13 ?kb13 ?kc13 (fun _ _ _ h=>h) (Or.inl ⟨?kw13,?hy13⟩) (by assumption) ?rest13
  case ho13=>(simp only [List.getElem?_toArray,List.getElem?_cons_zero,List.getElem?_cons_succ];rfl)
  case ka13=>kernel_rfl
  case kb13=>kernel_rfl
  case kc13=>kernel_rfl
  case kw13=>rfl
  case hy13=>(intro wq hSw;(try dsimp only at hSw);go_simp;try with_reducible rfl)
  try simp only [Act.put,List.setIfInBounds_toArray,List.set_cons_zero,List.set_cons_succ]
  refine wpAnyH_take (i:=13) (oi:=?oi14) (v:=?v14) ?ho14 ?ka14 ?kb14 ?kc14 (fun _ _ _ h=>h) (Or.inl ⟨?kw14,?hy14⟩) (by assumption) ?rest14
  case ho14=>(simp only [List.getElem?_toArray,List.getElem?_cons_zero,List.getElem?_cons_succ];rfl)
  case ka14=>kernel_rfl
  case kb14=>kernel_rfl
  case kc14=>kernel_rfl
  case kw14=>rfl
  case hy14=>(intro wq hSw;(try dsimp only at hSw);go_simp;try with_reducible rfl)
  try simp only [Act.put,List.setIfInBounds_toArray,List.set_cons_zero,List.set_cons_succ]
  refine wpAnyH_take (i:=14) (oi:=?oi15) (v:=undef) ?ho15 ?ka15 ?kb15 ?kc15 (fun _ _ _ h=>h) (Or.inr ⟨?kw15,rfl⟩) (by assumption) ?rest15
  case ho15=>(simp only [List.getElem?_toArray,List.getElem?_cons_zero,List.getElem?_cons_succ];rfl)
  case ka15=>kernel_rfl
  case kb15=>kernel_rfl
  case kc15=>kernel_rfl
  case kw15=>rfl
  try simp only [Act.put,List.setIfInBounds_toArray,List.set_cons_zero,List.set_cons_succ]
  refine wpAnyH_take (i:=15) (oi:=?oi16) (v:=undef) ?ho16 ?ka16 ?kb16 ?kc16 (fun _ _ _ h=>h) (Or.inr ⟨?kw16,rfl⟩) (by assumption) ?rest16
  case ho16=>(simp only [List.getElem?_toArray,List.getElem?_cons_zero,List.getElem?_cons_succ];rfl)
  case ka16=>kernel_rfl
  case kb16=>kernel_rfl
  case kc16=>kernel_rfl
  case kw16=>rfl
  try simp only [Act.put,List.setIfInBounds_toArray,List.set_cons_zero,List.set_cons_succ]
  refine wpAnyH_take (i:=16) (oi:=?oi17) (v:=undef) ?ho17 ?ka17 ?kb17 ?kc17 (fun _ _ _ h=>h) (Or.inr ⟨?kw17,rfl⟩) (by assumption) ?rest17
  case ho17=>(simp only [List.getElem?_toArray,List.getElem?_cons_zero,List.getElem?_cons_succ];rfl)
  case ka17=>kernel_rfl
  case kb17=>kernel_rfl
  case kc17=>kernel_rfl
  case kw17=>rfl
  try simp only [Act.put,List.setIfInBounds_toArray,List.set_cons_zero,List.set_cons_succ]
  refine wpAnyH_take (i:=17) (oi:=?oi18) (v:=undef) ?ho18 ?ka18 ?kb18 ?kc18 (fun _ _ _ h=>h) (Or.inr ⟨?kw18,rfl⟩) (by assumption) ?rest18
  case ho18=>(simp only [List.getElem?_toArray,List.getElem?_cons_zero,List.getElem?_cons_succ];rfl)
  case ka18=>kernel_rfl
  case kb18=>kernel_rfl
  case kc18=>kernel_rfl
  case kw18=>rfl
  try simp only [Act.put,List.setIfInBounds_toArray,List.set_cons_zero,List.set_cons_succ]
  refine wpAnyH_take (i:=18) (oi:=?oi19) (v:=undef) ?ho19 ?ka19 ?kb19 ?kc19 (fun _ _ _ h=>h) (Or.inr ⟨?kw19,rfl⟩) (by assumption) ?rest19
  case ho19=>(simp only [List.getElem?_toArray,List.getElem?_cons_zero,List.getElem?_cons_succ];rfl)
  case ka19=>kernel_rfl
  case kb19=>kernel_rfl
  case kc19=>kernel_rfl
  case kw19=>rfl
  try simp only [Act.put,List.setIfInBounds_toArray,List.set_cons_zero,List.set_cons_succ]
  refine wpAnyH_take (i:=19) (oi:=?oi20) (v:=undef) ?ho20 ?ka20 ?kb20 ?kc20 (fun _ _ _ h=>h) (Or.inr ⟨?kw20,rfl⟩) (by assumption) ?rest20
  case ho20=>(simp only [List.getElem?_toArray,List.getElem?_cons_zero,List.getElem?_cons_succ];rfl)
  case ka20=>kernel_rfl
  case kb20=>kernel_rfl
  case kc20=>kernel_rfl
  case kw20=>rfl
  try simp only [Act.put,List.setIfInBounds_toArray,List.set_cons_zero,List.set_cons_succ]
  refine wpAnyH_take (i:=20) (oi:=?oi21) (v:=?v21) ?ho21 ?ka21 ?kb21 ?kc21 (fun _ _ _ h=>h) (Or.inl ⟨?kw21,?hy21⟩) (by assumption) ?rest21
  case ho21=>(simp only [List.getElem?_toArray,List.getElem?_cons_zero,List.getElem?_cons_succ];rfl)
  case ka21=>kernel_rfl
  case kb21=>kernel_rfl
  case kc21=>kernel_rfl
  case kw21=>rfl
  case hy21=>(intro wq hSw;(try dsimp only at hSw);go_simp;try with_reducible rfl)
  try simp only [Act.put,List.setIfInBounds_toArray,List.set_cons_zero,List.set_cons_succ]
  refine wpAnyH_take (i:=21) (oi:=?oi22) (v:=?v22) ?ho22 ?ka22 ?kb22 ?kc22 (fun _ _ _ h=>h) (Or.inl ⟨?kw22,?hy22⟩) (by assumption) ?rest22
  case ho22=>(simp only [List.getElem?_toArray,List.getElem?_cons_zero,List.getElem?_cons_succ];rfl)
  case ka22=>kernel_rfl
  case kb22=>kernel_rfl
  case kc22=>kernel_rfl
  case kw22=>rfl
  case hy22=>(intro wq hSw;(try dsimp only at hSw);go_simp;try with_reducible rfl)
  try simp only [Act.put,List.setIfInBounds_toArray,List.set_cons_zero,List.set_cons_succ]
  refine wpAnyH_done (by kernel_rfl) ?_ _
  refine NoPanic.normal ?_
  go_wp2
  go_ret
  exact ⟨ret_bool HE.out.symm,HB0.out.drew⟩
 .have t1:=beq_yes (s:=str r.callid) (t:=str d.callid) (by rw [h1])
  have t2:=beq_no (s:=str r.ttag) (t:=str (tagA d.loc)) (fun q=>h2 (str_inj q))
  have HE:=hid hR
  clear h1 h2 hR
  refine wp_region_noPanic ?_
  refine wp_region_held_drew (S:=fun W=>W.cell? ⟨w.heap.size,0,none⟩=some (.string (str d.callid))/\W.cell? ⟨w.heap.size,1,none⟩=some (.string (str d.loc.display))/\W.cell? ⟨w.heap.size,2,none⟩=some (.string (str d.loc.uri.scheme))/\W.cell? ⟨w.heap.size,3,none⟩=some (.string (str d.loc.uri.user))/\W.cell? ⟨w.heap.size,4,none⟩=some (.string (str d.loc.uri.host))/\W.cell? ⟨w.heap.size,5,none⟩=some (.int .i64 d.loc.uri.port)/\W.cell? ⟨w.heap.size,6,none⟩=some (v.lp)/\W.cell? ⟨w.heap.size,7,none⟩=some (v.lh)/\W.cell? ⟨w.heap.size,8,none⟩=some (v.la)/\W.cell? ⟨w.heap.size,9,none⟩=some (.string (str d.rem.display))/\W.cell? ⟨w.heap.size,10,none⟩=some (.string (str d.rem.uri.scheme))/\W.cell? ⟨w.heap.size,11,none⟩=some (.string (str d.rem.uri.user))/\W.cell? ⟨w.heap.size,12,none⟩=some (.string (str d.rem.uri.host))/\W.cell? ⟨w.heap.size,13,none⟩=some (.int .i64 d.rem.uri.port)/\W.cell? ⟨w.heap.size,14,none⟩=some (v.rp)/\W.cell? ⟨w.heap.size,15,none⟩=some (v.rh)/\W.cell? ⟨w.heap.size,16,none⟩=some (v.ra)/\W.cell? ⟨w.heap.size+1,25,none⟩=some (.string (str r.ftag))/\W.cell? ⟨w.heap.size+1,26,none⟩=some (.string (str r.ttag))/\W.cell? ⟨w.heap.size+1,27,none⟩=some (.string (str r.callid))) (by kernel_rfl) (HS.out _ HX0.out) (fun hHeld=>?_)
  refine wpAnyH_take (i:=0) (oi:=?oi23) (v:=?v23) ?ho23 ?ka23 ?kb23 ?kc23 (fun _ _ _ h=>h) (Or.inl ⟨?kw23,?hy23⟩) (by assumption) ?rest23
  case ho23=>(simp only [List.getElem?_toArray,List.getElem?_cons_zero,List.getElem?_cons_succ];rfl)
  case ka23=>kernel_rfl
  case kb23=>kernel_rfl
  case kc23=>kernel_rfl
  case kw23=>rfl
  case hy23=>(intro wq hSw;(try dsimp only at hSw);go_simp;try with_reducible rfl)
  try simp only [Act.put,List.setIfInBounds_toArray,List.set_cons_zero,List.set_cons_succ]
  refine wpAnyH_take (i:=1) (oi:=?oi24) (v:=?v24) ?ho24 ?ka24 ?kb24 ?kc24 (fun _ _ _ h=>h) (Or.inl ⟨?kw24,?hy24⟩) (by assumption) ?rest24
  case ho24=>(simp only [List.getElem?_toArray,List.getElem?_cons_zero,List.getElem?_cons_succ];rfl)
  case ka24=>kernel_rfl
  case kb24=>kernel_rfl
  case kc24=>kernel_rfl
  case kw24=>rfl
  case hy24=>(intro wq hSw;(try dsimp only at hSw);go_simp;try with_reducible rfl)
  try simp only [Act.put,List.setIfInBounds_toArray,List.set_cons_zero,List.set_cons_succ]
  refine wpAnyH_take (i:=2) (oi:=?oi25) (v:=?v25) ?ho25 ?ka25 ?kb25 ?kc25 (fun _ _ _ h=>h) (Or.inl ⟨?kw25,?hy25⟩) (by assumption) ?rest25
  case ho25=>(simp only [List.getElem?_toArray,List.getElem?_cons_zero,List.getElem?_cons_succ];rfl)
  case ka25=>kernel_rfl
  case kb25=>kernel_rfl
  case kc25=>kernel_rfl
  case kw25=>rfl
  case hy25=>(intro wq hSw;(try dsimp only at hSw);go_simp;try with_reducible rfl)
  try simp only [Act.put,List.setIfInBounds_toArray,List.set_cons_zero,List.set_cons_succ]
  refine wpAnyH_take (i:=3) (oi:=?oi26) (v:=?v26) ?ho26 ?ka26 ?kb26 ?kc26 (fun _ _ _ h=>h) (Or.inl ⟨?kw26,?hy26⟩) (by assumption) ?rest26
  case ho26=>(simp only [List.getElem?_toArray,List.getElem?_cons_zero,List.getElem?_cons_succ];rfl)
  case ka26=>kernel_rfl
  case kb26=>kernel_rfl
  case kc26=>kernel_rfl
  case kw26=>rfl
  case hy26=>(intro wq hSw;(try dsimp only at hSw);go_simp;try with_reducible rfl)
  try simp only [Act.put,List.setIfInBounds_toArray,List.set_cons_zero,List.set_cons_succ]
  refine wpAnyH_take (i:=4) (oi:=?oi27) (v:=?v27) ?ho27 ?ka27 ?kb27 ?kc27 (fun _ _ _ h=>h) (Or.inl ⟨?kw27,?hy27⟩) (by assumption) ?rest27
  case ho27=>(simp only [List.getElem?_toArray,List.getElem?_cons_zero,List.getElem?_cons_succ];rfl)
  case ka27=>kernel_rfl
  case kb27=>kernel_rfl
  case kc27=>kernel_rfl
  case kw27=>rfl
  case hy27=>(intro wq hSw;(try dsimp only at hSw);go_simp;try with_reducible rfl)
  try simp only [Act.put,List.setIfInBounds_toArray,List.set_cons_zero,List.set_cons_succ]
  refine wpAnyH_take (i:=5) (oi:=?oi28) (v:=?v28) ?ho28 ?ka28 ?kb28 ?kc28 (fun _ _ _ h=>h) (Or.inl ⟨?kw28,?hy28⟩) (by assumption) ?rest28
  case ho28=>(simp only [List.getElem?_toArray,List.getElem?_cons_zero,List.getElem?_cons_succ];rfl)
  case ka28=>kernel_rfl
  case kb28=>kernel_rfl
  case kc28=>kernel_rfl
  case kw28=>rfl
  case hy28=>(intro wq hSw;(try dsimp only at hSw);go_simp;try with_reducible rfl)
  try simp only [Act.put,List.setIfInBounds_toArray,List.set_cons_zero,List.set_cons_succ]
  refine wpAnyH_take (i:=6) (oi:=?oi29) (v:=?v29) ?ho29 ?ka29 ?kb29 ?kc29 (fun _ _ _ h=>h) (Or.inl ⟨?kw29,?hy29⟩) (by assumption) ?rest29
  case ho29=>(simp only [List.getElem?_toArray,List.getElem?_cons_zero,List.getElem?_cons_succ];rfl)
  case ka29=>kernel_rfl
  case kb29=>kernel_rfl
  case kc29=>kernel_rfl
  case kw29=>rfl
  case hy29=>(intro wq hSw;(try dsimp only at hSw);go_simp;try with_reducible rfl)
  try simp only [Act.put,List.setIfInBounds_toArray,List.set_cons_zero,List.set_cons_succ]
  refine wpAnyH_take (i:=7) (oi:=?oi30) (v:=?v30) ?ho30 ?ka30 ?kb30 ?kc30 (fun _ _ _ h=>h) (Or.inl ⟨?kw30,?hy30⟩) (by assumption) ?rest30
  case ho30=>(simp only [List.getElem?_toArray,List.getElem?_cons_zero,List.getElem?_cons_succ];rfl)
  case ka30=>kernel_rfl
  case kb30=>kernel_rfl
  case kc30=>kernel_rfl
  case kw30=>rfl
  case hy30=>(intro wq hSw;(try dsimp only at hSw);go_simp;try with_reducible rfl)
  try simp only [Act.put,List.setIfInBounds_toArray,List.set_cons_zero,List.set_cons_succ]
  refine wpAnyH_take (i:=8) (oi:=?oi31) (v:=?v31) ?ho31 ?ka31 ?kb31 ?kc31 (fun _ _ _ h=>h) (Or.inl ⟨?kw31,?hy31⟩) (by assumption) ?rest31
  case ho31=>(simp only [List.getElem?_toArray,List.getElem?_cons_zero,List.getElem?_cons_succ];rfl)
  case ka31=>kernel_rfl
  case kb31=>kernel_rfl
  case kc31=>kernel_rfl
  case kw31=>rfl
  case hy31=>(intro wq hSw;(try dsimp only at hSw);go_simp;try with_reducible rfl)
  try simp only [Act.put,List.setIfInBounds_toArray,List.set_cons_zero,List.set_cons_succ]
  refine wpAnyH_take (i:=9) (oi:=?oi32) (v:=?v32) ?ho32 ?ka32 ?kb32 ?kc32 (fun _ _ _ h=>h) (Or.inl ⟨?kw32,?hy32⟩) (by assumption) ?rest32
  case ho32=>(simp only [List.getElem?_toArray,List.getElem?_cons_zero,List.getElem?_cons_succ];rfl)
  case ka32=>kernel_rfl
  case kb32=>kernel_rfl
  case kc32=>kernel_rfl
  case kw32=>rfl
  case hy32=>(intro wq hSw;(try dsimp only at hSw);go_simp;try with_reducible rfl)
  try simp only [Act.put,List.setIfInBounds_toArray,List.set_cons_zero,List.set_cons_succ]
  refine wpAnyH_ready (rs:=[10]) (by kernel_rfl) (by simp) ?_
  refine AllReadyH.cons (o:=?oi33) ?ho33 (fun K hK=>?st33) AllReadyH.nil
  case ho33=>(simp only [List.getElem?_toArray,List.getElem?_cons_zero,List.getElem?_cons_succ];rfl)
  go_simp
  refine (HL.out _ HX0.out).mono ?_
  rintro e w3 ⟨rfl,hb1⟩
  have HX3:Hid (Below w0.heap.size w0 w3):=hid (thenB_ HX0.out hb1)
  clear hb1
  go_wp2_with fail
  refine hK.out _ _ (HS.out _ HX3.out) (fun hHeld=>?_)
  clear hK K
  try simp only [Act.put,List.setIfInBounds_toArray,List.set_cons_zero,List.set_cons_succ]
  refine wpAnyH_take (i:=11) (oi:=?oi34) (v:=?v34) ?ho34 ?ka34 ?kb34 ?kc34 (fun _ _ _ h=>h) (Or.inl ⟨?kw34,?hy34⟩) (by assumption) ?rest34
  case ho34=>(simp only [List.getElem?_toArray,List.getElem?_cons_zero,List.getElem?_cons_succ];rfl)
  case ka34=>kernel_rfl
  case kb34=>kernel_rfl
  case kc34=>kernel_rfl
  case kw34=>rfl
  case hy34=>(intro wq hSw;(try dsimp only at hSw);go_simp;try with_reducible rfl)
  try simp only [Act.put,List.setIfInBounds_toArray,List.set_cons_zero,List.set_cons_succ]
  refine wpAnyH_take (i:=12) (oi:=?oi35) (v:=?v35) ?ho35 ?ka35 ?kb35 ?kc35 (fun _ _ _ h=>h) (Or.inl ⟨?kw35,?hy35⟩) (by assumption) ?rest35
  case ho35=>(simp only [List.getElem?_toArray,List.getElem?_cons_zero,List.getElem?_cons_succ];rfl)
  case ka35=>kernel_rfl
  case kb35=>kernel_rfl
  case kc35=>kernel_rfl
  case kw35=>rfl
  case hy35=>(intro wq hSw;(try dsimp only at hSw);go_simp;try with_reducible rfl)
  try simp only [Act.put,List.setIfInBounds_toArray,List.set_cons_zero,List.set_cons_succ]
  refine wpAnyH_take (i:=13) (oi:=?oi36) (v:=?v36) ?ho36 ?ka36 ?kb36 ?kc36 (fun _ _ _ h=>h) (Or.inl ⟨?kw36,?hy36⟩) (by assumption) ?rest36
  case ho36=>(simp only [List.getElem?_toArray,List.getElem?_cons_zero,List.getElem?_cons_succ];rfl)
  case ka36=>kernel_rfl
  case kb36=>kernel_rfl
  case kc36=>kernel_rfl
  case kw36=>rfl
  case hy36=>(intro wq hSw;(try dsimp only at hSw);go_simp;try with_reducible rfl)
  try simp only [Act.put,List.setIfInBounds_toArray,List.set_cons_zero,List.set_cons_succ]
  refine wpAnyH_take (i:=14) (oi:=?oi37) (v:=undef) ?ho37 ?ka37 ?kb37 ?kc37 (fun _ _ _ h=>h) (Or.inr ⟨?kw37,rfl⟩) (by assumption) ?rest37
  case ho37=>(simp only [List.getElem?_toArray,List.getElem?_cons_zero,List.getElem?_cons_succ];rfl)
  case ka37=>kernel_rfl
  case kb37=>kernel_rfl
  case kc37=>kernel_rfl
  case kw37=>rfl
  try simp only [Act.put,List.setIfInBounds_toArray,List.set_cons_zero,List.set_cons_succ]
  refine wpAnyH_take (i:=15) (oi:=?oi38) (v:=undef) ?ho38 ?ka38 ?kb38 ?kc38 (fun _ _ _ h=>h) (Or.inr ⟨?kw38,rfl⟩) (by assumption) ?rest38
  case ho38=>(simp only [List.getElem?_toArray,List.getElem?_cons_zero,List.getElem?_cons_succ];rfl)
  case ka38=>kernel_rfl
  case kb38=>kernel_rfl
  case kc38=>kernel_rfl
  case kw38=>rfl
  try simp only [Act.put,List.setIfInBounds_toArray,List.set_cons_zero,List.set_cons_succ]
  refine wpAnyH_take (i:=16) (oi:=?oi39) (v:=undef) ?ho39 ?ka39 ?kb39 ?kc39 (fun _ _ _ h=>h) (Or.inr ⟨?kw39,rfl⟩) (by assumption) ?rest39
  case ho39=>(simp only [List.getElem?_toArray,List.getElem?_cons_zero,List.getElem?_cons_succ];rfl)
  case ka39=>kernel_rfl
  case kb39=>kernel_rfl
  case kc39=>kernel_rfl
  case kw39=>rfl
  try simp only [Act.put,List.setIfInBounds_toArray,List.set_cons_zero,List.set_cons_succ]
  refine wpAnyH_take (i:=17) (oi:=?oi40) (v:=undef) ?ho40 ?ka40 ?kb40 ?kc40 (fun _ _ _ h=>h) (Or.inr ⟨?kw40,rfl⟩) (by assumption) ?rest40
  case ho40=>(simp only [List.getElem?_toArray,List.getElem?_cons_zero,List.getElem?_cons_succ];rfl)
  case ka40=>kernel_rfl
  case kb40=>kernel_rfl
  case kc40=>kernel_rfl
  case kw40=>rfl
  try simp only [Act.put,List.setIfInBounds_toArray,List.set_cons_zero,List.set_cons_succ]
  refine wpAnyH_take (i:=18) (oi:=?oi41) (v:=undef) ?ho41 ?ka41 ?kb41 ?kc41 (fun _ _ _ h=>h) (Or.inr ⟨?kw41,rfl⟩) (by assumption) ?rest41
  case ho41=>(simp only [List.getElem?_toArray,List.getElem?_cons_zero,List.getElem?_cons_succ];rfl)
  case ka41=>kernel_rfl
  case kb41=>kernel_rfl
  case kc41=>kernel_rfl
  case kw41=>rfl
  try simp only [Act.put,List.setIfInBounds_toArray,List.set_cons_zero,List.set_cons_succ]
  refine wpAnyH_take (i:=19) (oi:=?oi42) (v:=undef) ?ho42 ?ka42 ?kb42 ?kc42 (fun _ _ _ h=>h) (Or.inr ⟨?kw42,rfl⟩) (by assumption) ?rest42
  case ho42=>(simp only [List.getElem?_toArray,List.getElem?_cons_zero,List.getElem?_cons_succ];rfl)
  case ka42=>kernel_rfl
  case kb42=>kernel_rfl
  case kc42=>kernel_rfl
  case kw42=>rfl
  try simp only [Act.put,List.setIfInBounds_toArray,List.set_cons_zero,List.set_cons_succ]
  refine wpAnyH_take (i:=20) (oi:=?oi43) (v:=?v43) ?ho43 ?ka43 ?kb43 ?kc43 (fun _ _ _ h=>h) (Or.inl ⟨?kw43,?hy43⟩) (by assumption) ?rest43
  case ho43=>(simp only [List.getElem?_toArray,List.getElem?_cons_zero,List.getElem?_cons_succ];rfl)
  case ka43=>kernel_rfl
  case kb43=>kernel_rfl
  case kc43=>kernel_rfl
  case kw43=>rfl
  case hy43=>(intro wq hSw;(try dsimp only at hSw);go_simp;try with_reducible rfl)
  try simp only [Act.put,List.setIfInBounds_toArray,List.set_cons_zero,List.set_cons_succ]
  refine wpAnyH_take (i:=21) (oi:=?oi44) (v:=?v44) ?ho44 ?ka44 ?kb44 ?kc44 (fun _ _ _ h=>h) (Or.inl ⟨?kw44,?hy44⟩) (by assumption) ?rest44
  case ho44=>(simp only [List.getElem?_toArray,List.getElem?_cons_zero,List.getElem?_cons_succ];rfl)
  case ka44=>kernel_rfl
  case kb44=>kernel_rfl
  case kc44=>kernel_rfl
  case kw44=>rfl
  case hy44=>(intro wq hSw;(try dsimp only at hSw);go_simp;try with_reducible rfl)
  try simp only [Act.put,List.setIfInBounds_toArray,List.set_cons_zero,List.set_cons_succ]
  refine wpAnyH_done (by kernel_rfl) ?_ _
  refine NoPanic.normal ?_
  go_wp2
  go_ret
  exact ⟨ret_bool HE.out.symm,HB0.out.trans (HX3.out.mono HB0.out.size)⟩
 .have t1:=beq_yes (s:=str r.callid) (t:=str d.callid) (by rw [h1])
  have t2:=beq_yes (s:=str r.ttag) (t:=str (tagA d.loc)) (by rw [h2])
  have t3:=beq_no (s:=str r.ftag) (t:=str (tagA d.rem)) (fun q=>h3 (str_inj q))
  have HE:=hid hR
  clear h1 h2 h3 hR
  refine wp_region_noPanic ?_
  refine wp_region_held_drew (S:=fun W=>W.cell? ⟨w.heap.size,0,none⟩=some (.string (str d.callid))/\W.cell? ⟨w.heap.size,1,none⟩=some (.string (str d.loc.display))/\W.cell? ⟨w.heap.size,2,none⟩=some (.string (str d.loc.uri.scheme))/\W.cell? ⟨w.heap.size,3,none⟩=some (.string (str d.loc.uri.user))/\W.cell? ⟨w.heap.size,4,none⟩=some (.string (str d.loc.uri.host))/\W.cell? ⟨w.heap.size,5,none⟩=some (.int .i64 d.loc.uri.port)/\W.cell? ⟨w.heap.size,6,none⟩=some (v.lp)/\W.cell? ⟨w.heap.size,7,none⟩=some (v.lh)/\W.cell? ⟨w.heap.size,8,none⟩=some (v.la)/\W.cell? ⟨w.heap.size,9,none⟩=some (.string (str d.rem.display))/\W.cell? ⟨w.heap.size,10,none⟩=some (.string (str d.rem.uri.scheme))/\W.cell? ⟨w.heap.size,11,none⟩=some (.string (str d.rem.uri.user))/\W.cell? ⟨w.heap.size,12,none⟩=some (.string (str d.rem.uri.host))/\W.cell? ⟨w.heap.size,13,none⟩=some (.int .i64 d.rem.uri.port)/\W.cell? ⟨w.heap.size,14,none⟩=some (v.rp)/\W.cell? ⟨w.heap.size,15,none⟩=some (v.rh)/\W.cell? ⟨w.heap.size,16,none⟩=some (v.ra)/\W.cell? ⟨w.heap.size+1,25,none⟩=some (.string (str r.ftag))/\W.cell? ⟨w.heap.size+1,26,none⟩=some (.string (str r.ttag))/\W.cell? ⟨w.heap.size+1,27,none⟩=some (.string (str r.callid))) (by kernel_rfl) (HS.out _ HX0.out) (fun hHeld=>?_)
  refine wpAnyH_take (i:=0) (oi:=?oi45) (v:=?v45) ?ho45 ?ka45 ?kb45 ?kc45 (fun _ _ _ h=>h) (Or.inl ⟨?kw45,?hy45⟩) (by assumption) ?rest45
  case ho45=>(simp only [List.getElem?_toArray,List.getElem?_cons_zero,List.getElem?_cons_succ];rfl)
  case ka45=>kernel_rfl
  case kb45=>kernel_rfl
  case kc45=>kernel_rfl
  case kw45=>rfl
  case hy45=>(intro wq hSw;(try dsimp only at hSw);go_simp;try with_reducible rfl)
  try simp only [Act.put,List.setIfInBounds_toArray,List.set_cons_zero,List.set_cons_succ]
  refine wpAnyH_take (i:=1) (oi:=?oi46) (v:=?v46) ?ho46 ?ka46 ?kb46 ?kc46 (fun _ _ _ h=>h) (Or.inl ⟨?kw46,?hy46⟩) (by assumption) ?rest46
  case ho46=>(simp only [List.getElem?_toArray,List.getElem?_cons_zero,List.getElem?_cons_succ];rfl)
  case ka46=>kernel_rfl
  case kb46=>kernel_rfl
  case kc46=>kernel_rfl
  case kw46=>rfl
  case hy46=>(intro wq hSw;(try dsimp only at hSw);go_simp;try with_reducible rfl)
  try simp only [Act.put,List.setIfInBounds_toArray,List.set_cons_zero,List.set_cons_succ]
  refine wpAnyH_take (i:=2) (oi:=?oi47) (v:=?v47) ?ho47 ?ka47 ?kb47 ?kc47 (fun _ _ _ h=>h) (Or.inl ⟨?kw47,?hy47⟩) (by assumption) ?rest47
  case ho47=>(simp only [List.getElem?_toArray,List.getElem?_cons_zero,List.getElem?_cons_succ];rfl)
  case ka47=>kernel_rfl
  case kb47=>kernel_rfl
  case kc47=>kernel_rfl
  case kw47=>rfl
  case hy47=>(intro wq hSw;(try dsimp only at hSw);go_simp;try with_reducible rfl)
  try simp only [Act.put,List.setIfInBounds_toArray,List.set_cons_zero,List.set_cons_succ]
  refine wpAnyH_take (i:=3) (oi:=?oi48) (v:=?v48) ?ho48 ?ka48 ?kb48 ?kc48 (fun _ _ _ h=>h) (Or.inl ⟨?kw48,?hy48⟩) (by assumption) ?rest48
  case ho48=>(simp only [List.getElem?_toArray,List.getElem?_cons_zero,List.getElem?_cons_succ];rfl)
  case ka48=>kernel_rfl
  case kb48=>kernel_rfl
  case kc48=>kernel_rfl
  case kw48=>rfl
  case hy48=>(intro wq hSw;(try dsimp only at hSw);go_simp;try with_reducible rfl)
  try simp only [Act.put,List.setIfInBounds_toArray,List.set_cons_zero,List.set_cons_succ]
  refine wpAnyH_take (i:=4) (oi:=?oi49) (v:=?v49) ?ho49 ?ka49 ?kb49 ?kc49 (fun _ _ _ h=>h) (Or.inl ⟨?kw49,?hy49⟩) (by assumption) ?rest49
  case ho49=>(simp only [List.getElem?_toArray,List.getElem?_cons_zero,List.getElem?_cons_succ];rfl)
  case ka49=>kernel_rfl
  case kb49=>kernel_rfl
  case kc49=>kernel_rfl
  case kw49=>rfl
  case hy49=>(intro wq hSw;(try dsimp only at hSw);go_simp;try with_reducible rfl)
  try simp only [Act.put,List.setIfInBounds_toArray,List.set_cons_zero,List.set_cons_succ]
  refine wpAnyH_take (i:=5) (oi:=?oi50) (v:=?v50) ?ho50 ?ka50 ?kb50 ?kc50 (fun _ _ _ h=>h) (Or.inl ⟨?kw50,?hy50⟩) (by assumption) ?rest50
  case ho50=>(simp only [List.getElem?_toArray,List.getElem?_cons_zero,List.getElem?_cons_succ];rfl)
  case ka50=>kernel_rfl
  case kb50=>kernel_rfl
  case kc50=>kernel_rfl
  case kw50=>rfl
  case hy50=>(intro wq hSw;(try dsimp only at hSw);go_simp;try with_reducible rfl)
  try simp only [Act.put,List.setIfInBounds_toArray,List.set_cons_zero,List.set_cons_succ]
  refine wpAnyH_take (i:=6) (oi:=?oi51) (v:=?v51) ?ho51 ?ka51 ?kb51 ?kc51 (fun _ _ _ h=>h) (Or.inl ⟨?kw51,?hy51⟩) (by assumption) ?rest51
  case ho51=>(simp only [List.getElem?_toArray,List.getElem?_cons_zero,List.getElem?_cons_succ];rfl)
  case ka51=>kernel_rfl
  case kb51=>kernel_rfl
  case kc51=>kernel_rfl
  case kw51=>rfl
  case hy51=>(intro wq hSw;(try dsimp only at hSw);go_simp;try with_reducible rfl)
  try simp only [Act.put,List.setIfInBounds_toArray,List.set_cons_zero,List.set_cons_succ]
  refine wpAnyH_take (i:=7) (oi:=?oi52) (v:=?v52) ?ho52 ?ka52 ?kb52 ?kc52 (fun _ _ _ h=>h) (Or.inl ⟨?kw52,?hy52⟩) (by assumption) ?rest52
  case ho52=>(simp only [List.getElem?_toArray,List.getElem?_cons_zero,List.getElem?_cons_succ];rfl)
  case ka52=>kernel_rfl
  case kb52=>kernel_rfl
  case kc52=>kernel_rfl
  case kw52=>rfl
  case hy52=>(intro wq hSw;(try dsimp only at hSw);go_simp;try with_reducible rfl)
  try simp only [Act.put,List.setIfInBounds_toArray,List.set_cons_zero,List.set_cons_succ]
  refine wpAnyH_take (i:=8) (oi:=?oi53) (v:=?v53) ?ho53 ?ka53 ?kb53 ?kc53 (fun _ _ _ h=>h) (Or.inl ⟨?kw53,?hy53⟩) (by assumption) ?rest53
  case ho53=>(simp only [List.getElem?_toArray,List.getElem?_cons_zero,List.getElem?_cons_succ];rfl)
  case ka53=>kernel_rfl
  case kb53=>kernel_rfl
  case kc53=>kernel_rfl
  case kw53=>rfl
  case hy53=>(intro wq hSw;(try dsimp only at hSw);go_simp;try with_reducible rfl)
  try simp only [Act.put,List.setIfInBounds_toArray,List.set_cons_zero,List.set_cons_succ]
  refine wpAnyH_take (i:=9) (oi:=?oi54) (v:=?v54) ?ho54 ?ka54 ?kb54 ?kc54 (fun _ _ _ h=>h) (Or.inl ⟨?kw54,?hy54⟩) (by assumption) ?rest54
  case ho54=>(simp only [List.getElem?_toArray,List.getElem?_cons_zero,List.getElem?_cons_succ];rfl)
  case ka54=>kernel_rfl
  case kb54=>kernel_rfl
  case kc54=>kernel_rfl
  case kw54=>rfl
  case hy54=>(intro wq hSw;(try dsimp only at hSw);go_simp;try with_reducible rfl)
  try simp only [Act.put,List.setIfInBounds_toArray,List.set_cons_zero,List.set_cons_succ]
  refine wpAnyH_ready (rs:=[10]) (by kernel_rfl) (by simp) ?_
  refine AllReadyH.cons (o:=?oi55) ?ho55 (fun K hK=>?st55) AllReadyH.nil
  case ho55=>(simp only [List.getElem?_toArray,List.getElem?_cons_zero,List.getElem?_cons_succ];rfl)
  go_simp
  refine (HL.out _ HX0.out).mono ?_
  rintro e w3 ⟨rfl,hb1⟩
  have HX3:Hid (Below w0.heap.size w0 w3):=hid (thenB_ HX0.out hb1)
  clear hb1
  go_wp2_with fail
  refine hK.out _ _ (HS.out _ HX3.out) (fun hHeld=>?_)
  clear hK K
  try simp only [Act.put,List.setIfInBounds_toArray,List.set_cons_zero,List.set_cons_succ]
  refine wpAnyH_take (i:=11) (oi:=?oi56) (v:=?v56) ?ho56 ?ka56 ?kb56 ?kc56 (fun _ _ _ h=>h) (Or.inl ⟨?kw56,?hy56⟩) (by assumption) ?rest56
  case ho56=>(simp only [List.getElem?_toArray,List.getElem?_cons_zero,List.getElem?_cons_succ];rfl)
  case ka56=>kernel_rfl
  case kb56=>kernel_rfl
  case kc56=>kernel_rfl
  case kw56=>rfl
  case hy56=>(intro wq hSw;(try dsimp only at hSw);go_simp;try with_reducible rfl)
  try simp only [Act.put,List.setIfInBounds_toArray,List.set_cons_zero,List.set_cons_succ]
  refine wpAnyH_take (i:=12) (oi:=?oi57) (v:=?v57) ?ho57 ?ka57 ?kb57 ?kc57 (fun _ _ _ h=>h) (Or.inl ⟨?kw57,?hy57⟩) (by assumption) ?rest57
  case ho57=>(simp only [List.getElem?_toArray,List.getElem?_cons_zero,List.getElem?_cons_succ];rfl)
  case ka57=>kernel_rfl
  case kb57=>kernel_rfl
  case kc57=>kernel_rfl
  case kw57=>rfl
  case hy57=>(intro wq hSw;(try dsimp only at hSw);go_simp;try with_reducible rfl)
  try simp only [Act.put,List.setIfInBounds_toArray,List.set_cons_zero,List.set_cons_succ]
  refine wpAnyH_take (i:=13) (oi:=?oi58) (v:=?v58) ?ho58 ?ka58 ?kb58 ?kc58 (fun _ _ _ h=>h) (Or.inl ⟨?kw58,?hy58⟩) (by assumption) ?rest58
  case ho58=>(simp only [List.getElem?_toArray,List.getElem?_cons_zero,List.getElem?_cons_succ];rfl)
  case ka58=>kernel_rfl
  case kb58=>kernel_rfl
  case kc58=>kernel_rfl
  case kw58=>rfl
  case hy58=>(intro wq hSw;(try dsimp only at hSw);go_simp;try with_reducible rfl)
  try simp only [Act.put,List.setIfInBounds_toArray,List.set_cons_zero,List.set_cons_succ]
  refine wpAnyH_take (i:=14) (oi:=?oi59) (v:=?v59) ?ho59 ?ka59 ?kb59 ?kc59 (fun _ _ _ h=>h) (Or.inl ⟨?kw59,?hy59⟩) (by assumption) ?rest59
  case ho59=>(simp only [List.getElem?_toArray,List.getElem?_cons_zero,List.getElem?_cons_succ];rfl)
  case ka59=>kernel_rfl
  case kb59=>kernel_rfl
  case kc59=>kernel_rfl
  case kw59=>rfl
  case hy59=>(intro wq hSw;(try dsimp only at hSw);go_simp;try with_reducible rfl)
  try simp only [Act.put,List.setIfInBounds_toArray,List.set_cons_zero,List.set_cons_succ]
  refine wpAnyH_take (i:=15) (oi:=?oi60) (v:=?v60) ?ho60 ?ka60 ?kb60 ?kc60 (fun _ _ _ h=>h) (Or.inl ⟨?kw60,?hy60⟩) (by assumption) ?rest60
  case ho60=>(simp only [List.getElem?_toArray,List.getElem?_cons_zero,List.getElem?_cons_succ];rfl)
  case ka60=>kernel_rfl
  case kb60=>kernel_rfl
  case kc60=>kernel_rfl
  case kw60=>rfl
  case hy60=>(intro wq hSw;(try dsimp only at hSw);go_simp;try with_reducible rfl)
  try simp only [Act.put,List.setIfInBounds_toArray,List.set_cons_zero,List.set_cons_succ]
  refine wpAnyH_take (i:=16) (oi:=?oi61) (v:=?v61) ?ho61 ?ka61 ?kb61 ?kc61 (fun _ _ _ h=>h) (Or.inl ⟨?kw61,?hy61⟩) (by assumption) ?rest61
  case ho61=>(simp only [List.getElem?_toArray,List.getElem?_cons_zero,List.getElem?_cons_succ];rfl)
  case ka61=>kernel_rfl
  case kb61=>kernel_rfl
  case kc61=>kernel_rfl
  case kw61=>rfl
  case hy61=>(intro wq hSw;(try dsimp only at hSw);go_simp;try with_reducible rfl)
  try simp only [Act.put,List.setIfInBounds_toArray,List.set_cons_zero,List.set_cons_succ]
  refine wpAnyH_take (i:=17) (oi:=?oi62) (v:=?v62) ?ho62 ?ka62 ?kb62 ?kc62 (fun _ _ _ h=>h) (Or.inl ⟨?kw62,?hy62⟩) (by assumption) ?rest62
  case ho62=>(simp only [List.getElem?_toArray,List.getElem?_cons_zero,List.getElem?_cons_succ];rfl)
  case ka62=>kernel_rfl
  case kb62=>kernel_rfl
  case kc62=>kernel_rfl
  case kw62=>rfl
  case hy62=>(intro wq hSw;(try dsimp only at hSw);go_simp;try with_reducible rfl)
  try simp only [Act.put,List.setIfInBounds_toArray,List.set_cons_zero,List.set_cons_succ]
  refine wpAnyH_ready (rs:=[18]) (by kernel_rfl) (by simp) ?_
  refine AllReadyH.cons (o:=?oi63) ?ho63 (fun K hK=>?st63) AllReadyH.nil
  case ho63=>(simp only [List.getElem?_toArray,List.getElem?_cons_zero,List.getElem?_cons_succ];rfl)
  go_simp
  refine (HR.out _ HX3.out).mono ?_
  rintro e w4 ⟨rfl,hb1⟩
  have HX4:Hid (Below w0.heap.size w0 w4):=hid (thenB_ HX3.out hb1)
  clear hb1
  go_wp2_with fail
  refine hK.out _ _ (HS.out _ HX4.out) (fun hHeld=>?_)
  clear hK K
  try simp only [Act.put,List.setIfInBounds_toArray,List.set_cons_zero,List.set_cons_succ]
  refine wpAnyH_take (i:=19) (oi:=?oi64) (v:=?v64) ?ho64 ?ka64 ?kb64 ?kc64 (fun _ _ _ h=>h) (Or.inl ⟨?kw64,?hy64⟩) (by assumption) ?rest64
  case ho64=>(simp only [List.getElem?_toArray,List.getElem?_cons_zero,List.getElem?_cons_succ];rfl)
  case ka64=>kernel_rfl
  case kb64=>kernel_rfl
  case kc64=>kernel_rfl
  case kw64=>rfl
  case hy64=>(intro wq hSw;(try dsimp only at hSw);go_simp;try with_reducible rfl)
  try simp only [Act.put,List.setIfInBounds_toArray,List.set_cons_zero,List.set_cons_succ]
  refine wpAnyH_take (i:=20) (oi:=?oi65) (v:=?v65) ?ho65 ?ka65 ?kb65 ?kc65 (fun _ _ _ h=>h) (Or.inl ⟨?kw65,?hy65⟩) (by assumption) ?rest65
  case ho65=>(simp only [List.getElem?_toArray,List.getElem?_cons_zero,List.getElem?_cons_succ];rfl)
  case ka65=>kernel_rfl
  case kb65=>kernel_rfl
  case kc65=>kernel_rfl
  case kw65=>rfl
  case hy65=>(intro wq hSw;(try dsimp only at hSw);go_simp;try with_reducible rfl)
  try simp only [Act.put,List.setIfInBounds_toArray,List.set_cons_zero,List.set_cons_succ]
  refine wpAnyH_take (i:=21) (oi:=?oi66) (v:=?v66) ?ho66 ?ka66 ?kb66 ?kc66 (fun _ _ _ h=>h) (Or.inl ⟨?kw66,?hy66⟩) (by assumption) ?rest66
  case ho66=>(simp only [List.getElem?_toArray,List.getElem?_cons_zero,List.getElem?_cons_succ];rfl)
  case ka66=>kernel_rfl
  case kb66=>kernel_rfl
  case kc66=>kernel_rfl
  case kw66=>rfl
  case hy66=>(intro wq hSw;(try dsimp only at hSw);go_simp;try with_reducible rfl)
  try simp only [Act.put,List.setIfInBounds_toArray,List.set_cons_zero,List.set_cons_succ]
  refine wpAnyH_done (by kernel_rfl) ?_ _
  refine NoPanic.normal ?_
  go_wp2
  go_ret
  exact ⟨ret_bool HE.out.symm,HB0.out.trans (HX4.out.mono HB0.out.size)⟩
 .have t1:=beq_yes (s:=str r.callid) (t:=str d.callid) (by rw [h1])
  have t2:=beq_yes (s:=str r.ttag) (t:=str (tagA d.loc)) (by rw [h2])
  have t3:=beq_yes (s:=str r.ftag) (t:=str (tagA d.rem)) (by rw [h3])
  have HE:=hid hR
  clear h1 h2 h3 hR
  refine wp_region_noPanic ?_
  refine wp_region_held_drew (S:=fun W=>W.cell? ⟨w.heap.size,0,none⟩=some (.string (str d.callid))/\W.cell? ⟨w.heap.size,1,none⟩=some (.string (str d.loc.display))/\W.cell? ⟨w.heap.size,2,none⟩=some (.string (str d.loc.uri.scheme))/\W.cell? ⟨w.heap.size,3,none⟩=some (.string (str d.loc.uri.user))/\W.cell? ⟨w.heap.size,4,none⟩=some (.string (str d.loc.uri.host))/\W.cell? ⟨w.heap.size,5,none⟩=some (.int .i64 d.loc.uri.port)/\W.cell? ⟨w.heap.size,6,none⟩=some (v.lp)/\W.cell? ⟨w.heap.size,7,none⟩=some (v.lh)/\W.cell? ⟨w.heap.size,8,none⟩=some (v.la)/\W.cell? ⟨w.heap.size,9,none⟩=some (.string (str d.rem.display))/\W.cell? ⟨w.heap.size,10,none⟩=some (.string (str d.rem.uri.scheme))/\W.cell? ⟨w.heap.size,11,none⟩=some (.string (str d.rem.uri.user))/\W.cell? ⟨w.heap.size,12,none⟩=some (.string (str d.rem.uri.host))/\W.cell? ⟨w.heap.size,13,none⟩=some (.int .i64 d.rem.uri.port)/\W.cell? ⟨w.heap.size,14,none⟩=some (v.rp)/\W.cell? ⟨w.heap.size,15,none⟩=some (v.rh)/\W.cell? ⟨w.heap.size,16,none⟩=some (v.ra)/\W.cell? ⟨w.heap.size+1,25,none⟩=some (.string (str r.ftag))/\W.cell? ⟨w.heap.size+1,26,none⟩=some (.string (str r.ttag))/\W.cell? ⟨w.heap.size+1,27,none⟩=some (.string (str r.callid))) (by kernel_rfl) (HS.out _ HX0.out) (fun hHeld=>?_)
  refine wpAnyH_take (i:=0) (oi:=?oi67) (v:=?v67) ?ho67 ?ka67 ?kb67 ?kc67 (fun _ _ _ h=>h) (Or.inl ⟨?kw67,?hy67⟩) (by assumption) ?rest67
  case ho67=>(simp only [List.getElem?_toArray,List.getElem?_cons_zero,List.getElem?_cons_succ];rfl)
  case ka67=>kernel_rfl
  case kb67=>kernel_rfl
  case kc67=>kernel_rfl
  case kw67=>rfl
  case hy67=>(intro wq hSw;(try dsimp only at hSw);go_simp;try with_reducible rfl)
  try simp only [Act.put,List.setIfInBounds_toArray,List.set_cons_zero,List.set_cons_succ]
  refine wpAnyH_take (i:=1) (oi:=?oi68) (v:=?v68) ?ho68 ?ka68 ?kb68 ?kc68 (fun _ _ _ h=>h) (Or.inl ⟨?kw68,?hy68⟩) (by assumption) ?rest68
  case ho68=>(simp only [List.getElem?_toArray,List.getElem?_cons_zero,List.getElem?_cons_succ];rfl)
  case ka68=>kernel_rfl
  case kb68=>kernel_rfl
  case kc68=>kernel_rfl
  case kw68=>rfl
  case hy68=>(intro wq hSw;(try dsimp only at hSw);go_simp;try with_reducible rfl)
  try simp only [Act.put,List.setIfInBounds_toArray,List.set_cons_zero,List.set_cons_succ]
  refine wpAnyH_take (i:=2) (oi:=?oi69) (v:=?v69) ?ho69 ?ka69 ?kb69 ?kc69 (fun _ _ _ h=>h) (Or.inl ⟨?kw69,?hy69⟩) (by assumption) ?rest69
  case ho69=>(simp only [List.getElem?_toArray,List.getElem?_cons_zero,List.getElem?_cons_succ];rfl)
  case ka69=>kernel_rfl
  case kb69=>kernel_rfl
  case kc69=>kernel_rfl
  case kw69=>rfl
  case hy69=>(intro wq hSw;(try dsimp only at hSw);go_simp;try with_reducible rfl)
  try simp only [Act.put,List.setIfInBounds_toArray,List.set_cons_zero,List.set_cons_succ]
  refine wpAnyH_take (i:=3) (oi:=?oi70) (v:=?v70) ?ho70 ?ka70 ?kb70 ?kc70 (fun _ _ _ h=>h) (Or.inl ⟨?kw70,?hy70⟩) (by assumption) ?rest70
  case ho70=>(simp only [List.getElem?_toArray,List.getElem?_cons_zero,List.getElem?_cons_succ];rfl)
  case ka70=>kernel_rfl
  case kb70=>kernel_rfl
  case kc70=>kernel_rfl
  case kw70=>rfl
  case hy70=>(intro wq hSw;(try dsimp only at hSw);go_simp;try with_reducible rfl)
  try simp only [Act.put,List.setIfInBounds_toArray,List.set_cons_zero,List.set_cons_succ]
  refine wpAnyH_take (i:=4) (oi:=?oi71) (v:=?v71) ?ho71 ?ka71 ?kb71 ?kc71 (fun _ _ _ h=>h) (Or.inl ⟨?kw71,?hy71⟩) (by assumption) ?rest71
  case ho71=>(simp only [List.getElem?_toArray,List.getElem?_cons_zero,List.getElem?_cons_succ];rfl)
  case ka71=>kernel_rfl
  case kb71=>kernel_rfl
  case kc71=>kernel_rfl
  case kw71=>rfl
  case hy71=>(intro wq hSw;(try dsimp only at hSw);go_simp;try with_reducible rfl)
  try simp only [Act.put,List.setIfInBounds_toArray,List.set_cons_zero,List.set_cons_succ]
  refine wpAnyH_take (i:=5) (oi:=?oi72) (v:=?v72) ?ho72 ?ka72 ?kb72 ?kc72 (fun _ _ _ h=>h) (Or.inl ⟨?kw72,?hy72⟩) (by assumption) ?rest72
  case ho72=>(simp only [List.getElem?_toArray,List.getElem?_cons_zero,List.getElem?_cons_succ];rfl)
  case ka72=>kernel_rfl
  case kb72=>kernel_rfl
  case kc72=>kernel_rfl
  case kw72=>rfl
  case hy72=>(intro wq hSw;(try dsimp only at hSw);go_simp;try with_reducible rfl)
  try simp only [Act.put,List.setIfInBounds_toArray,List.set_cons_zero,List.set_cons_succ]
  refine wpAnyH_take (i:=6) (oi:=?oi73) (v:=?v73) ?ho73 ?ka73 ?kb73 ?kc73 (fun _ _ _ h=>h) (Or.inl ⟨?kw73,?hy73⟩) (by assumption) ?rest73
  case ho73=>(simp only [List.getElem?_toArray,List.getElem?_cons_zero,List.getElem?_cons_succ];rfl)
  case ka73=>kernel_rfl
  case kb73=>kernel_rfl
  case kc73=>kernel_rfl
  case kw73=>rfl
  case hy73=>(intro wq hSw;(try dsimp only at hSw);go_simp;try with_reducible rfl)
  try simp only [Act.put,List.setIfInBounds_toArray,List.set_cons_zero,List.set_cons_succ]
  refine wpAnyH_take (i:=7) (oi:=?oi74) (v:=?v74) ?ho74 ?ka74 ?kb74 ?kc74 (fun _ _ _ h=>h) (Or.inl ⟨?kw74,?hy74⟩) (by assumption) ?rest74
  case ho74=>(simp only [List.getElem?_toArray,List.getElem?_cons_zero,List.getElem?_cons_succ];rfl)
  case ka74=>kernel_rfl
  case kb74=>kernel_rfl
  case kc74=>kernel_rfl
  case kw74=>rfl
  case hy74=>(intro wq hSw;(try dsimp only at hSw);go_simp;try with_reducible rfl)
  try simp only [Act.put,List.setIfInBounds_toArray,List.set_cons_zero,List.set_cons_succ]
  refine wpAnyH_take (i:=8) (oi:=?oi75) (v:=?v75) ?ho75 ?ka75 ?kb75 ?kc75 (fun _ _ _ h=>h) (Or.inl ⟨?kw75,?hy75⟩) (by assumption) ?rest75
  case ho75=>(simp only [List.getElem?_toArray,List.getElem?_cons_zero,List.getElem?_cons_succ];rfl)
  case ka75=>kernel_rfl
  case kb75=>kernel_rfl
  case kc75=>kernel_rfl
  case kw75=>rfl
  case hy75=>(intro wq hSw;(try dsimp only at hSw);go_simp;try with_reducible rfl)
  try simp only [Act.put,List.setIfInBounds_toArray,List.set_cons_zero,List.set_cons_succ]
  refine wpAnyH_take (i:=9) (oi:=?oi76) (v:=?v76) ?ho76 ?ka76 ?kb76 ?kc76 (fun _ _ _ h=>h) (Or.inl ⟨?kw76,?hy76⟩) (by assumption) ?rest76
  case ho76=>(simp only [List.getElem?_toArray,List.getElem?_cons_zero,List.getElem?_cons_succ];rfl)
  case ka76=>kernel_rfl
  case kb76=>kernel_rfl
  case kc76=>kernel_rfl
  case kw76=>rfl
  case hy76=>(intro wq hSw;(try dsimp only at hSw);go_simp;try with_reducible rfl)
  try simp only [Act.put,List.setIfInBounds_toArray,List.set_cons_zero,List.set_cons_succ]
  refine wpAnyH_ready (rs:=[10]) (by kernel_rfl) (by simp) ?_
  refine AllReadyH.cons (o:=?oi77) ?ho77 (fun K hK=>?st77) AllReadyH.nil
  case ho77=>(simp only [List.getElem?_toArray,List.getElem?_cons_zero,List.getElem?_cons_succ];rfl)
  go_simp
  refine (HL.out _ HX0.out).mono ?_
  rintro e w3 ⟨rfl,hb1⟩
  have HX3:Hid (Below w0.heap.size w0 w3):=hid (thenB_ HX0.out hb1)
  clear hb1
  go_wp2_with fail
  refine hK.out _ _ (HS.out _ HX3.out) (fun hHeld=>?_)
  clear hK K
  try simp only [Act.put,List.setIfInBounds_toArray,List.set_cons_zero,List.set_cons_succ]
  refine wpAnyH_take (i:=11) (oi:=?oi78) (v:=?v78) ?ho78 ?ka78 ?kb78 ?kc78 (fun _ _ _ h=>h) (Or.inl ⟨?kw78,?hy78⟩) (by assumption) ?rest78
  case ho78=>(simp only [List.getElem?_toArray,List.getElem?_cons_zero,List.getElem?_cons_succ];rfl)
  case ka78=>kernel_rfl
  case kb78=>kernel_rfl
  case kc78=>kernel_rfl
  case kw78=>rfl
  case hy78=>(intro wq hSw;(try dsimp only at hSw);go_simp;try with_reducible rfl)
  try simp only [Act.put,List.setIfInBounds_toArray,List.set_cons_zero,List.set_cons_succ]
  refine wpAnyH_take (i:=12) (oi:=?oi79) (v:=?v79) ?ho79 ?ka79 ?kb79 ?kc79 (fun _ _ _ h=>h) (Or.inl ⟨?kw79,?hy79⟩) (by assumption) ?rest79
  case ho79=>(simp only [List.getElem?_toArray,List.getElem?_cons_zero,List.getElem?_cons_succ];rfl)
  case ka79=>kernel_rfl
  case kb79=>kernel_rfl
  case kc79=>kernel_rfl
  case kw79=>rfl
  case hy79=>(intro wq hSw;(try dsimp only at hSw);go_simp;try with_reducible rfl)
  try simp only [Act.put,List.setIfInBounds_toArray,List.set_cons_zero,List.set_cons_succ]
  refine wpAnyH_take (i:=13) (oi:=?oi80) (v:=?v80) ?ho80 ?ka80 ?kb80 ?kc80 (fun _ _ _ h=>h) (Or.inl ⟨?kw80,?hy80⟩) (by assumption) ?rest80
  case ho80=>(simp only [List.getElem?_toArray,List.getElem?_cons_zero,List.getElem?_cons_succ];rfl)
  case ka80=>kernel_rfl
  case kb80=>kernel_rfl
  case kc80=>kernel_rfl
  case kw80=>rfl
  case hy80=>(intro wq hSw;(try dsimp only at hSw);go_simp;try with_reducible rfl)
  try simp only [Act.put,List.setIfInBounds_toArray,List.set_cons_zero,List.set_cons_succ]
  refine wpAnyH_take (i:=14) (oi:=?oi81) (v:=?v81) ?ho81 ?ka81 ?kb81 ?kc81 (fun _ _ _ h=>h) (Or.inl ⟨?kw81,?hy81⟩) (by assumption) ?rest81
  case ho81=>(simp only [List.getElem?_toArray,List.getElem?_cons_zero,List.getElem?_cons_succ];rfl)
  case ka81=>kernel_rfl
  case kb81=>kernel_rfl
  case kc81=>kernel_rfl
  case kw81=>rfl
  case hy81=>(intro wq hSw;(try dsimp only at hSw);go_simp;try with_reducible rfl)
  try simp only [Act.put,List.setIfInBounds_toArray,List.set_cons_zero,List.set_cons_succ]
  refine wpAnyH_take (i:=15) (oi:=?oi82) (v:=?v82) ?ho82 ?ka82 ?kb82 ?kc82 (fun _ _ _ h=>h) (Or.inl ⟨?kw82,?hy82⟩) (by assumption) ?rest82
  case ho82=>(simp only [List.getElem?_toArray,List.getElem?_cons_zero,List.getElem?_cons_succ];rfl)
  case ka82=>kernel_rfl
  case kb82=>kernel_rfl
  case kc82=>kernel_rfl
  case kw82=>rfl
  case hy82=>(intro wq hSw;(try dsimp only at hSw);go_simp;try with_reducible rfl)
  try simp only [Act.put,List.setIfInBounds_toArray,List.set_cons_zero,List.set_cons_succ]
  refine wpAnyH_take (i:=16) (oi:=?oi83) (v:=?v83) ?ho83 ?ka83 ?kb83 ?kc83 (fun _ _ _ h=>h) (Or.inl ⟨?kw83,?hy83⟩) (by assumption) ?rest83
  case ho83=>(simp only [List.getElem?_toArray,List.getElem?_cons_zero,List.getElem?_cons_succ];rfl)
  case ka83=>kernel_rfl
  case kb83=>kernel_rfl
  case kc83=>kernel_rfl
  case kw83=>rfl
  case hy83=>(intro wq hSw;(try dsimp only at hSw);go_simp;try with_reducible rfl)
  try simp only [Act.put,List.setIfInBounds_toArray,List.set_cons_zero,List.set_cons_succ]
  refine wpAnyH_take (i:=17) (oi:=?oi84) (v:=?v84) ?ho84 ?ka84 ?kb84 ?kc84 (fun _ _ _ h=>h) (Or.inl ⟨?kw84,?hy84⟩) (by assumption) ?rest84
  case ho84=>(simp only [List.getElem?_toArray,List.getElem?_cons_zero,List.getElem?_cons_succ];rfl)
  case ka84=>kernel_rfl
  case kb84=>kernel_rfl
  case kc84=>kernel_rfl
  case kw84=>rfl
  case hy84=>(intro wq hSw;(try dsimp only at hSw);go_simp;try with_reducible rfl)
  try simp only [Act.put,List.setIfInBounds_toArray,List.set_cons_zero,List.set_cons_succ]
  refine wpAnyH_ready (rs:=[18]) (by kernel_rfl) (by simp) ?_
  refine AllReadyH.cons (o:=?oi85) ?ho85 (fun K hK=>?st85) AllReadyH.nil
  case ho85=>(simp only [List.getElem?_toArray,List.getElem?_cons_zero,List.getElem?_cons_succ];rfl)
  go_simp
  refine (HR.out _ HX3.out).mono ?_
  rintro e w4 ⟨rfl,hb1⟩
  have HX4:Hid (Below w0.heap.size w0 w4):=hid (thenB_ HX3.out hb1)
  clear hb1
  go_wp2_with fail
  refine hK.out _ _ (HS.out _ HX4.out) (fun hHeld=>?_)
  clear hK K
  try simp only [Act.put,List.setIfInBounds_toArray,List.set_cons_zero,List.set_cons_succ]
  refine wpAnyH_take (i:=19) (oi:=?oi86) (v:=?v86) ?ho86 ?ka86 ?kb86 ?kc86 (fun _ _ _ h=>h) (Or.inl ⟨?kw86,?hy86⟩) (by assumption) ?rest86
  case ho86=>(simp only [List.getElem?_toArray,List.getElem?_cons_zero,List.getElem?_cons_succ];rfl)
  case ka86=>kernel_rfl
  case kb86=>kernel_rfl
  case kc86=>kernel_rfl
  case kw86=>rfl
  case hy86=>(intro wq hSw;(try dsimp only at hSw);go_simp;try with_reducible rfl)
  try simp only [Act.put,List.setIfInBounds_toArray,List.set_cons_zero,List.set_cons_succ]
  refine wpAnyH_take (i:=20) (oi:=?oi87) (v:=?v87) ?ho87 ?ka87 ?kb87 ?kc87 (fun _ _ _ h=>h) (Or.inl ⟨?kw87,?hy87⟩) (by assumption) ?rest87
  case ho87=>(simp only [List.getElem?_toArray,List.getElem?_cons_zero,List.getElem?_cons_succ];rfl)
  case ka87=>kernel_rfl
  case kb87=>kernel_rfl
  case kc87=>kernel_rfl
  case kw87=>rfl
  case hy87=>(intro wq hSw;(try dsimp only at hSw);go_simp;try with_reducible rfl)
  try simp only [Act.put,List.setIfInBounds_toArray,List.set_cons_zero,List.set_cons_succ]
  refine wpAnyH_take (i:=21) (oi:=?oi88) (v:=?v88) ?ho88 ?ka88 ?kb88 ?kc88 (fun _ _ _ h=>h) (Or.inl ⟨?kw88,?hy88⟩) (by assumption) ?rest88
  case ho88=>(simp only [List.getElem?_toArray,List.getElem?_cons_zero,List.getElem?_cons_succ];rfl)
  case ka88=>kernel_rfl
  case kb88=>kernel_rfl
  case kc88=>kernel_rfl
  case kw88=>rfl
  case hy88=>(intro wq hSw;(try dsimp only at hSw);go_simp;try with_reducible rfl)
  try simp only [Act.put,List.setIfInBounds_toArray,List.set_cons_zero,List.set_cons_succ]
  refine wpAnyH_done (by kernel_rfl) ?_ _
  refine NoPanic.normal ?_
  go_wp2
  go_ret
  exact ⟨ret_bool HE.out.symm,HB0.out.trans (HX4.out.mono HB0.out.size)⟩
end Go.Proofs.YthkadehlclcggaaGreatDoor
