/- Chapter 16: Do where no publication is named. -/
import Derived.Test.YthfmekdbcoaolaaGreatDoorGy30
namespace Go.Proofs.YthfmekdbcoaolaaGreatDoor
set_option linter.unusedSimpArgs false
set_option linter.unusedVariables false
open Go.RowKit
open Go.Lib (hid)
theorem St.fr_told {w w':World} {p td:Nat} {c:Conf} {last:Int} {L:List Pub} {F:Nat->Prop} (H:St w p c last L F) (hf:Fr (fun k=>k=td) w w') (ht:∃ cs,Blk w td 83 cs):St w' p c last L F:=by
 obtain ⟨cs,ht⟩:=ht
 refine H.fr hf (fun k hk e=>?_) (fun b ds T fr hb hT e=>?_)
 .subst e
  exact H.notT ht (by decide) (by decide) (by decide) (by decide) (by decide) hk
 .subst e
  unfold Blk at ht
  rw [ht] at hb
  injection hb with hb
  injection hb with _ hb _
  rcases hT with rfl|rfl <;> exact absurd hb (by decide)
theorem doR_err0 {c:Conf} {last now:Int} {L:List Pub} {a:AskP} (h:argE L now a=false):(doR c last L now a).err=0:=by
 unfold doR
 rw [if_neg (by simp [h])]
 split
 .split
  .rfl
  .split
   .rfl
   .split <;> rfl
 .split
  .rfl
  .split
   .rfl
   .split
    .rfl
    .split
     .rfl
     .split <;> rfl
theorem do_mid {w w3 w4 w5:World} {p td:Nat} {c:Conf} {F F':Nat->Prop} {r:DoR} (hb:Below w.heap.size w w3) (hst:St w4 p c r.last r.L F') (hf:Fr F w3 w4) (hx:Ext F F' w3) (htd:w.heap.size<=td) (h5:Fr (fun k=>k=td) w4 w5) (ht:∃ cs,Blk w4 td 83 cs) (he:r.err=0):DoPost p c F r w (.returned (.tuple #[.agg #[.int .i64 r.told.status,.int .i64 r.told.exp,.string (str r.told.tag),.bool r.told.changed],.int .i64 0])) w5:=by
 refine ⟨by rw [he];rfl,F',hst.fr_told h5 ht,((Fr.of_below hb).trans hf (fun k _ e=>e)).trans h5 (fun k hk e=>by omega),fun k hk=>?_⟩
 rcases hx k hk with q|q
 .exact .inl q
 .exact .inr (Nat.le_trans hb.size q)
set_option maxRecDepth 100000 in
set_option maxHeartbeats 8000000 in
theorem do_new {w:World} {p B:Nat} {c:Conf} {last now:Int} {L:List Pub} {F:Nat->Prop} {a:AskP} {At An:Option Addr} {ct cn:Nat} (H:St w p c last L F) (hB:B<=w.heap.size) (hd:DocB w B a.doc (.slice At a.doc.tups.length ct) (.slice An a.doc.notes.length cn)) (hs:AskS a) (he:a.has=true->a.doc.ent.length<=99999990) (h:argE L now a=false) (hm:a.mtch=[]) (hla:last<=1000000) (hFB:∀ k,F k->B<=k) :
 Calls Tryz.prog 32 #[.pointer (some ⟨p,0,none⟩),.int .i64 now,.agg #[.string (str a.who),.string (str a.mtch),.int .i64 a.exp,.bool a.has,.string (str a.doc.ent),.slice At a.doc.tups.length ct,.slice An a.doc.notes.length cn,.string (str a.tag)]] w (DoPost p c F (doR c last L now a) w):=by
 have HARG:=hid (argE_no h)
 have HS0:=hid H
 have e1:str a.mtch=⟨#[]⟩:=by rw [hm];rfl
 have hlt:∀ k,F k->k<w.heap.size:=fun k hk=>H.lt hk
 obtain ⟨xs,l,bl,bt,pw,kl,kt,FW,rfl,HI,Q⟩:=H
 rw [e1]
 obtain ⟨w0,hw0⟩:∃ w0,(w.alloc (.cells #[.string (str a.who),.string ⟨#[]⟩,.int .i64 a.exp,.bool a.has,.string (str a.doc.ent),.slice At a.doc.tups.length ct,.slice An a.doc.notes.length cn,.string (str a.tag)] 86)).alloc (.cells #[.int .i64 0,.int .i64 0,.string ⟨#[]⟩,.bool false] 83)=w0:=⟨_,rfl⟩
 have hb0:Below w.heap.size w w0:=hw0▸((Below.refl _ _).alloc (Nat.le_refl _) _).alloc (by simp) _
 have hs0:w0.heap.size=w.heap.size+2:=hw0▸(by simp)
 have hka:Blk w0 w.heap.size 86 #[.string (str a.who),.string ⟨#[]⟩,.int .i64 a.exp,.bool a.has,.string (str a.doc.ent),.slice At a.doc.tups.length ct,.slice An a.doc.notes.length cn,.string (str a.tag)]:=hw0▸(Blk.new w _ _).alloc _
 have hkb:Blk w0 (w.heap.size+1) 83 #[.int .i64 0,.int .i64 0,.string ⟨#[]⟩,.bool false]:=hw0▸Blk.new' _ _ _ (by simp)
 have R0:=HI.raw.below hb0
 have HB0:=hid hb0
 have HSZ:=hid hs0
 have HMD:Hid (Calls Tryz.prog 33 #[.pointer (some ⟨p,0,none⟩)] w0 fun e w'=>e=.returned (.bool true)/\w0=w'):=hid (bmade_any R0.top)
 have HTK:Hid (∀ W,Calls Tryz.prog 46 #[.string (str a.tag)] W fun e w'=>e=.returned (.bool true)/\W=w'):=hid (fun W=>by
  have h9:=token_any a.tag W (by have:=hs.tag;omega)
  rw [HARG.out.2.2.1] at h9
  exact h9)
 have HCK:Hid (a.has=true->∀ W,Below w0.heap.size w0 W->Calls Tryz.prog 47 #[.agg #[.string (str a.doc.ent),.slice At a.doc.tups.length ct,.slice An a.doc.notes.length cn]] W fun e w'=>e=.returned (.int .i64 0)/\Below W.heap.size W w'):=hid (fun hh W hW=>by
  have h9:=check_any (B:=B) (Nat.le_trans hB (Nat.le_trans hb0.size hW.size)) ((hd.below (hb0.mono hB)).below (hW.mono (Nat.le_trans hB hb0.size))) hs.doc (he hh)
  rw [HARG.out.2.2.2.2 hh] at h9
  exact h9)
 have HC:Hid (∀ W,Below w0.heap.size w0 W->W.cell? ⟨p,9,none⟩=some (.map (some bt))/\W.cell? ⟨w.heap.size,3,none⟩=some (.bool a.has)/\W.cell? ⟨w.heap.size,4,none⟩=some (.string (str a.doc.ent))/\W.cell? ⟨w.heap.size,5,none⟩=some (.slice At a.doc.tups.length ct)/\W.cell? ⟨w.heap.size,6,none⟩=some (.slice An a.doc.notes.length cn)/\W.cell? ⟨w.heap.size,7,none⟩=some (.string (str a.tag))):=hid (fun W hW=>by
  have k:=(R0.below hW).top
  have k2:=hka.fr (Fr.of_below (F:=fun _=>False) hW) (fun h=>h)
  exact ⟨k.cell 9,k2.cell 3,k2.cell 4,k2.cell 5,k2.cell 6,k2.cell 7⟩)
 have HKA:Hid (∀ W,Below w0.heap.size w0 W->Blk W w.heap.size 86 #[.string (str a.who),.string ⟨#[]⟩,.int .i64 a.exp,.bool a.has,.string (str a.doc.ent),.slice At a.doc.tups.length ct,.slice An a.doc.notes.length cn,.string (str a.tag)]):=hid (fun W hW=>hka.fr (Fr.of_below (F:=fun _=>False) hW) (fun h=>h))
 have HKT:Hid (∀ W,Below w0.heap.size w0 W->Blk W (w.heap.size+1) 83 #[.int .i64 0,.int .i64 0,.string ⟨#[]⟩,.bool false]):=hid (fun W hW=>hkb.fr (Fr.of_below (F:=fun _=>False) hW) (fun h=>h))
 have HV:Hid (∀ n,(Instr.lookup 52 (.map (some bt)) (.string (str a.tag)) false).run Tryz.prog (w0.drewN n)=.ok (.int .i64 0) (w0.drewN n)):=hid (by
  rcases tag_in HI Q a.tag with ⟨hin,_⟩|⟨hno,hg⟩
  .exact absurd hin HARG.out.2.2.2.1
  .exact fun n=>tag_look (R0.tm.drewN n) _ (.inr ⟨hg,rfl⟩))
 have HBG:Hid (∀ W,Below w0.heap.size w0 W->Calls Tryz.prog 48 #[.pointer (some ⟨p,0,none⟩),.int .i64 now,.agg #[.string (str a.who),.string ⟨#[]⟩,.int .i64 a.exp,.bool a.has,.string (str a.doc.ent),.slice At a.doc.tups.length ct,.slice An a.doc.notes.length cn,.string (str a.tag)]] W (ToldPost p c F (doR c last (xs.map (·.p)) now a) W)):=hid (fun W hW=>by
  have hbw:Below w.heap.size w W:=thenB_ hb0 hW
  have h9:=begin_any (now:=now) (HS0.out.below hbw) (Nat.le_trans hB hbw.size) (hd.below (hbw.mono hB)) h hm hla hFB
  rw [e1] at h9
  exact h9)
 have HKB:Hid (∀ W w4,Below w0.heap.size w0 W->Fr F W w4->Blk w4 (w.heap.size+1) 83 #[.int .i64 0,.int .i64 0,.string ⟨#[]⟩,.bool false]):=hid (fun W w4 hW hf=>(HKT.out W hW).fr hf (fun q=>by have:=hlt _ q;omega))
 have HERR:=hid (doR_err0 (c:=c) (last:=last) h)
 have HPF:Hid (∀ W w4 F',Below w0.heap.size w0 W->St w4 p c (doR c last (xs.map (·.p)) now a).last (doR c last (xs.map (·.p)) now a).L F'->Fr F W w4->Ext F F' W->DoPost p c F (doR c last (xs.map (·.p)) now a) w (.returned (.tuple #[.agg #[.int .i64 (doR c last (xs.map (·.p)) now a).told.status,.int .i64 (doR c last (xs.map (·.p)) now a).told.exp,.string (str (doR c last (xs.map (·.p)) now a).told.tag),.bool (doR c last (xs.map (·.p)) now a).told.changed],.int .i64 0])) ((((w4.setCell ⟨w.heap.size+1,0,none⟩ (.int .i64 (doR c last (xs.map (·.p)) now a).told.status)).setCell ⟨w.heap.size+1,1,none⟩ (.int .i64 (doR c last (xs.map (·.p)) now a).told.exp)).setCell ⟨w.heap.size+1,2,none⟩ (.string (str (doR c last (xs.map (·.p)) now a).told.tag))).setCell ⟨w.heap.size+1,3,none⟩ (.bool (doR c last (xs.map (·.p)) now a).told.changed))):=hid (fun W w4 F' hW hst hf hx=>do_mid (thenB_ hb0 hW) hst hf hx (by omega) (((((Fr.refl (fun k=>k=w.heap.size+1) w4).set (p:=⟨w.heap.size+1,0,none⟩) (fun _=>rfl) _).set (p:=⟨w.heap.size+1,1,none⟩) (fun _=>rfl) _).set (p:=⟨w.heap.size+1,2,none⟩) (fun _=>rfl) _).set (p:=⟨w.heap.size+1,3,none⟩) (fun _=>rfl) _) ⟨_,HKB.out W w4 hW hf⟩ HERR.out)
 have hd1:decide (now<0)=false:=decide_eq_false (by have:=HARG.out.1;omega)
 have hd2:decide (549755813888<now)=false:=decide_eq_false (by have:=HARG.out.2.1;omega)
 have hd3:decide (now > 549755813888)=false:=hd2
 have hlk:=HV.out
 have HX0:Hid (Below w0.heap.size w0 w0):=hid (Below.refl _ _)
 have HX0d:Hid (Below w0.heap.size w0 w0.drew):=hid (Below.refl _ _).drew
 obtain ⟨x9,y3,y4,y5,y6,y7⟩:=HC.out w0 (Below.refl _ _)
 clear h hm HI Q R0 hd hka hkb hb0 hs he hB hs0 hla hFB hlt e1
 generalize hDO:doR c last (xs.map (·.p)) now a=DO at *
 have HDO:=hid hDO
 clear hDO
 unfold ToldPost at HBG
 generalize hhas:a.has=hs at *
 have HHS:=hid hhas
 clear hhas
 cases hs with
 | false =>
   go_enter Tryz.func32,Tryz.ntmps32
   go_wp2_with fail
   refine (HMD.out).mono ?_
   rintro e w1 ⟨rfl,rfl⟩
   go_wp2_with fail
   go_quiet ((go_at_call 46;exact (HTK.out _).mono (fun _ _ ⟨he,hw⟩=>⟨he,_,hw.symm⟩)))
   have hx3:=below_drewN HX0.out nq
   generalize hw3:w0.drewN nq=w3 at *
   have HX3:=hid hx3
   clear hw3 hx3 x9 y3 y4 y5 y6 y7
   have ka3:=HKA.out w3 HX3.out
   have y0:=ka3.cell 0
   have y1:=ka3.cell 1
   have y2:=ka3.cell 2
   have y3:=ka3.cell 3
   have y4:=ka3.cell 4
   have y5:=ka3.cell 5
   have y6:=ka3.cell 6
   have y7:=ka3.cell 7
   clear ka3
   go_wp2_with fail
   refine (HBG.out _ HX3.out).mono ?_
   rintro e w4 ⟨rfl,F',hst,hf,hx⟩
   have kt4:=HKB.out w3 w4 HX3.out hf
   obtain ⟨q0,q1,q2,q3⟩:=four_c kt4 (.int .i64 DO.told.status) (.int .i64 DO.told.exp) (.string (str DO.told.tag)) (.bool DO.told.changed)
   have HP:=hid (HPF.out w3 w4 F' HX3.out hst hf hx)
   unfold toldV
   have t0:=kt4.cell 0
   have t1:=kt4.cell 1
   have t2:=kt4.cell 2
   have t3:=kt4.cell 3
   have f0:=kt4.frozen 0
   have f1:=kt4.frozen 1
   have f2:=kt4.frozen 2
   have f3:=kt4.frozen 3
   clear hst hf hx kt4
   go_wp2
   exact bodyPost_ret (v:=.tuple #[.agg #[.int .i64 DO.told.status,.int .i64 DO.told.exp,.string (str DO.told.tag),.bool DO.told.changed],.int .i64 0]) (by simp [results,Tryz.results32,go_sem,q0,q1,q2,q3]) rfl HP.out
 | true =>
   have HCK2:=hid (HCK.out (by simp))
   have hlk1:=HV.out 1
   have hlk2:(Instr.lookup 52 (.map (some bt)) (.string (str a.tag)) false).run Tryz.prog w0.drew=.ok (.int .i64 0) w0.drew:=hlk1
   clear hlk HV HCK
   go_enter Tryz.func32,Tryz.ntmps32
   go_wp2_with fail
   refine (HMD.out).mono ?_
   rintro e w1 ⟨rfl,rfl⟩
   go_wp2_with fail
   go_region_held3 (fun w'=>w'.cell? ⟨p,9,none⟩=some (.map (some bt))/\w'.cell? ⟨w.heap.size,3,none⟩=some (.bool true)/\w'.cell? ⟨w.heap.size,4,none⟩=some (.string (str a.doc.ent))/\w'.cell? ⟨w.heap.size,5,none⟩=some (.slice At a.doc.tups.length ct)/\w'.cell? ⟨w.heap.size,6,none⟩=some (.slice An a.doc.notes.length cn)/\w'.cell? ⟨w.heap.size,7,none⟩=some (.string (str a.tag)))
    (first|exact HC.out _ HX3.out|exact HC.out _ HX0d.out) (first|(go_at_call 46;(with_reducible refine (HTK.out _).mono ?_);rintro e w3 ⟨rfl,rfl⟩)|(go_at_call 47;(with_reducible refine (HCK2.out _ HX0d.out).mono ?_);rintro e w3 ⟨rfl,hb3⟩;have HX3:Hid (Below w0.heap.size w0 w3):=hid (thenB_ HX0d.out hb3);clear hb3))
   clear x9 y3 y4 y5 y6 y7
   have ka3:=HKA.out w3 HX3.out
   have y0:=ka3.cell 0
   have y1:=ka3.cell 1
   have y2:=ka3.cell 2
   have y3:=ka3.cell 3
   have y4:=ka3.cell 4
   have y5:=ka3.cell 5
   have y6:=ka3.cell 6
   have y7:=ka3.cell 7
   clear ka3
   go_wp2_with fail
   refine (HBG.out _ HX3.out).mono ?_
   rintro e w4 ⟨rfl,F',hst,hf,hx⟩
   have kt4:=HKB.out w3 w4 HX3.out hf
   obtain ⟨q0,q1,q2,q3⟩:=four_c kt4 (.int .i64 DO.told.status) (.int .i64 DO.told.exp) (.string (str DO.told.tag)) (.bool DO.told.changed)
   have HP:=hid (HPF.out w3 w4 F' HX3.out hst hf hx)
   unfold toldV
   have t0:=kt4.cell 0
   have t1:=kt4.cell 1
   have t2:=kt4.cell 2
   have t3:=kt4.cell 3
   have f0:=kt4.frozen 0
   have f1:=kt4.frozen 1
   have f2:=kt4.frozen 2
   have f3:=kt4.frozen 3
   clear hst hf hx kt4
   go_wp2
   exact bodyPost_ret (v:=.tuple #[.agg #[.int .i64 DO.told.status,.int .i64 DO.told.exp,.string (str DO.told.tag),.bool DO.told.changed],.int .i64 0]) (by simp [results,Tryz.results32,go_sem,q0,q1,q2,q3]) rfl HP.out
end Go.Proofs.YthfmekdbcoaolaaGreatDoor
