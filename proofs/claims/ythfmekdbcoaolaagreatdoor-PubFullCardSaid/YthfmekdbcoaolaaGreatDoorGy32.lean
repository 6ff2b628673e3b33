/- Chapter 16: Do where a publication is named, which is not there, or may not be asked so. -/
import Derived.Test.YthfmekdbcoaolaaGreatDoorGy31
namespace Go.Proofs.YthfmekdbcoaolaaGreatDoor
set_option linter.unusedSimpArgs false
set_option linter.unusedVariables false
open Go.RowKit
open Go.Lib (hid)
theorem bs_ne {a b:T} (h:a≠b):¬(str a).toList=(str b).toList:=by rw [Lib.toList_data,Lib.toList_data];exact h
theorem bs_neb {a b:T} (h:a≠b):((str a).toList == (str b).toList)=false:=by rw [beq_eq_false_iff_ne];exact bs_ne h
theorem str_emp {s:T} (h:s≠[]):(str s).toList.isEmpty=false:=by rw [size_nil];exact decide_eq_false h
theorem live_look {w:World} {b:Nat} {kl:List (Int × Value)} (h:MapIs w b intKey kl) (n:Int):(mget n kl=none->(Instr.lookup 51 (.map (some b)) (.int .i64 n) true).run Tryz.prog w=.ok (.tuple #[.pointer none,.bool false]) w)/\∀ g:Nat,mget n kl=some (ptr g)->(Instr.lookup 51 (.map (some b)) (.int .i64 n) true).run Tryz.prog w=.ok (.tuple #[.pointer (some ⟨g,0,none⟩),.bool true]) w:=by
 have h2:=h.lookup (T:=51) (E:=91) (intLaw Tryz.underlying3) Tryz.underlying51 (zpub w) n true
 exact ⟨fun e=>by rw [e] at h2;exact h2,fun g e=>by rw [e] at h2;exact h2⟩
set_option maxRecDepth 100000 in
set_option maxHeartbeats 8000000 in
theorem do_none {w:World} {p B:Nat} {c:Conf} {last now:Int} {L:List Pub} {F:Nat->Prop} {a:AskP} {At An:Option Addr} {ct cn:Nat} (H:St w p c last L F) (hB:B<=w.heap.size) (hd:DocB w B a.doc (.slice At a.doc.tups.length ct) (.slice An a.doc.notes.length cn)) (hs:AskS a) (he:a.has=true->a.doc.ent.length<=99999990) (h:argE L now a=false) (hm:a.mtch≠[]) (hno:a.mtch∉L.map (·.tag)) (hla:last<=1000000) (hFB:∀ k,F k->B<=k) :
 Calls Tryz.prog 32 #[.pointer (some ⟨p,0,none⟩),.int .i64 now,.agg #[.string (str a.who),.string (str a.mtch),.int .i64 a.exp,.bool a.has,.string (str a.doc.ent),.slice At a.doc.tups.length ct,.slice An a.doc.notes.length cn,.string (str a.tag)]] w (DoPost p c F (doR c last L now a) w):=by
 have HARG:=hid (argE_no h)
 have HS0:=hid H
 have HRES:Hid (doR c last L now a=⟨last,L,⟨412,0,[],false⟩,0⟩):=hid (doR_no h hm hno)
 obtain ⟨xs,l,bl,bt,pw,kl,kt,FW,rfl,HI,Q⟩:=H
 obtain ⟨w0,hw0⟩:∃ w0,(w.alloc (.cells #[.string (str a.who),.string (str a.mtch),.int .i64 a.exp,.bool a.has,.string (str a.doc.ent),.slice At a.doc.tups.length ct,.slice An a.doc.notes.length cn,.string (str a.tag)] 86)).alloc (.cells #[.int .i64 0,.int .i64 0,.string ⟨#[]⟩,.bool false] 83)=w0:=⟨_,rfl⟩
 have hb0:Below w.heap.size w w0:=hw0▸((Below.refl _ _).alloc (Nat.le_refl _) _).alloc (by simp) _
 have hs0:w0.heap.size=w.heap.size+2:=hw0▸(by simp)
 have hka:Blk w0 w.heap.size 86 #[.string (str a.who),.string (str a.mtch),.int .i64 a.exp,.bool a.has,.string (str a.doc.ent),.slice At a.doc.tups.length ct,.slice An a.doc.notes.length cn,.string (str a.tag)]:=hw0▸(Blk.new w _ _).alloc _
 have hkb:Blk w0 (w.heap.size+1) 83 #[.int .i64 0,.int .i64 0,.string ⟨#[]⟩,.bool false]:=hw0▸Blk.new' _ _ _ (by simp)
 have R0:=HI.raw.below hb0
 have HB0:=hid hb0
 have HSZ:=hid hs0
 have HMD:Hid (Calls Tryz.prog 33 #[.pointer (some ⟨p,0,none⟩)] w0 fun e w'=>e=.returned (.bool true)/\w0=w'):=hid (bmade_any R0.top)
 have HTK:Hid (∀ W,Calls Tryz.prog 46 #[.string (str a.tag)] W fun e w'=>e=.returned (.bool true)/\W=w'):=hid (fun W=>by
  have h9:=token_any a.tag W (by have:=hs.tag;omega)
  rw [HARG.out.2.2.1] at h9
  exact h9)
 have HCK:Hid (a.has=true->∀ W,Below w0.heap.size w0 W->Calls Tryz.prog 47 #[.agg #[.string (str a.doc.ent),.slice At a.doc.tups.length ct,.slice An a.doc.notes.length cn]] W fun e w'=>e=.returned (.int .i64 0)/\Below W.heap.size W w'):=hid (fun hh W hW=>by
  have h9:=check_any (B:=B) (Nat.le_trans hB (Nat.le_trans hb0.size hW.size)) ((hd.below (hb0.mono hB)).below (hW.mono (Nat.le_trans hB hb0.size))) hs.doc (he hh)
  rw [HARG.out.2.2.2.2 hh] at h9
  exact h9)
 have HC:Hid (∀ W,Below w0.heap.size w0 W->W.cell? ⟨p,9,none⟩=some (.map (some bt))/\W.cell? ⟨w.heap.size,3,none⟩=some (.bool a.has)/\W.cell? ⟨w.heap.size,4,none⟩=some (.string (str a.doc.ent))/\W.cell? ⟨w.heap.size,5,none⟩=some (.slice At a.doc.tups.length ct)/\W.cell? ⟨w.heap.size,6,none⟩=some (.slice An a.doc.notes.length cn)/\W.cell? ⟨w.heap.size,7,none⟩=some (.string (str a.tag))):=hid (fun W hW=>by
  have k:=(R0.below hW).top
  have k2:=hka.fr (Fr.of_below (F:=fun _=>False) hW) (fun h=>h)
  exact ⟨k.cell 9,k2.cell 3,k2.cell 4,k2.cell 5,k2.cell 6,k2.cell 7⟩)
 have HKA:Hid (∀ W,Below w0.heap.size w0 W->Blk W w.heap.size 86 #[.string (str a.who),.string (str a.mtch),.int .i64 a.exp,.bool a.has,.string (str a.doc.ent),.slice At a.doc.tups.length ct,.slice An a.doc.notes.length cn,.string (str a.tag)]):=hid (fun W hW=>hka.fr (Fr.of_below (F:=fun _=>False) hW) (fun h=>h))
 have HKT:Hid (∀ W,Below w0.heap.size w0 W->Blk W (w.heap.size+1) 83 #[.int .i64 0,.int .i64 0,.string ⟨#[]⟩,.bool false]):=hid (fun W hW=>hkb.fr (Fr.of_below (F:=fun _=>False) hW) (fun h=>h))
 have HV:Hid (∀ n,(Instr.lookup 52 (.map (some bt)) (.string (str a.tag)) false).run Tryz.prog (w0.drewN n)=.ok (.int .i64 0) (w0.drewN n)):=hid (by
  rcases tag_in HI Q a.tag with ⟨hin,_⟩|⟨hno,hg⟩
  .exact absurd hin HARG.out.2.2.2.1
  .exact fun n=>tag_look (R0.tm.drewN n) _ (.inr ⟨hg,rfl⟩))
 have HALL:Hid (∀ W,Below w0.heap.size w0 W->(W.cell? ⟨p,0,none⟩=some (.string (str c.host))/\W.cell? ⟨p,1,none⟩=some (.int .i64 c.calls)/\W.cell? ⟨p,2,none⟩=some (.int .i64 c.pubs)/\W.cell? ⟨p,3,none⟩=some (.int .i64 c.subs)/\W.cell? ⟨p,4,none⟩=some (.int .i64 c.least)/\W.cell? ⟨p,5,none⟩=some (.int .i64 c.most)/\W.cell? ⟨p,6,none⟩=some (.int .i64 c.usual)/\W.cell? ⟨p,8,none⟩=some (.map (some bl))/\W.cell? ⟨p,9,none⟩=some (.map (some bt)))/\(W.cell? ⟨w.heap.size,0,none⟩=some (.string (str a.who))/\W.cell? ⟨w.heap.size,1,none⟩=some (.string (str a.mtch))/\W.cell? ⟨w.heap.size,2,none⟩=some (.int .i64 a.exp)/\W.cell? ⟨w.heap.size,3,none⟩=some (.bool a.has)/\W.cell? ⟨w.heap.size,7,none⟩=some (.string (str a.tag)))):=hid (fun W hW=>by
  have k:=(R0.below hW).top
  have k2:=hka.fr (Fr.of_below (F:=fun _=>False) hW) (fun h=>h)
  exact ⟨⟨k.cell 0,k.cell 1,k.cell 2,k.cell 3,k.cell 4,k.cell 5,k.cell 6,k.cell 8,k.cell 9⟩,k2.cell 0,k2.cell 1,k2.cell 2,k2.cell 3,k2.cell 7⟩)
 have HFIN:Hid (∀ W,Below w0.heap.size w0 W->∀ (n x:Int) (tg:T) (s:ByteArray) (b:Bool) (er:Int),str tg=s->doR c last (xs.map (·.p)) now a=⟨last,xs.map (·.p),⟨n,x,tg,b⟩,er⟩->((((W.setCell ⟨w.heap.size+1,0,none⟩ (.int .i64 n)).setCell ⟨w.heap.size+1,1,none⟩ (.int .i64 x)).setCell ⟨w.heap.size+1,2,none⟩ (.string s)).setCell ⟨w.heap.size+1,3,none⟩ (.bool b)).cell? ⟨w.heap.size+1,0,none⟩=some (.int .i64 n)/\((((W.setCell ⟨w.heap.size+1,0,none⟩ (.int .i64 n)).setCell ⟨w.heap.size+1,1,none⟩ (.int .i64 x)).setCell ⟨w.heap.size+1,2,none⟩ (.string s)).setCell ⟨w.heap.size+1,3,none⟩ (.bool b)).cell? ⟨w.heap.size+1,1,none⟩=some (.int .i64 x)/\((((W.setCell ⟨w.heap.size+1,0,none⟩ (.int .i64 n)).setCell ⟨w.heap.size+1,1,none⟩ (.int .i64 x)).setCell ⟨w.heap.size+1,2,none⟩ (.string s)).setCell ⟨w.heap.size+1,3,none⟩ (.bool b)).cell? ⟨w.heap.size+1,2,none⟩=some (.string s)/\((((W.setCell ⟨w.heap.size+1,0,none⟩ (.int .i64 n)).setCell ⟨w.heap.size+1,1,none⟩ (.int .i64 x)).setCell ⟨w.heap.size+1,2,none⟩ (.string s)).setCell ⟨w.heap.size+1,3,none⟩ (.bool b)).cell? ⟨w.heap.size+1,3,none⟩=some (.bool b)/\DoPost p c F (doR c last (xs.map (·.p)) now a) w (.returned (.tuple #[.agg #[.int .i64 n,.int .i64 x,.string s,.bool b],.int .i64 er])) ((((W.setCell ⟨w.heap.size+1,0,none⟩ (.int .i64 n)).setCell ⟨w.heap.size+1,1,none⟩ (.int .i64 x)).setCell ⟨w.heap.size+1,2,none⟩ (.string s)).setCell ⟨w.heap.size+1,3,none⟩ (.bool b))):=hid (fun W hW n x tg s b er hs ht=>by
  subst hs
  obtain ⟨q0,q1,q2,q3⟩:=four_c (hkb.fr (Fr.of_below (F:=fun _=>False) hW) (fun h=>h)) (.int .i64 n) (.int .i64 x) (.string (str tg)) (.bool b)
  exact ⟨q0,q1,q2,q3,do_same HS0.out ht (four_fr (thenB_ hb0 hW) (by omega) _ _ _ _)⟩)
 have HL1:Hid (∀ W,Below w0.heap.size w0 W->∀ n,(Instr.lookup 52 (.map (some bt)) (.string (str a.mtch)) false).run Tryz.prog (W.drewN n)=.ok (.int .i64 0) (W.drewN n)):=hid (fun W hW n=>by
  rcases tag_in HI Q a.mtch with ⟨hin,_⟩|⟨_,hg⟩
  .exact absurd hin hno
  .exact tag_look ((R0.below hW).tm.drewN n) _ (.inr ⟨hg,rfl⟩))
 have HL2:Hid (∀ W,Below w0.heap.size w0 W->∀ n,(Instr.lookup 51 (.map (some bl)) (.int .i64 0) true).run Tryz.prog (W.drewN n)=.ok (.tuple #[.pointer none,.bool false]) (W.drewN n)):=hid (fun W hW n=>(live_look ((R0.below hW).lm.drewN n) 0).1 (HI.nol (fun q=>by
  obtain ⟨d,hd,e⟩:=List.mem_map.1 q
  have:=Q.low d hd
  omega)))
 have qe:=str_emp hm
 have hd1:decide (now<0)=false:=decide_eq_false (by have:=HARG.out.1;omega)
 have hd2:decide (549755813888<now)=false:=decide_eq_false (by have:=HARG.out.2.1;omega)
 have hd3:decide (now > 549755813888)=false:=hd2
 have hlk:=HV.out
 have HX0:Hid (Below w0.heap.size w0 w0):=hid (Below.refl _ _)
 have HX0d:Hid (Below w0.heap.size w0 w0.drew):=hid (Below.refl _ _).drew
 obtain ⟨x9,y3,y4,y5,y6,y7⟩:=HC.out w0 (Below.refl _ _)
 clear h hm HI Q R0 hd hka hkb hb0 hs he hB hs0 hla hFB hno
 generalize hDO:doR c last (xs.map (·.p)) now a=DO at *
 have HDO:=hid hDO
 clear hDO
 generalize hhas:a.has=hs at *
 have HHS:=hid hhas
 clear hhas
 cases hs with
 | false =>
   go_enter Tryz.func32,Tryz.ntmps32
   go_wp2_with fail
   refine (HMD.out).mono ?_
   rintro e w1 ⟨rfl,rfl⟩
   go_wp2_with fail
   go_quiet ((go_at_call 46;exact (HTK.out _).mono (fun _ _ ⟨he,hw⟩=>⟨he,_,hw.symm⟩)))
   have hx3:=below_drewN HX0.out nq
   generalize hw3:w0.drewN nq=w3 at *
   have HX3:=hid hx3
   clear hw3 hx3 x9 y3 y4 y5 y6 y7
   obtain ⟨⟨x0,x1,x2,x3,x4,x5,x6,x8,x9⟩,y0,y1,y2,y3,y7⟩:=HALL.out w3 HX3.out
   have hl1:=HL1.out w3 HX3.out
   have hl2:=HL2.out w3 HX3.out
   go_wp2_with fail
   go_quiet (fail)
   have hx4:=below_drewN HX3.out nq
   generalize hw4:w3.drewN nq=w4 at *
   have HX4:=hid hx4
   clear hw4 hx4
   clear hl1 hl2
   clear x0 x1 x2 x3 x4 x5 x6 x8 x9 y0 y1 y2 y3 y7
   have kt9:=HKT.out w4 HX4.out
   have t0:=kt9.cell 0
   have t1:=kt9.cell 1
   have t2:=kt9.cell 2
   have t3:=kt9.cell 3
   have f0:=kt9.frozen 0
   have f1:=kt9.frozen 1
   have f2:=kt9.frozen 2
   have f3:=kt9.frozen 3
   clear kt9
   obtain ⟨⟨x0,x1,x2,x3,x4,x5,x6,x8,x9⟩,y0,y1,y2,y3,y7⟩:=HALL.out w4 HX4.out
   go_wp2_with fail
   go_quiet (fail)
   go_wp2
   obtain ⟨q0,q1,q2,q3,HP⟩:=HFIN.out (w4.drewN nq) (below_drewN HX4.out nq) 412 0 [] ⟨#[]⟩ false 0 rfl HRES.out
   exact bodyPost_ret (v:=.tuple #[.agg #[.int .i64 412,.int .i64 0,.string ⟨#[]⟩,.bool false],.int .i64 0]) (by simp [results,Tryz.results32,go_sem,q0,q1,q2,q3]) rfl HP
 | true =>
   have HCK2:=hid (HCK.out (by simp))
   have hlk1:=HV.out 1
   have hlk2:(Instr.lookup 52 (.map (some bt)) (.string (str a.tag)) false).run Tryz.prog w0.drew=.ok (.int .i64 0) w0.drew:=hlk1
   clear hlk HV HCK
   go_enter Tryz.func32,Tryz.ntmps32
   go_wp2_with fail
   refine (HMD.out).mono ?_
   rintro e w1 ⟨rfl,rfl⟩
   go_wp2_with fail
   go_region_held3 (fun w'=>w'.cell? ⟨p,9,none⟩=some (.map (some bt))/\w'.cell? ⟨w.heap.size,3,none⟩=some (.bool true)/\w'.cell? ⟨w.heap.size,4,none⟩=some (.string (str a.doc.ent))/\w'.cell? ⟨w.heap.size,5,none⟩=some (.slice At a.doc.tups.length ct)/\w'.cell? ⟨w.heap.size,6,none⟩=some (.slice An a.doc.notes.length cn)/\w'.cell? ⟨w.heap.size,7,none⟩=some (.string (str a.tag)))
    (first|exact HC.out _ HX3.out|exact HC.out _ HX0d.out) (first|(go_at_call 46;(with_reducible refine (HTK.out _).mono ?_);rintro e w3 ⟨rfl,rfl⟩)|(go_at_call 47;(with_reducible refine (HCK2.out _ HX0d.out).mono ?_);rintro e w3 ⟨rfl,hb3⟩;have HX3:Hid (Below w0.heap.size w0 w3):=hid (thenB_ HX0d.out hb3);clear hb3))
   clear x9 y3 y4 y5 y6 y7
   obtain ⟨⟨x0,x1,x2,x3,x4,x5,x6,x8,x9⟩,y0,y1,y2,y3,y7⟩:=HALL.out w3 HX3.out
   have hl1:=HL1.out w3 HX3.out
   have hl2:=HL2.out w3 HX3.out
   go_wp2_with fail
   go_quiet (fail)
   have hx4:=below_drewN HX3.out nq
   generalize hw4:w3.drewN nq=w4 at *
   have HX4:=hid hx4
   clear hw4 hx4
   clear hl1 hl2
   clear x0 x1 x2 x3 x4 x5 x6 x8 x9 y0 y1 y2 y3 y7
   have kt9:=HKT.out w4 HX4.out
   have t0:=kt9.cell 0
   have t1:=kt9.cell 1
   have t2:=kt9.cell 2
   have t3:=kt9.cell 3
   have f0:=kt9.frozen 0
   have f1:=kt9.frozen 1
   have f2:=kt9.frozen 2
   have f3:=kt9.frozen 3
   clear kt9
   obtain ⟨⟨x0,x1,x2,x3,x4,x5,x6,x8,x9⟩,y0,y1,y2,y3,y7⟩:=HALL.out w4 HX4.out
   go_wp2_with fail
   go_quiet (fail)
   go_wp2
   obtain ⟨q0,q1,q2,q3,HP⟩:=HFIN.out (w4.drewN nq) (below_drewN HX4.out nq) 412 0 [] ⟨#[]⟩ false 0 rfl HRES.out
   exact bodyPost_ret (v:=.tuple #[.agg #[.int .i64 412,.int .i64 0,.string ⟨#[]⟩,.bool false],.int .i64 0]) (by simp [results,Tryz.results32,go_sem,q0,q1,q2,q3]) rfl HP
set_option maxRecDepth 100000 in
set_option maxHeartbeats 8000000 in
theorem do_who {w:World} {p B:Nat} {c:Conf} {last now:Int} {L:List Pub} {F:Nat->Prop} {a:AskP} {At An:Option Addr} {ct cn:Nat} (H:St w p c last L F) (hB:B<=w.heap.size) (hd:DocB w B a.doc (.slice At a.doc.tups.length ct) (.slice An a.doc.notes.length cn)) (hs:AskS a) (he:a.has=true->a.doc.ent.length<=99999990) (h:argE L now a=false) (hm:a.mtch≠[]) {p0:Pub} (hp0:p0∈L) (hpt:p0.tag=a.mtch) (hw:p0.who≠a.who) (hla:last<=1000000) (hFB:∀ k,F k->B<=k) :
 Calls Tryz.prog 32 #[.pointer (some ⟨p,0,none⟩),.int .i64 now,.agg #[.string (str a.who),.string (str a.mtch),.int .i64 a.exp,.bool a.has,.string (str a.doc.ent),.slice At a.doc.tups.length ct,.slice An a.doc.notes.length cn,.string (str a.tag)]] w (DoPost p c F (doR c last L now a) w):=by
 have HARG:=hid (argE_no h)
 have HS0:=hid H
 have hnum:(L.map (·.number)).Nodup/\(L.map (·.tag)).Nodup:=by
  obtain ⟨xs,l,bl,bt,pw,kl,kt,FW,rfl,HI,Q⟩:=H
  exact ⟨pubs_idnd Q.ids,Q.tags⟩
 have HRES:Hid (doR c last L now a=⟨last,L,⟨412,0,[],false⟩,0⟩):=hid (doR_who h hm hnum.2 hp0 hpt hw)
 obtain ⟨xs,l,bl,bt,pw,kl,kt,FW,rfl,HI,Q⟩:=H
 obtain ⟨z,hz,rfl⟩:=List.mem_map.1 hp0
 obtain ⟨w0,hw0⟩:∃ w0,(w.alloc (.cells #[.string (str a.who),.string (str a.mtch),.int .i64 a.exp,.bool a.has,.string (str a.doc.ent),.slice At a.doc.tups.length ct,.slice An a.doc.notes.length cn,.string (str a.tag)] 86)).alloc (.cells #[.int .i64 0,.int .i64 0,.string ⟨#[]⟩,.bool false] 83)=w0:=⟨_,rfl⟩
 have hb0:Below w.heap.size w w0:=hw0▸((Below.refl _ _).alloc (Nat.le_refl _) _).alloc (by simp) _
 have hs0:w0.heap.size=w.heap.size+2:=hw0▸(by simp)
 have hka:Blk w0 w.heap.size 86 #[.string (str a.who),.string (str a.mtch),.int .i64 a.exp,.bool a.has,.string (str a.doc.ent),.slice At a.doc.tups.length ct,.slice An a.doc.notes.length cn,.string (str a.tag)]:=hw0▸(Blk.new w _ _).alloc _
 have hkb:Blk w0 (w.heap.size+1) 83 #[.int .i64 0,.int .i64 0,.string ⟨#[]⟩,.bool false]:=hw0▸Blk.new' _ _ _ (by simp)
 have R0:=HI.raw.below hb0
 have HB0:=hid hb0
 have HSZ:=hid hs0
 have HMD:Hid (Calls Tryz.prog 33 #[.pointer (some ⟨p,0,none⟩)] w0 fun e w'=>e=.returned (.bool true)/\w0=w'):=hid (bmade_any R0.top)
 have HTK:Hid (∀ W,Calls Tryz.prog 46 #[.string (str a.tag)] W fun e w'=>e=.returned (.bool true)/\W=w'):=hid (fun W=>by
  have h9:=token_any a.tag W (by have:=hs.tag;omega)
  rw [HARG.out.2.2.1] at h9
  exact h9)
 have HCK:Hid (a.has=true->∀ W,Below w0.heap.size w0 W->Calls Tryz.prog 47 #[.agg #[.string (str a.doc.ent),.slice At a.doc.tups.length ct,.slice An a.doc.notes.length cn]] W fun e w'=>e=.returned (.int .i64 0)/\Below W.heap.size W w'):=hid (fun hh W hW=>by
  have h9:=check_any (B:=B) (Nat.le_trans hB (Nat.le_trans hb0.size hW.size)) ((hd.below (hb0.mono hB)).below (hW.mono (Nat.le_trans hB hb0.size))) hs.doc (he hh)
  rw [HARG.out.2.2.2.2 hh] at h9
  exact h9)
 have HC:Hid (∀ W,Below w0.heap.size w0 W->W.cell? ⟨p,9,none⟩=some (.map (some bt))/\W.cell? ⟨w.heap.size,3,none⟩=some (.bool a.has)/\W.cell? ⟨w.heap.size,4,none⟩=some (.string (str a.doc.ent))/\W.cell? ⟨w.heap.size,5,none⟩=some (.slice At a.doc.tups.length ct)/\W.cell? ⟨w.heap.size,6,none⟩=some (.slice An a.doc.notes.length cn)/\W.cell? ⟨w.heap.size,7,none⟩=some (.string (str a.tag))):=hid (fun W hW=>by
  have k:=(R0.below hW).top
  have k2:=hka.fr (Fr.of_below (F:=fun _=>False) hW) (fun h=>h)
  exact ⟨k.cell 9,k2.cell 3,k2.cell 4,k2.cell 5,k2.cell 6,k2.cell 7⟩)
 have HKA:Hid (∀ W,Below w0.heap.size w0 W->Blk W w.heap.size 86 #[.string (str a.who),.string (str a.mtch),.int .i64 a.exp,.bool a.has,.string (str a.doc.ent),.slice At a.doc.tups.length ct,.slice An a.doc.notes.length cn,.string (str a.tag)]):=hid (fun W hW=>hka.fr (Fr.of_below (F:=fun _=>False) hW) (fun h=>h))
 have HKT:Hid (∀ W,Below w0.heap.size w0 W->Blk W (w.heap.size+1) 83 #[.int .i64 0,.int .i64 0,.string ⟨#[]⟩,.bool false]):=hid (fun W hW=>hkb.fr (Fr.of_below (F:=fun _=>False) hW) (fun h=>h))
 have HV:Hid (∀ n,(Instr.lookup 52 (.map (some bt)) (.string (str a.tag)) false).run Tryz.prog (w0.drewN n)=.ok (.int .i64 0) (w0.drewN n)):=hid (by
  rcases tag_in HI Q a.tag with ⟨hin,_⟩|⟨hno,hg⟩
  .exact absurd hin HARG.out.2.2.2.1
  .exact fun n=>tag_look (R0.tm.drewN n) _ (.inr ⟨hg,rfl⟩))
 have HALL:Hid (∀ W,Below w0.heap.size w0 W->(W.cell? ⟨p,0,none⟩=some (.string (str c.host))/\W.cell? ⟨p,1,none⟩=some (.int .i64 c.calls)/\W.cell? ⟨p,2,none⟩=some (.int .i64 c.pubs)/\W.cell? ⟨p,3,none⟩=some (.int .i64 c.subs)/\W.cell? ⟨p,4,none⟩=some (.int .i64 c.least)/\W.cell? ⟨p,5,none⟩=some (.int .i64 c.most)/\W.cell? ⟨p,6,none⟩=some (.int .i64 c.usual)/\W.cell? ⟨p,8,none⟩=some (.map (some bl))/\W.cell? ⟨p,9,none⟩=some (.map (some bt)))/\(W.cell? ⟨w.heap.size,0,none⟩=some (.string (str a.who))/\W.cell? ⟨w.heap.size,1,none⟩=some (.string (str a.mtch))/\W.cell? ⟨w.heap.size,2,none⟩=some (.int .i64 a.exp)/\W.cell? ⟨w.heap.size,3,none⟩=some (.bool a.has)/\W.cell? ⟨w.heap.size,7,none⟩=some (.string (str a.tag)))):=hid (fun W hW=>by
  have k:=(R0.below hW).top
  have k2:=hka.fr (Fr.of_below (F:=fun _=>False) hW) (fun h=>h)
  exact ⟨⟨k.cell 0,k.cell 1,k.cell 2,k.cell 3,k.cell 4,k.cell 5,k.cell 6,k.cell 8,k.cell 9⟩,k2.cell 0,k2.cell 1,k2.cell 2,k2.cell 3,k2.cell 7⟩)
 have HFIN:Hid (∀ W,Below w0.heap.size w0 W->∀ (n x:Int) (tg:T) (s:ByteArray) (b:Bool) (er:Int),str tg=s->doR c last (xs.map (·.p)) now a=⟨last,xs.map (·.p),⟨n,x,tg,b⟩,er⟩->((((W.setCell ⟨w.heap.size+1,0,none⟩ (.int .i64 n)).setCell ⟨w.heap.size+1,1,none⟩ (.int .i64 x)).setCell ⟨w.heap.size+1,2,none⟩ (.string s)).setCell ⟨w.heap.size+1,3,none⟩ (.bool b)).cell? ⟨w.heap.size+1,0,none⟩=some (.int .i64 n)/\((((W.setCell ⟨w.heap.size+1,0,none⟩ (.int .i64 n)).setCell ⟨w.heap.size+1,1,none⟩ (.int .i64 x)).setCell ⟨w.heap.size+1,2,none⟩ (.string s)).setCell ⟨w.heap.size+1,3,none⟩ (.bool b)).cell? ⟨w.heap.size+1,1,none⟩=some (.int .i64 x)/\((((W.setCell ⟨w.heap.size+1,0,none⟩ (.int .i64 n)).setCell ⟨w.heap.size+1,1,none⟩ (.int .i64 x)).setCell ⟨w.heap.size+1,2,none⟩ (.string s)).setCell ⟨w.heap.size+1,3,none⟩ (.bool b)).cell? ⟨w.heap.size+1,2,none⟩=some (.string s)/\((((W.setCell ⟨w.heap.size+1,0,none⟩ (.int .i64 n)).setCell ⟨w.heap.size+1,1,none⟩ (.int .i64 x)).setCell ⟨w.heap.size+1,2,none⟩ (.string s)).setCell ⟨w.heap.size+1,3,none⟩ (.bool b)).cell? ⟨w.heap.size+1,3,none⟩=some (.bool b)/\DoPost p c F (doR c last (xs.map (·.p)) now a) w (.returned (.tuple #[.agg #[.int .i64 n,.int .i64 x,.string s,.bool b],.int .i64 er])) ((((W.setCell ⟨w.heap.size+1,0,none⟩ (.int .i64 n)).setCell ⟨w.heap.size+1,1,none⟩ (.int .i64 x)).setCell ⟨w.heap.size+1,2,none⟩ (.string s)).setCell ⟨w.heap.size+1,3,none⟩ (.bool b))):=hid (fun W hW n x tg s b er hs ht=>by
  subst hs
  obtain ⟨q0,q1,q2,q3⟩:=four_c (hkb.fr (Fr.of_below (F:=fun _=>False) hW) (fun h=>h)) (.int .i64 n) (.int .i64 x) (.string (str tg)) (.bool b)
  exact ⟨q0,q1,q2,q3,do_same HS0.out ht (four_fr (thenB_ hb0 hW) (by omega) _ _ _ _)⟩)
 have HL1:Hid (∀ W,Below w0.heap.size w0 W->∀ n,(Instr.lookup 52 (.map (some bt)) (.string (str a.mtch)) false).run Tryz.prog (W.drewN n)=.ok (.int .i64 z.p.number) (W.drewN n)):=hid (fun W hW n=>by
  rw [<-hpt]
  exact tag_look ((R0.below hW).tm.drewN n) _ (.inl (HI.gett Q.tags hz)))
 have HL2:Hid (∀ W,Below w0.heap.size w0 W->∀ n,(Instr.lookup 51 (.map (some bl)) (.int .i64 z.p.number) true).run Tryz.prog (W.drewN n)=.ok (.tuple #[.pointer (some ⟨z.b,0,none⟩),.bool true]) (W.drewN n)):=hid (fun W hW n=>(live_look ((R0.below hW).lm.drewN n) _).2 _ (HI.getl (pubs_idnd Q.ids) hz))
 have HZ:Hid (∀ W,Below w0.heap.size w0 W->Blk W z.b 66 (pubA z)):=hid (fun W hW=>(HI.its z hz).fr (Fr.of_below (F:=fun _=>False) (thenB_ hb0 hW)) (fun h=>h))
 have qe:=str_emp hm
 have qw1:=bs_neb hw
 have qw2:=bs_ne hw
 have qw3:((str z.p.who).toList != (str a.who).toList)=true:=by simpa using qw2
 have hd1:decide (now<0)=false:=decide_eq_false (by have:=HARG.out.1;omega)
 have hd2:decide (549755813888<now)=false:=decide_eq_false (by have:=HARG.out.2.1;omega)
 have hd3:decide (now > 549755813888)=false:=hd2
 have hlk:=HV.out
 have HX0:Hid (Below w0.heap.size w0 w0):=hid (Below.refl _ _)
 have HX0d:Hid (Below w0.heap.size w0 w0.drew):=hid (Below.refl _ _).drew
 obtain ⟨x9,y3,y4,y5,y6,y7⟩:=HC.out w0 (Below.refl _ _)
 clear h hm HI Q R0 hd hka hkb hb0 hs he hB hs0 hla hFB hnum hp0 hpt hw
 generalize hDO:doR c last (xs.map (·.p)) now a=DO at *
 have HDO:=hid hDO
 clear hDO
 generalize hhas:a.has=hs at *
 have HHS:=hid hhas
 clear hhas
 cases hs with
 | false =>
   go_enter Tryz.func32,Tryz.ntmps32
   go_wp2_with fail
   refine (HMD.out).mono ?_
   rintro e w1 ⟨rfl,rfl⟩
   go_wp2_with fail
   go_quiet ((go_at_call 46;exact (HTK.out _).mono (fun _ _ ⟨he,hw⟩=>⟨he,_,hw.symm⟩)))
   have hx3:=below_drewN HX0.out nq
   generalize hw3:w0.drewN nq=w3 at *
   have HX3:=hid hx3
   clear hw3 hx3 x9 y3 y4 y5 y6 y7
   obtain ⟨⟨x0,x1,x2,x3,x4,x5,x6,x8,x9⟩,y0,y1,y2,y3,y7⟩:=HALL.out w3 HX3.out
   have hl1:=HL1.out w3 HX3.out
   have hl2:=HL2.out w3 HX3.out
   go_wp2_with fail
   go_quiet (fail)
   have hx4:=below_drewN HX3.out nq
   generalize hw4:w3.drewN nq=w4 at *
   have HX4:=hid hx4
   clear hw4 hx4
   clear hl1 hl2
   clear x0 x1 x2 x3 x4 x5 x6 x8 x9 y0 y1 y2 y3 y7
   obtain ⟨⟨x0,x1,x2,x3,x4,x5,x6,x8,x9⟩,y0,y1,y2,y3,y7⟩:=HALL.out w4 HX4.out
   have b1:w4.cell? ⟨z.b,1,none⟩=some (.string (str z.p.who)):=(HZ.out w4 HX4.out).cell 1
   go_wp2_with fail
   go_quiet (fail)
   have hx5:=below_drewN HX4.out nq
   generalize hw5:w4.drewN nq=w5 at *
   have HX5:=hid hx5
   clear hw5 hx5
   clear b1
   clear x0 x1 x2 x3 x4 x5 x6 x8 x9 y0 y1 y2 y3 y7
   have kt9:=HKT.out w5 HX5.out
   have t0:=kt9.cell 0
   have t1:=kt9.cell 1
   have t2:=kt9.cell 2
   have t3:=kt9.cell 3
   have f0:=kt9.frozen 0
   have f1:=kt9.frozen 1
   have f2:=kt9.frozen 2
   have f3:=kt9.frozen 3
   clear kt9
   go_wp2
   obtain ⟨q0,q1,q2,q3,HP⟩:=HFIN.out w5 HX5.out 412 0 [] ⟨#[]⟩ false 0 rfl HRES.out
   exact bodyPost_ret (v:=.tuple #[.agg #[.int .i64 412,.int .i64 0,.string ⟨#[]⟩,.bool false],.int .i64 0]) (by simp [results,Tryz.results32,go_sem,q0,q1,q2,q3]) rfl HP
 | true =>
   have HCK2:=hid (HCK.out (by simp))
   have hlk1:=HV.out 1
   have hlk2:(Instr.lookup 52 (.map (some bt)) (.string (str a.tag)) false).run Tryz.prog w0.drew=.ok (.int .i64 0) w0.drew:=hlk1
   clear hlk HV HCK
   go_enter Tryz.func32,Tryz.ntmps32
   go_wp2_with fail
   refine (HMD.out).mono ?_
   rintro e w1 ⟨rfl,rfl⟩
   go_wp2_with fail
   go_region_held3 (fun w'=>w'.cell? ⟨p,9,none⟩=some (.map (some bt))/\w'.cell? ⟨w.heap.size,3,none⟩=some (.bool true)/\w'.cell? ⟨w.heap.size,4,none⟩=some (.string (str a.doc.ent))/\w'.cell? ⟨w.heap.size,5,none⟩=some (.slice At a.doc.tups.length ct)/\w'.cell? ⟨w.heap.size,6,none⟩=some (.slice An a.doc.notes.length cn)/\w'.cell? ⟨w.heap.size,7,none⟩=some (.string (str a.tag)))
    (first|exact HC.out _ HX3.out|exact HC.out _ HX0d.out) (first|(go_at_call 46;(with_reducible refine (HTK.out _).mono ?_);rintro e w3 ⟨rfl,rfl⟩)|(go_at_call 47;(with_reducible refine (HCK2.out _ HX0d.out).mono ?_);rintro e w3 ⟨rfl,hb3⟩;have HX3:Hid (Below w0.heap.size w0 w3):=hid (thenB_ HX0d.out hb3);clear hb3))
   clear x9 y3 y4 y5 y6 y7
   obtain ⟨⟨x0,x1,x2,x3,x4,x5,x6,x8,x9⟩,y0,y1,y2,y3,y7⟩:=HALL.out w3 HX3.out
   have hl1:=HL1.out w3 HX3.out
   have hl2:=HL2.out w3 HX3.out
   go_wp2_with fail
   go_quiet (fail)
   have hx4:=below_drewN HX3.out nq
   generalize hw4:w3.drewN nq=w4 at *
   have HX4:=hid hx4
   clear hw4 hx4
   clear hl1 hl2
   clear x0 x1 x2 x3 x4 x5 x6 x8 x9 y0 y1 y2 y3 y7
   obtain ⟨⟨x0,x1,x2,x3,x4,x5,x6,x8,x9⟩,y0,y1,y2,y3,y7⟩:=HALL.out w4 HX4.out
   have b1:w4.cell? ⟨z.b,1,none⟩=some (.string (str z.p.who)):=(HZ.out w4 HX4.out).cell 1
   go_wp2_with fail
   go_quiet (fail)
   have hx5:=below_drewN HX4.out nq
   generalize hw5:w4.drewN nq=w5 at *
   have HX5:=hid hx5
   clear hw5 hx5
   clear b1
   clear x0 x1 x2 x3 x4 x5 x6 x8 x9 y0 y1 y2 y3 y7
   have kt9:=HKT.out w5 HX5.out
   have t0:=kt9.cell 0
   have t1:=kt9.cell 1
   have t2:=kt9.cell 2
   have t3:=kt9.cell 3
   have f0:=kt9.frozen 0
   have f1:=kt9.frozen 1
   have f2:=kt9.frozen 2
   have f3:=kt9.frozen 3
   clear kt9
   go_wp2
   obtain ⟨q0,q1,q2,q3,HP⟩:=HFIN.out w5 HX5.out 412 0 [] ⟨#[]⟩ false 0 rfl HRES.out
   exact bodyPost_ret (v:=.tuple #[.agg #[.int .i64 412,.int .i64 0,.string ⟨#[]⟩,.bool false],.int .i64 0]) (by simp [results,Tryz.results32,go_sem,q0,q1,q2,q3]) rfl HP
end Go.Proofs.YthfmekdbcoaolaaGreatDoor
