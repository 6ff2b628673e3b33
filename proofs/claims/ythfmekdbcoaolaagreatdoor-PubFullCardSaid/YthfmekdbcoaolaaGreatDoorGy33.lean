/- Chapter 16: Do where a publication is named, which is not there, or may not be asked so. Chapter 16: Do where a publication is named, which is not there, or may not be asked so. Chapter 16: the end of a publication that goes on, of one that ends. Chapter 16: Do where a publication is named, which ends. -/
import Derived.Test.YthfmekdbcoaolaaGreatDoorGy32
namespace Go.Proofs.YthfmekdbcoaolaaGreatDoor
set_option linter.unusedSimpArgs false
set_option linter.unusedVariables false
open Go.RowKit
open Go.Lib (hid)
set_option maxRecDepth 100000 in
set_option maxHeartbeats 8000000 in
theorem do_brief {w:World} {p B:Nat} {c:Conf} {last now:Int} {L:List Pub} {F:Nat->Prop} {a:AskP} {At An:Option Addr} {ct cn:Nat} (H:St w p c last L F) (hB:B<=w.heap.size) (hd:DocB w B a.doc (.slice At a.doc.tups.length ct) (.slice An a.doc.notes.length cn)) (hs:AskS a) (he:a.has=true->a.doc.ent.length<=99999990) (h:argE L now a=false) (hm:a.mtch≠[]) {p0:Pub} (hp0:p0∈L) (hpt:p0.tag=a.mtch) (hw:p0.who=a.who) (hk:secK c a.exp=false) (hla:last<=1000000) (hFB:∀ k,F k->B<=k) :
 Calls Tryz.prog 32 #[.pointer (some ⟨p,0,none⟩),.int .i64 now,.agg #[.string (str a.who),.string (str a.mtch),.int .i64 a.exp,.bool a.has,.string (str a.doc.ent),.slice At a.doc.tups.length ct,.slice An a.doc.notes.length cn,.string (str a.tag)]] w (DoPost p c F (doR c last L now a) w):=by
 have HARG:=hid (argE_no h)
 have HS0:=hid H
 have hnum:(L.map (·.number)).Nodup/\(L.map (·.tag)).Nodup:=by
  obtain ⟨xs,l,bl,bt,pw,kl,kt,FW,rfl,HI,Q⟩:=H
  exact ⟨pubs_idnd Q.ids,Q.tags⟩
 have HRES:Hid (doR c last L now a=⟨last,L,⟨423,c.least,[],false⟩,0⟩):=hid (doR_old1 h hm hnum.2 hp0 hpt hw hk)
 obtain ⟨xs,l,bl,bt,pw,kl,kt,FW,rfl,HI,Q⟩:=H
 obtain ⟨z,hz,rfl⟩:=List.mem_map.1 hp0
 obtain ⟨w0,hw0⟩:∃ w0,(w.alloc (.cells #[.string (str a.who),.string (str a.mtch),.int .i64 a.exp,.bool a.has,.string (str a.doc.ent),.slice At a.doc.tups.length ct,.slice An a.doc.notes.length cn,.string (str a.tag)] 86)).alloc (.cells #[.int .i64 0,.int .i64 0,.string ⟨#[]⟩,.bool false] 83)=w0:=⟨_,rfl⟩
 have hb0:Below w.heap.size w w0:=hw0▸((Below.refl _ _).alloc (Nat.le_refl _) _).alloc (by simp) _
 have hs0:w0.heap.size=w.heap.size+2:=hw0▸(by simp)
 have hka:Blk w0 w.heap.size 86 #[.string (str a.who),.string (str a.mtch),.int .i64 a.exp,.bool a.has,.string (str a.doc.ent),.slice At a.doc.tups.length ct,.slice An a.doc.notes.length cn,.string (str a.tag)]:=hw0▸(Blk.new w _ _).alloc _
 have hkb:Blk w0 (w.heap.size+1) 83 #[.int .i64 0,.int .i64 0,.string ⟨#[]⟩,.bool false]:=hw0▸Blk.new' _ _ _ (by simp)
 have R0:=HI.raw.below hb0
 have HB0:=hid hb0
 have HSZ:=hid hs0
 have HMD:Hid (Calls Tryz.prog 33 #[.pointer (some ⟨p,0,none⟩)] w0 fun e w'=>e=.returned (.bool true)/\w0=w'):=hid (bmade_any R0.top)
 have HTK:Hid (∀ W,Calls Tryz.prog 46 #[.string (str a.tag)] W fun e w'=>e=.returned (.bool true)/\W=w'):=hid (fun W=>by
  have h9:=token_any a.tag W (by have:=hs.tag;omega)
  rw [HARG.out.2.2.1] at h9
  exact h9)
 have HCK:Hid (a.has=true->∀ W,Below w0.heap.size w0 W->Calls Tryz.prog 47 #[.agg #[.string (str a.doc.ent),.slice At a.doc.tups.length ct,.slice An a.doc.notes.length cn]] W fun e w'=>e=.returned (.int .i64 0)/\Below W.heap.size W w'):=hid (fun hh W hW=>by
  have h9:=check_any (B:=B) (Nat.le_trans hB (Nat.le_trans hb0.size hW.size)) ((hd.below (hb0.mono hB)).below (hW.mono (Nat.le_trans hB hb0.size))) hs.doc (he hh)
  rw [HARG.out.2.2.2.2 hh] at h9
  exact h9)
 have HC:Hid (∀ W,Below w0.heap.size w0 W->W.cell? ⟨p,9,none⟩=some (.map (some bt))/\W.cell? ⟨w.heap.size,3,none⟩=some (.bool a.has)/\W.cell? ⟨w.heap.size,4,none⟩=some (.string (str a.doc.ent))/\W.cell? ⟨w.heap.size,5,none⟩=some (.slice At a.doc.tups.length ct)/\W.cell? ⟨w.heap.size,6,none⟩=some (.slice An a.doc.notes.length cn)/\W.cell? ⟨w.heap.size,7,none⟩=some (.string (str a.tag))):=hid (fun W hW=>by
  have k:=(R0.below hW).top
  have k2:=hka.fr (Fr.of_below (F:=fun _=>False) hW) (fun h=>h)
  exact ⟨k.cell 9,k2.cell 3,k2.cell 4,k2.cell 5,k2.cell 6,k2.cell 7⟩)
 have HKA:Hid (∀ W,Below w0.heap.size w0 W->Blk W w.heap.size 86 #[.string (str a.who),.string (str a.mtch),.int .i64 a.exp,.bool a.has,.string (str a.doc.ent),.slice At a.doc.tups.length ct,.slice An a.doc.notes.length cn,.string (str a.tag)]):=hid (fun W hW=>hka.fr (Fr.of_below (F:=fun _=>False) hW) (fun h=>h))
 have HKT:Hid (∀ W,Below w0.heap.size w0 W->Blk W (w.heap.size+1) 83 #[.int .i64 0,.int .i64 0,.string ⟨#[]⟩,.bool false]):=hid (fun W hW=>hkb.fr (Fr.of_below (F:=fun _=>False) hW) (fun h=>h))
 have HV:Hid (∀ n,(Instr.lookup 52 (.map (some bt)) (.string (str a.tag)) false).run Tryz.prog (w0.drewN n)=.ok (.int .i64 0) (w0.drewN n)):=hid (by
  rcases tag_in HI Q a.tag with ⟨hin,_⟩|⟨hno,hg⟩
  .exact absurd hin HARG.out.2.2.2.1
  .exact fun n=>tag_look (R0.tm.drewN n) _ (.inr ⟨hg,rfl⟩))
 have HALL:Hid (∀ W,Below w0.heap.size w0 W->(W.cell? ⟨p,0,none⟩=some (.string (str c.host))/\W.cell? ⟨p,1,none⟩=some (.int .i64 c.calls)/\W.cell? ⟨p,2,none⟩=some (.int .i64 c.pubs)/\W.cell? ⟨p,3,none⟩=some (.int .i64 c.subs)/\W.cell? ⟨p,4,none⟩=some (.int .i64 c.least)/\W.cell? ⟨p,5,none⟩=some (.int .i64 c.most)/\W.cell? ⟨p,6,none⟩=some (.int .i64 c.usual)/\W.cell? ⟨p,8,none⟩=some (.map (some bl))/\W.cell? ⟨p,9,none⟩=some (.map (some bt)))/\(W.cell? ⟨w.heap.size,0,none⟩=some (.string (str a.who))/\W.cell? ⟨w.heap.size,1,none⟩=some (.string (str a.mtch))/\W.cell? ⟨w.heap.size,2,none⟩=some (.int .i64 a.exp)/\W.cell? ⟨w.heap.size,3,none⟩=some (.bool a.has)/\W.cell? ⟨w.heap.size,7,none⟩=some (.string (str a.tag)))):=hid (fun W hW=>by
  have k:=(R0.below hW).top
  have k2:=hka.fr (Fr.of_below (F:=fun _=>False) hW) (fun h=>h)
  exact ⟨⟨k.cell 0,k.cell 1,k.cell 2,k.cell 3,k.cell 4,k.cell 5,k.cell 6,k.cell 8,k.cell 9⟩,k2.cell 0,k2.cell 1,k2.cell 2,k2.cell 3,k2.cell 7⟩)
 have HFIN:Hid (∀ W,Below w0.heap.size w0 W->∀ (n x:Int) (tg:T) (s:ByteArray) (b:Bool) (er:Int),str tg=s->doR c last (xs.map (·.p)) now a=⟨last,xs.map (·.p),⟨n,x,tg,b⟩,er⟩->((((W.setCell ⟨w.heap.size+1,0,none⟩ (.int .i64 n)).setCell ⟨w.heap.size+1,1,none⟩ (.int .i64 x)).setCell ⟨w.heap.size+1,2,none⟩ (.string s)).setCell ⟨w.heap.size+1,3,none⟩ (.bool b)).cell? ⟨w.heap.size+1,0,none⟩=some (.int .i64 n)/\((((W.setCell ⟨w.heap.size+1,0,none⟩ (.int .i64 n)).setCell ⟨w.heap.size+1,1,none⟩ (.int .i64 x)).setCell ⟨w.heap.size+1,2,none⟩ (.string s)).setCell ⟨w.heap.size+1,3,none⟩ (.bool b)).cell? ⟨w.heap.size+1,1,none⟩=some (.int .i64 x)/\((((W.setCell ⟨w.heap.size+1,0,none⟩ (.int .i64 n)).setCell ⟨w.heap.size+1,1,none⟩ (.int .i64 x)).setCell ⟨w.heap.size+1,2,none⟩ (.string s)).setCell ⟨w.heap.size+1,3,none⟩ (.bool b)).cell? ⟨w.heap.size+1,2,none⟩=some (.string s)/\((((W.setCell ⟨w.heap.size+1,0,none⟩ (.int .i64 n)).setCell ⟨w.heap.size+1,1,none⟩ (.int .i64 x)).setCell ⟨w.heap.size+1,2,none⟩ (.string s)).setCell ⟨w.heap.size+1,3,none⟩ (.bool b)).cell? ⟨w.heap.size+1,3,none⟩=some (.bool b)/\DoPost p c F (doR c last (xs.map (·.p)) now a) w (.returned (.tuple #[.agg #[.int .i64 n,.int .i64 x,.string s,.bool b],.int .i64 er])) ((((W.setCell ⟨w.heap.size+1,0,none⟩ (.int .i64 n)).setCell ⟨w.heap.size+1,1,none⟩ (.int .i64 x)).setCell ⟨w.heap.size+1,2,none⟩ (.string s)).setCell ⟨w.heap.size+1,3,none⟩ (.bool b))):=hid (fun W hW n x tg s b er hs ht=>by
  subst hs
  obtain ⟨q0,q1,q2,q3⟩:=four_c (hkb.fr (Fr.of_below (F:=fun _=>False) hW) (fun h=>h)) (.int .i64 n) (.int .i64 x) (.string (str tg)) (.bool b)
  exact ⟨q0,q1,q2,q3,do_same HS0.out ht (four_fr (thenB_ hb0 hW) (by omega) _ _ _ _)⟩)
 have HL1:Hid (∀ W,Below w0.heap.size w0 W->∀ n,(Instr.lookup 52 (.map (some bt)) (.string (str a.mtch)) false).run Tryz.prog (W.drewN n)=.ok (.int .i64 z.p.number) (W.drewN n)):=hid (fun W hW n=>by
  rw [<-hpt]
  exact tag_look ((R0.below hW).tm.drewN n) _ (.inl (HI.gett Q.tags hz)))
 have HL2:Hid (∀ W,Below w0.heap.size w0 W->∀ n,(Instr.lookup 51 (.map (some bl)) (.int .i64 z.p.number) true).run Tryz.prog (W.drewN n)=.ok (.tuple #[.pointer (some ⟨z.b,0,none⟩),.bool true]) (W.drewN n)):=hid (fun W hW n=>(live_look ((R0.below hW).lm.drewN n) _).2 _ (HI.getl (pubs_idnd Q.ids) hz))
 have HZ:Hid (∀ W,Below w0.heap.size w0 W->Blk W z.b 66 (pubA z)):=hid (fun W hW=>(HI.its z hz).fr (Fr.of_below (F:=fun _=>False) (thenB_ hb0 hW)) (fun h=>h))
 have qe:=str_emp hm
 have qw1:((str z.p.who).toList == (str a.who).toList)=true:=by rw [hw];exact beq_self_eq_true _
 have qw2:(str z.p.who).toList=(str a.who).toList:=by rw [hw]
 have qw3:((str z.p.who).toList != (str a.who).toList)=false:=by rw [hw];simp
 have HSEC:=hid (sec_call c a.exp)
 have HC10:Hid (∀ W,Below w0.heap.size w0 W->W.cell? ⟨p,0,none⟩=some (.string (str c.host))/\W.cell? ⟨p,1,none⟩=some (.int .i64 c.calls)/\W.cell? ⟨p,2,none⟩=some (.int .i64 c.pubs)/\W.cell? ⟨p,3,none⟩=some (.int .i64 c.subs)/\W.cell? ⟨p,4,none⟩=some (.int .i64 c.least)/\W.cell? ⟨p,5,none⟩=some (.int .i64 c.most)/\W.cell? ⟨p,6,none⟩=some (.int .i64 c.usual)/\W.cell? ⟨w.heap.size,2,none⟩=some (.int .i64 a.exp)):=hid (fun W hW=>by
  obtain ⟨⟨x0,x1,x2,x3,x4,x5,x6,_⟩,_,_,y2,_⟩:=HALL.out W hW
  exact ⟨x0,x1,x2,x3,x4,x5,x6,y2⟩)
 have HBR:Hid (∀ W,Below w0.heap.size w0 W->Calls Tryz.prog 49 #[.pointer (some ⟨p,0,none⟩)] W fun e w'=>e=.returned (.agg #[.int .i64 423,.int .i64 c.least,.string ⟨#[]⟩,.bool false])/\Below W.heap.size W w'):=hid (fun W hW=>brief_any (R0.below hW).top)
 have hd1:decide (now<0)=false:=decide_eq_false (by have:=HARG.out.1;omega)
 have hd2:decide (549755813888<now)=false:=decide_eq_false (by have:=HARG.out.2.1;omega)
 have hd3:decide (now > 549755813888)=false:=hd2
 have hlk:=HV.out
 have HX0:Hid (Below w0.heap.size w0 w0):=hid (Below.refl _ _)
 have HX0d:Hid (Below w0.heap.size w0 w0.drew):=hid (Below.refl _ _).drew
 obtain ⟨x9,y3,y4,y5,y6,y7⟩:=HC.out w0 (Below.refl _ _)
 clear h hm HI Q R0 hd hka hkb hb0 hs he hB hs0 hla hFB hnum hp0 hpt hw
 generalize hDO:doR c last (xs.map (·.p)) now a=DO at *
 have HDO:=hid hDO
 clear hDO
 generalize hN:secN c a.exp=N at *
 generalize hK:secK c a.exp=K at *
 have HNK:=hid (And.intro hN hK)
 clear hN hK
 subst hk
 generalize hhas:a.has=hs at *
 have HHS:=hid hhas
 clear hhas
 cases hs with
 | false =>
   go_enter Tryz.func32,Tryz.ntmps32
   go_wp2_with fail
   refine (HMD.out).mono ?_
   rintro e w1 ⟨rfl,rfl⟩
   go_wp2_with fail
   go_quiet ((go_at_call 46;exact (HTK.out _).mono (fun _ _ ⟨he,hw⟩=>⟨he,_,hw.symm⟩)))
   have hx3:=below_drewN HX0.out nq
   generalize hw3:w0.drewN nq=w3 at *
   have HX3:=hid hx3
   clear hw3 hx3 x9 y3 y4 y5 y6 y7
   obtain ⟨⟨x0,x1,x2,x3,x4,x5,x6,x8,x9⟩,y0,y1,y2,y3,y7⟩:=HALL.out w3 HX3.out
   have hl1:=HL1.out w3 HX3.out
   have hl2:=HL2.out w3 HX3.out
   go_wp2_with fail
   go_quiet (fail)
   have hx4:=below_drewN HX3.out nq
   generalize hw4:w3.drewN nq=w4 at *
   have HX4:=hid hx4
   clear hw4 hx4
   clear hl1 hl2
   clear x0 x1 x2 x3 x4 x5 x6 x8 x9 y0 y1 y2 y3 y7
   obtain ⟨⟨x0,x1,x2,x3,x4,x5,x6,x8,x9⟩,y0,y1,y2,y3,y7⟩:=HALL.out w4 HX4.out
   have b1:w4.cell? ⟨z.b,1,none⟩=some (.string (str z.p.who)):=(HZ.out w4 HX4.out).cell 1
   go_wp2_with fail
   go_quiet (fail)
   have hx5:=below_drewN HX4.out nq
   generalize hw5:w4.drewN nq=w5 at *
   have HX5:=hid hx5
   clear hw5 hx5
   clear b1
   clear x0 x1 x2 x3 x4 x5 x6 x8 x9 y0 y1 y2 y3 y7
   have HX5d:Hid (Below w0.heap.size w0 w5.drew):=hid HX5.out.drew
   obtain ⟨x0,x1,x2,x3,x4,x5,x6,y2⟩:=HC10.out w5 HX5.out
   go_wp2_with fail
   go_region_held3 (fun w'=>w'.cell? ⟨p,0,none⟩=some (.string (str c.host))/\w'.cell? ⟨p,1,none⟩=some (.int .i64 c.calls)/\w'.cell? ⟨p,2,none⟩=some (.int .i64 c.pubs)/\w'.cell? ⟨p,3,none⟩=some (.int .i64 c.subs)/\w'.cell? ⟨p,4,none⟩=some (.int .i64 c.least)/\w'.cell? ⟨p,5,none⟩=some (.int .i64 c.most)/\w'.cell? ⟨p,6,none⟩=some (.int .i64 c.usual)/\w'.cell? ⟨w.heap.size,2,none⟩=some (.int .i64 a.exp))
    (first|exact HC10.out _ HX6.out|exact HC10.out _ HX5d.out) (first|(go_at_call 30;(with_reducible refine (HSEC.out _).mono ?_);rintro e w6 ⟨rfl,hb6⟩;have HX6:Hid (Below w0.heap.size w0 w6):=hid (thenB_ HX5d.out hb6);clear hb6))
   clear x0 x1 x2 x3 x4 x5 x6 y2
   go_wp2_with fail
   refine (HBR.out _ HX6.out).mono ?_
   rintro e w7 ⟨rfl,hb7⟩
   have HX7:=hid (thenB_ HX6.out hb7)
   clear hb7
   have kt9:=HKT.out w7 HX7.out
   have t0:=kt9.cell 0
   have t1:=kt9.cell 1
   have t2:=kt9.cell 2
   have t3:=kt9.cell 3
   have f0:=kt9.frozen 0
   have f1:=kt9.frozen 1
   have f2:=kt9.frozen 2
   have f3:=kt9.frozen 3
   clear kt9
   go_wp2
   obtain ⟨q0,q1,q2,q3,HP⟩:=HFIN.out w7 HX7.out 423 c.least [] ⟨#[]⟩ false 0 rfl HRES.out
   exact bodyPost_ret (v:=.tuple #[.agg #[.int .i64 423,.int .i64 c.least,.string ⟨#[]⟩,.bool false],.int .i64 0]) (by simp [results,Tryz.results32,go_sem,q0,q1,q2,q3]) rfl HP
 | true =>
   have HCK2:=hid (HCK.out (by simp))
   have hlk1:=HV.out 1
   have hlk2:(Instr.lookup 52 (.map (some bt)) (.string (str a.tag)) false).run Tryz.prog w0.drew=.ok (.int .i64 0) w0.drew:=hlk1
   clear hlk HV HCK
   go_enter Tryz.func32,Tryz.ntmps32
   go_wp2_with fail
   refine (HMD.out).mono ?_
   rintro e w1 ⟨rfl,rfl⟩
   go_wp2_with fail
   go_region_held3 (fun w'=>w'.cell? ⟨p,9,none⟩=some (.map (some bt))/\w'.cell? ⟨w.heap.size,3,none⟩=some (.bool true)/\w'.cell? ⟨w.heap.size,4,none⟩=some (.string (str a.doc.ent))/\w'.cell? ⟨w.heap.size,5,none⟩=some (.slice At a.doc.tups.length ct)/\w'.cell? ⟨w.heap.size,6,none⟩=some (.slice An a.doc.notes.length cn)/\w'.cell? ⟨w.heap.size,7,none⟩=some (.string (str a.tag)))
    (first|exact HC.out _ HX3.out|exact HC.out _ HX0d.out) (first|(go_at_call 46;(with_reducible refine (HTK.out _).mono ?_);rintro e w3 ⟨rfl,rfl⟩)|(go_at_call 47;(with_reducible refine (HCK2.out _ HX0d.out).mono ?_);rintro e w3 ⟨rfl,hb3⟩;have HX3:Hid (Below w0.heap.size w0 w3):=hid (thenB_ HX0d.out hb3);clear hb3))
   clear x9 y3 y4 y5 y6 y7
   obtain ⟨⟨x0,x1,x2,x3,x4,x5,x6,x8,x9⟩,y0,y1,y2,y3,y7⟩:=HALL.out w3 HX3.out
   have hl1:=HL1.out w3 HX3.out
   have hl2:=HL2.out w3 HX3.out
   go_wp2_with fail
   go_quiet (fail)
   have hx4:=below_drewN HX3.out nq
   generalize hw4:w3.drewN nq=w4 at *
   have HX4:=hid hx4
   clear hw4 hx4
   clear hl1 hl2
   clear x0 x1 x2 x3 x4 x5 x6 x8 x9 y0 y1 y2 y3 y7
   obtain ⟨⟨x0,x1,x2,x3,x4,x5,x6,x8,x9⟩,y0,y1,y2,y3,y7⟩:=HALL.out w4 HX4.out
   have b1:w4.cell? ⟨z.b,1,none⟩=some (.string (str z.p.who)):=(HZ.out w4 HX4.out).cell 1
   go_wp2_with fail
   go_quiet (fail)
   have hx5:=below_drewN HX4.out nq
   generalize hw5:w4.drewN nq=w5 at *
   have HX5:=hid hx5
   clear hw5 hx5
   clear b1
   clear x0 x1 x2 x3 x4 x5 x6 x8 x9 y0 y1 y2 y3 y7
   have HX5d:Hid (Below w0.heap.size w0 w5.drew):=hid HX5.out.drew
   obtain ⟨x0,x1,x2,x3,x4,x5,x6,y2⟩:=HC10.out w5 HX5.out
   go_wp2_with fail
   go_region_held3 (fun w'=>w'.cell? ⟨p,0,none⟩=some (.string (str c.host))/\w'.cell? ⟨p,1,none⟩=some (.int .i64 c.calls)/\w'.cell? ⟨p,2,none⟩=some (.int .i64 c.pubs)/\w'.cell? ⟨p,3,none⟩=some (.int .i64 c.subs)/\w'.cell? ⟨p,4,none⟩=some (.int .i64 c.least)/\w'.cell? ⟨p,5,none⟩=some (.int .i64 c.most)/\w'.cell? ⟨p,6,none⟩=some (.int .i64 c.usual)/\w'.cell? ⟨w.heap.size,2,none⟩=some (.int .i64 a.exp))
    (first|exact HC10.out _ HX6.out|exact HC10.out _ HX5d.out) (first|(go_at_call 30;(with_reducible refine (HSEC.out _).mono ?_);rintro e w6 ⟨rfl,hb6⟩;have HX6:Hid (Below w0.heap.size w0 w6):=hid (thenB_ HX5d.out hb6);clear hb6))
   clear x0 x1 x2 x3 x4 x5 x6 y2
   go_wp2_with fail
   refine (HBR.out _ HX6.out).mono ?_
   rintro e w7 ⟨rfl,hb7⟩
   have HX7:=hid (thenB_ HX6.out hb7)
   clear hb7
   have kt9:=HKT.out w7 HX7.out
   have t0:=kt9.cell 0
   have t1:=kt9.cell 1
   have t2:=kt9.cell 2
   have t3:=kt9.cell 3
   have f0:=kt9.frozen 0
   have f1:=kt9.frozen 1
   have f2:=kt9.frozen 2
   have f3:=kt9.frozen 3
   clear kt9
   go_wp2
   obtain ⟨q0,q1,q2,q3,HP⟩:=HFIN.out w7 HX7.out 423 c.least [] ⟨#[]⟩ false 0 rfl HRES.out
   exact bodyPost_ret (v:=.tuple #[.agg #[.int .i64 423,.int .i64 c.least,.string ⟨#[]⟩,.bool false],.int .i64 0]) (by simp [results,Tryz.results32,go_sem,q0,q1,q2,q3]) rfl HP
set_option maxRecDepth 100000 in
set_option maxHeartbeats 8000000 in
theorem do_bad {w:World} {p B:Nat} {c:Conf} {last now:Int} {L:List Pub} {F:Nat->Prop} {a:AskP} {At An:Option Addr} {ct cn:Nat} (H:St w p c last L F) (hB:B<=w.heap.size) (hd:DocB w B a.doc (.slice At a.doc.tups.length ct) (.slice An a.doc.notes.length cn)) (hs:AskS a) (he:a.has=true->a.doc.ent.length<=99999990) (h:argE L now a=false) (hm:a.mtch≠[]) {p0:Pub} (hp0:p0∈L) (hpt:p0.tag=a.mtch) (hw:p0.who=a.who) (hk:secK c a.exp=true) (hh:a.has=true) (hN0:secN c a.exp=0) (hla:last<=1000000) (hFB:∀ k,F k->B<=k) :
 Calls Tryz.prog 32 #[.pointer (some ⟨p,0,none⟩),.int .i64 now,.agg #[.string (str a.who),.string (str a.mtch),.int .i64 a.exp,.bool a.has,.string (str a.doc.ent),.slice At a.doc.tups.length ct,.slice An a.doc.notes.length cn,.string (str a.tag)]] w (DoPost p c F (doR c last L now a) w):=by
 have HARG:=hid (argE_no h)
 have HS0:=hid H
 have hnum:(L.map (·.number)).Nodup/\(L.map (·.tag)).Nodup:=by
  obtain ⟨xs,l,bl,bt,pw,kl,kt,FW,rfl,HI,Q⟩:=H
  exact ⟨pubs_idnd Q.ids,Q.tags⟩
 have HRES:Hid (doR c last L now a=⟨last,L,⟨400,0,[],false⟩,0⟩):=hid (doR_old2 h hm hnum.2 hp0 hpt hw hk hh hN0)
 obtain ⟨xs,l,bl,bt,pw,kl,kt,FW,rfl,HI,Q⟩:=H
 obtain ⟨z,hz,rfl⟩:=List.mem_map.1 hp0
 obtain ⟨w0,hw0⟩:∃ w0,(w.alloc (.cells #[.string (str a.who),.string (str a.mtch),.int .i64 a.exp,.bool a.has,.string (str a.doc.ent),.slice At a.doc.tups.length ct,.slice An a.doc.notes.length cn,.string (str a.tag)] 86)).alloc (.cells #[.int .i64 0,.int .i64 0,.string ⟨#[]⟩,.bool false] 83)=w0:=⟨_,rfl⟩
 have hb0:Below w.heap.size w w0:=hw0▸((Below.refl _ _).alloc (Nat.le_refl _) _).alloc (by simp) _
 have hs0:w0.heap.size=w.heap.size+2:=hw0▸(by simp)
 have hka:Blk w0 w.heap.size 86 #[.string (str a.who),.string (str a.mtch),.int .i64 a.exp,.bool a.has,.string (str a.doc.ent),.slice At a.doc.tups.length ct,.slice An a.doc.notes.length cn,.string (str a.tag)]:=hw0▸(Blk.new w _ _).alloc _
 have hkb:Blk w0 (w.heap.size+1) 83 #[.int .i64 0,.int .i64 0,.string ⟨#[]⟩,.bool false]:=hw0▸Blk.new' _ _ _ (by simp)
 have R0:=HI.raw.below hb0
 have HB0:=hid hb0
 have HSZ:=hid hs0
 have HMD:Hid (Calls Tryz.prog 33 #[.pointer (some ⟨p,0,none⟩)] w0 fun e w'=>e=.returned (.bool true)/\w0=w'):=hid (bmade_any R0.top)
 have HTK:Hid (∀ W,Calls Tryz.prog 46 #[.string (str a.tag)] W fun e w'=>e=.returned (.bool true)/\W=w'):=hid (fun W=>by
  have h9:=token_any a.tag W (by have:=hs.tag;omega)
  rw [HARG.out.2.2.1] at h9
  exact h9)
 have HCK:Hid (a.has=true->∀ W,Below w0.heap.size w0 W->Calls Tryz.prog 47 #[.agg #[.string (str a.doc.ent),.slice At a.doc.tups.length ct,.slice An a.doc.notes.length cn]] W fun e w'=>e=.returned (.int .i64 0)/\Below W.heap.size W w'):=hid (fun hh W hW=>by
  have h9:=check_any (B:=B) (Nat.le_trans hB (Nat.le_trans hb0.size hW.size)) ((hd.below (hb0.mono hB)).below (hW.mono (Nat.le_trans hB hb0.size))) hs.doc (he hh)
  rw [HARG.out.2.2.2.2 hh] at h9
  exact h9)
 have HC:Hid (∀ W,Below w0.heap.size w0 W->W.cell? ⟨p,9,none⟩=some (.map (some bt))/\W.cell? ⟨w.heap.size,3,none⟩=some (.bool a.has)/\W.cell? ⟨w.heap.size,4,none⟩=some (.string (str a.doc.ent))/\W.cell? ⟨w.heap.size,5,none⟩=some (.slice At a.doc.tups.length ct)/\W.cell? ⟨w.heap.size,6,none⟩=some (.slice An a.doc.notes.length cn)/\W.cell? ⟨w.heap.size,7,none⟩=some (.string (str a.tag))):=hid (fun W hW=>by
  have k:=(R0.below hW).top
  have k2:=hka.fr (Fr.of_below (F:=fun _=>False) hW) (fun h=>h)
  exact ⟨k.cell 9,k2.cell 3,k2.cell 4,k2.cell 5,k2.cell 6,k2.cell 7⟩)
 have HKA:Hid (∀ W,Below w0.heap.size w0 W->Blk W w.heap.size 86 #[.string (str a.who),.string (str a.mtch),.int .i64 a.exp,.bool a.has,.string (str a.doc.ent),.slice At a.doc.tups.length ct,.slice An a.doc.notes.length cn,.string (str a.tag)]):=hid (fun W hW=>hka.fr (Fr.of_below (F:=fun _=>False) hW) (fun h=>h))
 have HKT:Hid (∀ W,Below w0.heap.size w0 W->Blk W (w.heap.size+1) 83 #[.int .i64 0,.int .i64 0,.string ⟨#[]⟩,.bool false]):=hid (fun W hW=>hkb.fr (Fr.of_below (F:=fun _=>False) hW) (fun h=>h))
 have HV:Hid (∀ n,(Instr.lookup 52 (.map (some bt)) (.string (str a.tag)) false).run Tryz.prog (w0.drewN n)=.ok (.int .i64 0) (w0.drewN n)):=hid (by
  rcases tag_in HI Q a.tag with ⟨hin,_⟩|⟨hno,hg⟩
  .exact absurd hin HARG.out.2.2.2.1
  .exact fun n=>tag_look (R0.tm.drewN n) _ (.inr ⟨hg,rfl⟩))
 have HALL:Hid (∀ W,Below w0.heap.size w0 W->(W.cell? ⟨p,0,none⟩=some (.string (str c.host))/\W.cell? ⟨p,1,none⟩=some (.int .i64 c.calls)/\W.cell? ⟨p,2,none⟩=some (.int .i64 c.pubs)/\W.cell? ⟨p,3,none⟩=some (.int .i64 c.subs)/\W.cell? ⟨p,4,none⟩=some (.int .i64 c.least)/\W.cell? ⟨p,5,none⟩=some (.int .i64 c.most)/\W.cell? ⟨p,6,none⟩=some (.int .i64 c.usual)/\W.cell? ⟨p,8,none⟩=some (.map (some bl))/\W.cell? ⟨p,9,none⟩=some (.map (some bt)))/\(W.cell? ⟨w.heap.size,0,none⟩=some (.string (str a.who))/\W.cell? ⟨w.heap.size,1,none⟩=some (.string (str a.mtch))/\W.cell? ⟨w.heap.size,2,none⟩=some (.int .i64 a.exp)/\W.cell? ⟨w.heap.size,3,none⟩=some (.bool a.has)/\W.cell? ⟨w.heap.size,7,none⟩=some (.string (str a.tag)))):=hid (fun W hW=>by
  have k:=(R0.below hW).top
  have k2:=hka.fr (Fr.of_below (F:=fun _=>False) hW) (fun h=>h)
  exact ⟨⟨k.cell 0,k.cell 1,k.cell 2,k.cell 3,k.cell 4,k.cell 5,k.cell 6,k.cell 8,k.cell 9⟩,k2.cell 0,k2.cell 1,k2.cell 2,k2.cell 3,k2.cell 7⟩)
 have HFIN:Hid (∀ W,Below w0.heap.size w0 W->∀ (n x:Int) (tg:T) (s:ByteArray) (b:Bool) (er:Int),str tg=s->doR c last (xs.map (·.p)) now a=⟨last,xs.map (·.p),⟨n,x,tg,b⟩,er⟩->((((W.setCell ⟨w.heap.size+1,0,none⟩ (.int .i64 n)).setCell ⟨w.heap.size+1,1,none⟩ (.int .i64 x)).setCell ⟨w.heap.size+1,2,none⟩ (.string s)).setCell ⟨w.heap.size+1,3,none⟩ (.bool b)).cell? ⟨w.heap.size+1,0,none⟩=some (.int .i64 n)/\((((W.setCell ⟨w.heap.size+1,0,none⟩ (.int .i64 n)).setCell ⟨w.heap.size+1,1,none⟩ (.int .i64 x)).setCell ⟨w.heap.size+1,2,none⟩ (.string s)).setCell ⟨w.heap.size+1,3,none⟩ (.bool b)).cell? ⟨w.heap.size+1,1,none⟩=some (.int .i64 x)/\((((W.setCell ⟨w.heap.size+1,0,none⟩ (.int .i64 n)).setCell ⟨w.heap.size+1,1,none⟩ (.int .i64 x)).setCell ⟨w.heap.size+1,2,none⟩ (.string s)).setCell ⟨w.heap.size+1,3,none⟩ (.bool b)).cell? ⟨w.heap.size+1,2,none⟩=some (.string s)/\((((W.setCell ⟨w.heap.size+1,0,none⟩ (.int .i64 n)).setCell ⟨w.heap.size+1,1,none⟩ (.int .i64 x)).setCell ⟨w.heap.size+1,2,none⟩ (.string s)).setCell ⟨w.heap.size+1,3,none⟩ (.bool b)).cell? ⟨w.heap.size+1,3,none⟩=some (.bool b)/\DoPost p c F (doR c last (xs.map (·.p)) now a) w (.returned (.tuple #[.agg #[.int .i64 n,.int .i64 x,.string s,.bool b],.int .i64 er])) ((((W.setCell ⟨w.heap.size+1,0,none⟩ (.int .i64 n)).setCell ⟨w.heap.size+1,1,none⟩ (.int .i64 x)).setCell ⟨w.heap.size+1,2,none⟩ (.string s)).setCell ⟨w.heap.size+1,3,none⟩ (.bool b))):=hid (fun W hW n x tg s b er hs ht=>by
  subst hs
  obtain ⟨q0,q1,q2,q3⟩:=four_c (hkb.fr (Fr.of_below (F:=fun _=>False) hW) (fun h=>h)) (.int .i64 n) (.int .i64 x) (.string (str tg)) (.bool b)
  exact ⟨q0,q1,q2,q3,do_same HS0.out ht (four_fr (thenB_ hb0 hW) (by omega) _ _ _ _)⟩)
 have HL1:Hid (∀ W,Below w0.heap.size w0 W->∀ n,(Instr.lookup 52 (.map (some bt)) (.string (str a.mtch)) false).run Tryz.prog (W.drewN n)=.ok (.int .i64 z.p.number) (W.drewN n)):=hid (fun W hW n=>by
  rw [<-hpt]
  exact tag_look ((R0.below hW).tm.drewN n) _ (.inl (HI.gett Q.tags hz)))
 have HL2:Hid (∀ W,Below w0.heap.size w0 W->∀ n,(Instr.lookup 51 (.map (some bl)) (.int .i64 z.p.number) true).run Tryz.prog (W.drewN n)=.ok (.tuple #[.pointer (some ⟨z.b,0,none⟩),.bool true]) (W.drewN n)):=hid (fun W hW n=>(live_look ((R0.below hW).lm.drewN n) _).2 _ (HI.getl (pubs_idnd Q.ids) hz))
 have HZ:Hid (∀ W,Below w0.heap.size w0 W->Blk W z.b 66 (pubA z)):=hid (fun W hW=>(HI.its z hz).fr (Fr.of_below (F:=fun _=>False) (thenB_ hb0 hW)) (fun h=>h))
 have qe:=str_emp hm
 have qw1:((str z.p.who).toList == (str a.who).toList)=true:=by rw [hw];exact beq_self_eq_true _
 have qw2:(str z.p.who).toList=(str a.who).toList:=by rw [hw]
 have qw3:((str z.p.who).toList != (str a.who).toList)=false:=by rw [hw];simp
 have HSEC:=hid (sec_call c a.exp)
 have HC10:Hid (∀ W,Below w0.heap.size w0 W->W.cell? ⟨p,0,none⟩=some (.string (str c.host))/\W.cell? ⟨p,1,none⟩=some (.int .i64 c.calls)/\W.cell? ⟨p,2,none⟩=some (.int .i64 c.pubs)/\W.cell? ⟨p,3,none⟩=some (.int .i64 c.subs)/\W.cell? ⟨p,4,none⟩=some (.int .i64 c.least)/\W.cell? ⟨p,5,none⟩=some (.int .i64 c.most)/\W.cell? ⟨p,6,none⟩=some (.int .i64 c.usual)/\W.cell? ⟨w.heap.size,2,none⟩=some (.int .i64 a.exp)):=hid (fun W hW=>by
  obtain ⟨⟨x0,x1,x2,x3,x4,x5,x6,_⟩,_,_,y2,_⟩:=HALL.out W hW
  exact ⟨x0,x1,x2,x3,x4,x5,x6,y2⟩)
 have hd1:decide (now<0)=false:=decide_eq_false (by have:=HARG.out.1;omega)
 have hd2:decide (549755813888<now)=false:=decide_eq_false (by have:=HARG.out.2.1;omega)
 have hd3:decide (now > 549755813888)=false:=hd2
 have hlk:=HV.out
 have HX0:Hid (Below w0.heap.size w0 w0):=hid (Below.refl _ _)
 have HX0d:Hid (Below w0.heap.size w0 w0.drew):=hid (Below.refl _ _).drew
 obtain ⟨x9,y3,y4,y5,y6,y7⟩:=HC.out w0 (Below.refl _ _)
 clear h hm HI Q R0 hd hka hkb hb0 hs he hB hs0 hla hFB hnum hp0 hpt hw
 generalize hDO:doR c last (xs.map (·.p)) now a=DO at *
 have HDO:=hid hDO
 clear hDO
 generalize hN:secN c a.exp=N at *
 generalize hK:secK c a.exp=K at *
 have HNK:=hid (And.intro hN hK)
 clear hN hK
 subst hk
 subst hN0
 have HCK3:=hid (HCK.out hh)
 replace HCK:=HCK3
 rw [hh] at HC HKA HALL hw0
 rw [hh]
 have HCK2:=HCK
 have hlk1:=HV.out 1
 have hlk2:(Instr.lookup 52 (.map (some bt)) (.string (str a.tag)) false).run Tryz.prog w0.drew=.ok (.int .i64 0) w0.drew:=hlk1
 clear hlk HV HCK
 go_enter Tryz.func32,Tryz.ntmps32
 go_wp2_with fail
 refine (HMD.out).mono ?_
 rintro e w1 ⟨rfl,rfl⟩
 go_wp2_with fail
 go_region_held3 (fun w'=>w'.cell? ⟨p,9,none⟩=some (.map (some bt))/\w'.cell? ⟨w.heap.size,3,none⟩=some (.bool true)/\w'.cell? ⟨w.heap.size,4,none⟩=some (.string (str a.doc.ent))/\w'.cell? ⟨w.heap.size,5,none⟩=some (.slice At a.doc.tups.length ct)/\w'.cell? ⟨w.heap.size,6,none⟩=some (.slice An a.doc.notes.length cn)/\w'.cell? ⟨w.heap.size,7,none⟩=some (.string (str a.tag)))
  (first|exact HC.out _ HX3.out|exact HC.out _ HX0d.out) (first|(go_at_call 46;(with_reducible refine (HTK.out _).mono ?_);rintro e w3 ⟨rfl,rfl⟩)|(go_at_call 47;(with_reducible refine (HCK2.out _ HX0d.out).mono ?_);rintro e w3 ⟨rfl,hb3⟩;have HX3:Hid (Below w0.heap.size w0 w3):=hid (thenB_ HX0d.out hb3);clear hb3))
 clear x9 y3 y4 y5 y6 y7
 obtain ⟨⟨x0,x1,x2,x3,x4,x5,x6,x8,x9⟩,y0,y1,y2,y3,y7⟩:=HALL.out w3 HX3.out
 have hl1:=HL1.out w3 HX3.out
 have hl2:=HL2.out w3 HX3.out
 go_wp2_with fail
 go_quiet (fail)
 have hx4:=below_drewN HX3.out nq
 generalize hw4:w3.drewN nq=w4 at *
 have HX4:=hid hx4
 clear hw4 hx4
 clear hl1 hl2
 clear x0 x1 x2 x3 x4 x5 x6 x8 x9 y0 y1 y2 y3 y7
 obtain ⟨⟨x0,x1,x2,x3,x4,x5,x6,x8,x9⟩,y0,y1,y2,y3,y7⟩:=HALL.out w4 HX4.out
 have b1:w4.cell? ⟨z.b,1,none⟩=some (.string (str z.p.who)):=(HZ.out w4 HX4.out).cell 1
 go_wp2_with fail
 go_quiet (fail)
 have hx5:=below_drewN HX4.out nq
 generalize hw5:w4.drewN nq=w5 at *
 have HX5:=hid hx5
 clear hw5 hx5
 clear b1
 clear x0 x1 x2 x3 x4 x5 x6 x8 x9 y0 y1 y2 y3 y7
 have HX5d:Hid (Below w0.heap.size w0 w5.drew):=hid HX5.out.drew
 obtain ⟨x0,x1,x2,x3,x4,x5,x6,y2⟩:=HC10.out w5 HX5.out
 go_wp2_with fail
 go_region_held3 (fun w'=>w'.cell? ⟨p,0,none⟩=some (.string (str c.host))/\w'.cell? ⟨p,1,none⟩=some (.int .i64 c.calls)/\w'.cell? ⟨p,2,none⟩=some (.int .i64 c.pubs)/\w'.cell? ⟨p,3,none⟩=some (.int .i64 c.subs)/\w'.cell? ⟨p,4,none⟩=some (.int .i64 c.least)/\w'.cell? ⟨p,5,none⟩=some (.int .i64 c.most)/\w'.cell? ⟨p,6,none⟩=some (.int .i64 c.usual)/\w'.cell? ⟨w.heap.size,2,none⟩=some (.int .i64 a.exp))
  (first|exact HC10.out _ HX6.out|exact HC10.out _ HX5d.out) (first|(go_at_call 30;(with_reducible refine (HSEC.out _).mono ?_);rintro e w6 ⟨rfl,hb6⟩;have HX6:Hid (Below w0.heap.size w0 w6):=hid (thenB_ HX5d.out hb6);clear hb6))
 clear x0 x1 x2 x3 x4 x5 x6 y2
 have y3:=(HKA.out w6 HX6.out).cell 3
 have kt9:=HKT.out w6 HX6.out
 have t0:=kt9.cell 0
 have t1:=kt9.cell 1
 have t2:=kt9.cell 2
 have t3:=kt9.cell 3
 have f0:=kt9.frozen 0
 have f1:=kt9.frozen 1
 have f2:=kt9.frozen 2
 have f3:=kt9.frozen 3
 clear kt9
 go_wp2
 obtain ⟨q0,q1,q2,q3,HP⟩:=HFIN.out w6 HX6.out 400 0 [] ⟨#[]⟩ false 0 rfl HRES.out
 exact bodyPost_ret (v:=.tuple #[.agg #[.int .i64 400,.int .i64 0,.string ⟨#[]⟩,.bool false],.int .i64 0]) (by simp [results,Tryz.results32,go_sem,q0,q1,q2,q3]) rfl HP
section
variable {w w' wA w6 w7 w8 w9:World} {p bl bt pw td:Nat} {c:Conf} {last:Int} {xs:List XP} {L:List Pub} {l:List TM} {F FW G:Nat->Prop} {kl:List (Int × Value)} {kt:List (ByteArray × Value)} {z:XP} {q:Pub} {vt vn:Value}
theorem put_end (H:StI w p c last xs l F bl bt pw kl kt FW) (Q:StQ c last (xs.map (·.p)) l) (hz:z∈xs) (hn:q.number=z.p.number) (ht:q.tag∉(xs.map (·.p)).map (·.tag)) (htk:tokB q.tag=true) (h1:0<=q.until_) (h2:q.until_<=1099511627776) (hdoc:docE q.doc=0)
 (RA:RawS wA p c last bl bt pw kl (mdel (str z.p.tag) kt) l FW) (fA:Fr (fun k=>k=bt\/k=z.b\/w.heap.size<=k) w wA) (hm:DocM wA q.doc vt vn) (hkA:∃ cs,Blk wA z.b 66 cs)
 (hA:ArmPost z.b bt pw z.p.number q.who q.doc.ent vt vn q.tag q.until_ (mdel (str z.p.tag) kt) l FW wA (.returned (.tuple #[])) w8) (f9:Fr (fun k=>k=td) w8 w9) (htd:w.heap.size<=td) (htt:∃ cs,Blk w8 td 83 cs):∃ F',St w9 p c last (setP (xs.map (·.p)) q) F'/\Fr F w w9/\Ext F F' w:=by
 obtain ⟨_,FW',hk8,hm8,hw8,f8,hx8⟩:=hA
 obtain ⟨tcs,htt⟩:=htt
 obtain ⟨acs,hkA⟩:=hkA
 obtain ⟨zp,zl,zt,zlt⟩:=H.ne_x hz
 have plt:=H.top.lt
 have bllt:=H.lm.lt
 have btlt:=H.tm.lt
 have hfz:=H.fwx hz
 have sA:=fA.size
 have hkA':Keeps (fun k=>k=z.b\/k=bt\/FW k) wA:=fun b' ds T fr hb' hT e=>by
  have hT':T≠124/\T≠130/\T≠131/\T≠66:=by rcases hT with rfl|rfl <;> decide
  rcases e with rfl|rfl|e
  .unfold Blk at hkA
   rw [hkA] at hb'
   injection hb' with hb'
   injection hb' with _ hb' _
   exact hT'.2.2.2 hb'.symm
  .obtain ⟨es,n,h,_⟩:=RA.tm
   rw [h] at hb'
   cases hb'
  .exact RA.wh.notT hb' hT'.1 hT'.2.1 hT'.2.2.1 e
 have hd8:=hm.fr f8 hkA'
 have hd9:=hd8.fr f9 (fun b' ds T fr hb' hT e=>by
  subst e
  unfold Blk at htt
  rw [htt] at hb'
  injection hb' with hb'
  injection hb' with _ hb' _
  rcases hT with rfl|rfl <;> exact absurd hb' (by decide))
 have hFW8:∀ k,FW' k->k≠td:=fun k hk e=>by
  subst e
  exact hw8.notT htt (by decide) (by decide) (by decide) hk
 have g:Fr (fun k=>k=bt\/k=z.b\/FW k\/w.heap.size<=k) w w9:=by
  have a1:Fr (fun k=>k=bt\/k=z.b\/FW k\/w.heap.size<=k) w wA:=fA.mono (fun k _ e=>by
   rcases e with e|e|e
   .exact .inl e
   .exact .inr (.inl e)
   .exact .inr (.inr (.inr e)))
  have a2:=a1.trans (G:=fun k=>k=z.b\/k=bt\/FW k) f8 (fun k _ e=>by
   rcases e with e|e|e
   .exact .inr (.inl e)
   .exact .inl e
   .exact .inr (.inr (.inl e)))
  exact a2.trans (G:=fun k=>k=td) f9 (fun k hk e=>.inr (.inr (.inr (by omega))))
 refine stput_end H Q hz hn ht htk h1 h2 hdoc (g.mono fun k hk e=>?_) ((RA.top.fr f8 (by
  rintro (e|e|e)
  .exact zp e.symm
  .exact H.ne_pt e
  .exact H.fwp e)).fr f9 (by omega)) ((RA.lm.fr f8 (by
  rintro (e|e|e)
  .exact zl e.symm
  .exact H.dn e
  .exact H.fl e)).fr f9 (by omega)) ((RA.lb.fr f8 (by
  rintro (e|e|e)
  .exact zl e.symm
  .exact H.dn e
  .exact H.fl e)).fr f9 (by omega)) (hm8.fr f9 (by omega)) (hw8.fr f9 hFW8) (fun k hk=>?_) (vt:=vt) (vn:=vn) ?_ hd9
 .rcases e with e|e|e|e
  .exact .inr (.inr (.inl e))
  .exact .inr (.inr (.inr (.inl e)))
  .exact .inr (.inr (.inr (.inr e)))
  .omega
 .rcases hx8 k hk with e|e
  .exact .inl e
  .exact .inr (by omega)
 .rw [hn]
  exact hk8.fr f9 (by omega)
theorem drop_st (H:StI w p c last xs l F bl bt pw kl kt FW) (Q:StQ c last (xs.map (·.p)) l) (hz:z∈xs) {e:Ending} (h:StDropPost w6 p c last xs z l F bl bt pw kl kt e w7):∃ F',St w7 p c last (dropP (xs.map (·.p)) z.p.number) F'/\Fr F w6 w7/\∀ k,F' k->F k:=by
 obtain ⟨_,F',FW',hs,hf,hk⟩:=h
 exact ⟨F',⟨_,_,_,_,_,_,_,_,dropX_p H.nd (pubs_idnd Q.ids) hz,hs,Q.drop _⟩,hf,hk⟩
theorem RawS.untag (h:RawS w p c last bl bt pw kl kt l FW) (t:T):∃ w',(Builtin.delete_ #[52,9] 0 #[.map (some bt),.string (str t)]).run Tryz.prog w.drew=.ok (.tuple #[]) w'/\RawS w' p c last bl bt pw kl (mdel (str t) kt) l FW/\Fr (fun k=>k=bt) w w':=by
 have h':=h.drew
 obtain ⟨w2,hu,hm2,f2⟩:=h'.tm.delete (strLaw Tryz.underlying9) Tryz.underlying52 (str t) 9 0
 exact ⟨w2,hu,⟨h'.top.fr f2 h.pt,h'.lm.fr f2 h.dn,h'.lb.fr f2 h.dn,hm2,h'.wh.fr f2 (fun k hk e=>h.ft (e▸hk)),h.dn,h.fl,h.ft⟩,⟨f2.os,f2.tape,f2.output,f2.size,f2.block⟩⟩
end
set_option maxRecDepth 100000 in
set_option maxHeartbeats 8000000 in
theorem do_drop {w:World} {p B:Nat} {c:Conf} {last now:Int} {L:List Pub} {F:Nat->Prop} {a:AskP} {At An:Option Addr} {ct cn:Nat} (H:St w p c last L F) (hB:B<=w.heap.size) (hd:DocB w B a.doc (.slice At a.doc.tups.length ct) (.slice An a.doc.notes.length cn)) (hs:AskS a) (he:a.has=true->a.doc.ent.length<=99999990) (h:argE L now a=false) (hm:a.mtch≠[]) {p0:Pub} (hp0:p0∈L) (hpt:p0.tag=a.mtch) (hw:p0.who=a.who) (hk:secK c a.exp=true) (hh:a.has=false) (hN0:secN c a.exp=0) (hla:last<=1000000) (hFB:∀ k,F k->B<=k) :
 Calls Tryz.prog 32 #[.pointer (some ⟨p,0,none⟩),.int .i64 now,.agg #[.string (str a.who),.string (str a.mtch),.int .i64 a.exp,.bool a.has,.string (str a.doc.ent),.slice At a.doc.tups.length ct,.slice An a.doc.notes.length cn,.string (str a.tag)]] w (DoPost p c F (doR c last L now a) w):=by
 have HARG:=hid (argE_no h)
 have HS0:=hid H
 have hnum:(L.map (·.number)).Nodup/\(L.map (·.tag)).Nodup:=by
  obtain ⟨xs,l,bl,bt,pw,kl,kt,FW,rfl,HI,Q⟩:=H
  exact ⟨pubs_idnd Q.ids,Q.tags⟩
 have HRES:Hid (doR c last L now a=⟨last,dropP L p0.number,⟨200,0,a.tag,true⟩,0⟩):=hid (doR_old3 h hm hnum.1 hnum.2 hp0 hpt hw hk hh hN0)
 obtain ⟨xs,l,bl,bt,pw,kl,kt,FW,rfl,HI,Q⟩:=H
 obtain ⟨z,hz,rfl⟩:=List.mem_map.1 hp0
 obtain ⟨w0,hw0⟩:∃ w0,(w.alloc (.cells #[.string (str a.who),.string (str a.mtch),.int .i64 a.exp,.bool a.has,.string (str a.doc.ent),.slice At a.doc.tups.length ct,.slice An a.doc.notes.length cn,.string (str a.tag)] 86)).alloc (.cells #[.int .i64 0,.int .i64 0,.string ⟨#[]⟩,.bool false] 83)=w0:=⟨_,rfl⟩
 have hb0:Below w.heap.size w w0:=hw0▸((Below.refl _ _).alloc (Nat.le_refl _) _).alloc (by simp) _
 have hs0:w0.heap.size=w.heap.size+2:=hw0▸(by simp)
 have hka:Blk w0 w.heap.size 86 #[.string (str a.who),.string (str a.mtch),.int .i64 a.exp,.bool a.has,.string (str a.doc.ent),.slice At a.doc.tups.length ct,.slice An a.doc.notes.length cn,.string (str a.tag)]:=hw0▸(Blk.new w _ _).alloc _
 have hkb:Blk w0 (w.heap.size+1) 83 #[.int .i64 0,.int .i64 0,.string ⟨#[]⟩,.bool false]:=hw0▸Blk.new' _ _ _ (by simp)
 have R0:=HI.raw.below hb0
 have HB0:=hid hb0
 have HSZ:=hid hs0
 have HMD:Hid (Calls Tryz.prog 33 #[.pointer (some ⟨p,0,none⟩)] w0 fun e w'=>e=.returned (.bool true)/\w0=w'):=hid (bmade_any R0.top)
 have HTK:Hid (∀ W,Calls Tryz.prog 46 #[.string (str a.tag)] W fun e w'=>e=.returned (.bool true)/\W=w'):=hid (fun W=>by
  have h9:=token_any a.tag W (by have:=hs.tag;omega)
  rw [HARG.out.2.2.1] at h9
  exact h9)
 have HCK:Hid (a.has=true->∀ W,Below w0.heap.size w0 W->Calls Tryz.prog 47 #[.agg #[.string (str a.doc.ent),.slice At a.doc.tups.length ct,.slice An a.doc.notes.length cn]] W fun e w'=>e=.returned (.int .i64 0)/\Below W.heap.size W w'):=hid (fun hh W hW=>by
  have h9:=check_any (B:=B) (Nat.le_trans hB (Nat.le_trans hb0.size hW.size)) ((hd.below (hb0.mono hB)).below (hW.mono (Nat.le_trans hB hb0.size))) hs.doc (he hh)
  rw [HARG.out.2.2.2.2 hh] at h9
  exact h9)
 have HC:Hid (∀ W,Below w0.heap.size w0 W->W.cell? ⟨p,9,none⟩=some (.map (some bt))/\W.cell? ⟨w.heap.size,3,none⟩=some (.bool a.has)/\W.cell? ⟨w.heap.size,4,none⟩=some (.string (str a.doc.ent))/\W.cell? ⟨w.heap.size,5,none⟩=some (.slice At a.doc.tups.length ct)/\W.cell? ⟨w.heap.size,6,none⟩=some (.slice An a.doc.notes.length cn)/\W.cell? ⟨w.heap.size,7,none⟩=some (.string (str a.tag))):=hid (fun W hW=>by
  have k:=(R0.below hW).top
  have k2:=hka.fr (Fr.of_below (F:=fun _=>False) hW) (fun h=>h)
  exact ⟨k.cell 9,k2.cell 3,k2.cell 4,k2.cell 5,k2.cell 6,k2.cell 7⟩)
 have HKA:Hid (∀ W,Below w0.heap.size w0 W->Blk W w.heap.size 86 #[.string (str a.who),.string (str a.mtch),.int .i64 a.exp,.bool a.has,.string (str a.doc.ent),.slice At a.doc.tups.length ct,.slice An a.doc.notes.length cn,.string (str a.tag)]):=hid (fun W hW=>hka.fr (Fr.of_below (F:=fun _=>False) hW) (fun h=>h))
 have HKT:Hid (∀ W,Below w0.heap.size w0 W->Blk W (w.heap.size+1) 83 #[.int .i64 0,.int .i64 0,.string ⟨#[]⟩,.bool false]):=hid (fun W hW=>hkb.fr (Fr.of_below (F:=fun _=>False) hW) (fun h=>h))
 have HV:Hid (∀ n,(Instr.lookup 52 (.map (some bt)) (.string (str a.tag)) false).run Tryz.prog (w0.drewN n)=.ok (.int .i64 0) (w0.drewN n)):=hid (by
  rcases tag_in HI Q a.tag with ⟨hin,_⟩|⟨hno,hg⟩
  .exact absurd hin HARG.out.2.2.2.1
  .exact fun n=>tag_look (R0.tm.drewN n) _ (.inr ⟨hg,rfl⟩))
 have HALL:Hid (∀ W,Below w0.heap.size w0 W->(W.cell? ⟨p,0,none⟩=some (.string (str c.host))/\W.cell? ⟨p,1,none⟩=some (.int .i64 c.calls)/\W.cell? ⟨p,2,none⟩=some (.int .i64 c.pubs)/\W.cell? ⟨p,3,none⟩=some (.int .i64 c.subs)/\W.cell? ⟨p,4,none⟩=some (.int .i64 c.least)/\W.cell? ⟨p,5,none⟩=some (.int .i64 c.most)/\W.cell? ⟨p,6,none⟩=some (.int .i64 c.usual)/\W.cell? ⟨p,8,none⟩=some (.map (some bl))/\W.cell? ⟨p,9,none⟩=some (.map (some bt)))/\(W.cell? ⟨w.heap.size,0,none⟩=some (.string (str a.who))/\W.cell? ⟨w.heap.size,1,none⟩=some (.string (str a.mtch))/\W.cell? ⟨w.heap.size,2,none⟩=some (.int .i64 a.exp)/\W.cell? ⟨w.heap.size,3,none⟩=some (.bool a.has)/\W.cell? ⟨w.heap.size,7,none⟩=some (.string (str a.tag)))):=hid (fun W hW=>by
  have k:=(R0.below hW).top
  have k2:=hka.fr (Fr.of_below (F:=fun _=>False) hW) (fun h=>h)
  exact ⟨⟨k.cell 0,k.cell 1,k.cell 2,k.cell 3,k.cell 4,k.cell 5,k.cell 6,k.cell 8,k.cell 9⟩,k2.cell 0,k2.cell 1,k2.cell 2,k2.cell 3,k2.cell 7⟩)
 have HFIN:Hid (∀ W,Below w0.heap.size w0 W->∀ (n x:Int) (tg:T) (s:ByteArray) (b:Bool) (er:Int),str tg=s->doR c last (xs.map (·.p)) now a=⟨last,xs.map (·.p),⟨n,x,tg,b⟩,er⟩->((((W.setCell ⟨w.heap.size+1,0,none⟩ (.int .i64 n)).setCell ⟨w.heap.size+1,1,none⟩ (.int .i64 x)).setCell ⟨w.heap.size+1,2,none⟩ (.string s)).setCell ⟨w.heap.size+1,3,none⟩ (.bool b)).cell? ⟨w.heap.size+1,0,none⟩=some (.int .i64 n)/\((((W.setCell ⟨w.heap.size+1,0,none⟩ (.int .i64 n)).setCell ⟨w.heap.size+1,1,none⟩ (.int .i64 x)).setCell ⟨w.heap.size+1,2,none⟩ (.string s)).setCell ⟨w.heap.size+1,3,none⟩ (.bool b)).cell? ⟨w.heap.size+1,1,none⟩=some (.int .i64 x)/\((((W.setCell ⟨w.heap.size+1,0,none⟩ (.int .i64 n)).setCell ⟨w.heap.size+1,1,none⟩ (.int .i64 x)).setCell ⟨w.heap.size+1,2,none⟩ (.string s)).setCell ⟨w.heap.size+1,3,none⟩ (.bool b)).cell? ⟨w.heap.size+1,2,none⟩=some (.string s)/\((((W.setCell ⟨w.heap.size+1,0,none⟩ (.int .i64 n)).setCell ⟨w.heap.size+1,1,none⟩ (.int .i64 x)).setCell ⟨w.heap.size+1,2,none⟩ (.string s)).setCell ⟨w.heap.size+1,3,none⟩ (.bool b)).cell? ⟨w.heap.size+1,3,none⟩=some (.bool b)/\DoPost p c F (doR c last (xs.map (·.p)) now a) w (.returned (.tuple #[.agg #[.int .i64 n,.int .i64 x,.string s,.bool b],.int .i64 er])) ((((W.setCell ⟨w.heap.size+1,0,none⟩ (.int .i64 n)).setCell ⟨w.heap.size+1,1,none⟩ (.int .i64 x)).setCell ⟨w.heap.size+1,2,none⟩ (.string s)).setCell ⟨w.heap.size+1,3,none⟩ (.bool b))):=hid (fun W hW n x tg s b er hs ht=>by
  subst hs
  obtain ⟨q0,q1,q2,q3⟩:=four_c (hkb.fr (Fr.of_below (F:=fun _=>False) hW) (fun h=>h)) (.int .i64 n) (.int .i64 x) (.string (str tg)) (.bool b)
  exact ⟨q0,q1,q2,q3,do_same HS0.out ht (four_fr (thenB_ hb0 hW) (by omega) _ _ _ _)⟩)
 have HL1:Hid (∀ W,Below w0.heap.size w0 W->∀ n,(Instr.lookup 52 (.map (some bt)) (.string (str a.mtch)) false).run Tryz.prog (W.drewN n)=.ok (.int .i64 z.p.number) (W.drewN n)):=hid (fun W hW n=>by
  rw [<-hpt]
  exact tag_look ((R0.below hW).tm.drewN n) _ (.inl (HI.gett Q.tags hz)))
 have HL2:Hid (∀ W,Below w0.heap.size w0 W->∀ n,(Instr.lookup 51 (.map (some bl)) (.int .i64 z.p.number) true).run Tryz.prog (W.drewN n)=.ok (.tuple #[.pointer (some ⟨z.b,0,none⟩),.bool true]) (W.drewN n)):=hid (fun W hW n=>(live_look ((R0.below hW).lm.drewN n) _).2 _ (HI.getl (pubs_idnd Q.ids) hz))
 have HZ:Hid (∀ W,Below w0.heap.size w0 W->Blk W z.b 66 (pubA z)):=hid (fun W hW=>(HI.its z hz).fr (Fr.of_below (F:=fun _=>False) (thenB_ hb0 hW)) (fun h=>h))
 have qe:=str_emp hm
 have qw1:((str z.p.who).toList == (str a.who).toList)=true:=by rw [hw];exact beq_self_eq_true _
 have qw2:(str z.p.who).toList=(str a.who).toList:=by rw [hw]
 have qw3:((str z.p.who).toList != (str a.who).toList)=false:=by rw [hw];simp
 have HSEC:=hid (sec_call c a.exp)
 have HC10:Hid (∀ W,Below w0.heap.size w0 W->W.cell? ⟨p,0,none⟩=some (.string (str c.host))/\W.cell? ⟨p,1,none⟩=some (.int .i64 c.calls)/\W.cell? ⟨p,2,none⟩=some (.int .i64 c.pubs)/\W.cell? ⟨p,3,none⟩=some (.int .i64 c.subs)/\W.cell? ⟨p,4,none⟩=some (.int .i64 c.least)/\W.cell? ⟨p,5,none⟩=some (.int .i64 c.most)/\W.cell? ⟨p,6,none⟩=some (.int .i64 c.usual)/\W.cell? ⟨w.heap.size,2,none⟩=some (.int .i64 a.exp)):=hid (fun W hW=>by
  obtain ⟨⟨x0,x1,x2,x3,x4,x5,x6,_⟩,_,_,y2,_⟩:=HALL.out W hW
  exact ⟨x0,x1,x2,x3,x4,x5,x6,y2⟩)
 have HSI:Hid (∀ W,Below w0.heap.size w0 W->StI W p c last xs l F bl bt pw kl kt FW):=hid (fun W hW=>HI.fr (Fr.of_below (F:=fun _=>False) (thenB_ hb0 hW)) (fun _ _ h=>h) (Keeps.none w))
 have HDR:Hid (∀ W,Below w0.heap.size w0 W->Calls Tryz.prog 35 #[.pointer (some ⟨p,0,none⟩),.int .i64 z.p.number] W (StDropPost W p c last xs z l F bl bt pw kl kt)):=hid (fun W hW=>stdrop_any (HSI.out W hW) hz (HI.getl (pubs_idnd Q.ids) hz) (HI.gett Q.tags hz))
 have HDF:Hid (∀ W w7,Below w0.heap.size w0 W->StDropPost W p c last xs z l F bl bt pw kl kt (.returned (.tuple #[])) w7->Blk w7 w.heap.size 86 #[.string (str a.who),.string (str a.mtch),.int .i64 a.exp,.bool a.has,.string (str a.doc.ent),.slice At a.doc.tups.length ct,.slice An a.doc.notes.length cn,.string (str a.tag)]/\Blk w7 (w.heap.size+1) 83 #[.int .i64 0,.int .i64 0,.string ⟨#[]⟩,.bool false]/\∀ w8,Fr (fun k=>k=w.heap.size+1) w7 w8->DoPost p c F (doR c last (xs.map (·.p)) now a) w (.returned (.tuple #[.agg #[.int .i64 200,.int .i64 0,.string (str a.tag),.bool true],.int .i64 0])) w8):=hid (fun W w7 hW hd7=>by
  obtain ⟨F',hst,hf,hk⟩:=drop_st (HSI.out W hW) Q hz hd7
  have hlt:∀ k,F k->k<w.heap.size:=fun k hk=>HI.lt hk
  have kb:=(HKT.out W hW).fr hf (fun q=>by have:=hlt _ q;omega)
  refine ⟨(HKA.out W hW).fr hf (fun q=>by have:=hlt _ q;omega),kb,fun w8 h8=>?_⟩
  have hmid:=do_mid (r:=⟨last,dropP (xs.map (·.p)) z.p.number,⟨200,0,a.tag,true⟩,0⟩) (thenB_ hb0 hW) hst hf (fun k hk'=>.inl (hk k hk')) (by omega) h8 ⟨_,kb⟩ rfl
  rw [HRES.out]
  exact hmid)
 have hd1:decide (now<0)=false:=decide_eq_false (by have:=HARG.out.1;omega)
 have hd2:decide (549755813888<now)=false:=decide_eq_false (by have:=HARG.out.2.1;omega)
 have hd3:decide (now > 549755813888)=false:=hd2
 have hlk:=HV.out
 have HX0:Hid (Below w0.heap.size w0 w0):=hid (Below.refl _ _)
 have HX0d:Hid (Below w0.heap.size w0 w0.drew):=hid (Below.refl _ _).drew
 obtain ⟨x9,y3,y4,y5,y6,y7⟩:=HC.out w0 (Below.refl _ _)
 clear h hm HI Q R0 hd hka hkb hb0 hs he hB hs0 hla hFB hnum hp0 hpt hw
 generalize hDO:doR c last (xs.map (·.p)) now a=DO at *
 have HDO:=hid hDO
 clear hDO
 generalize hN:secN c a.exp=N at *
 generalize hK:secK c a.exp=K at *
 have HNK:=hid (And.intro hN hK)
 clear hN hK
 subst hk
 subst hN0
 rw [hh] at HC HKA HALL hw0
 rw [hh]
 go_enter Tryz.func32,Tryz.ntmps32
 go_wp2_with fail
 refine (HMD.out).mono ?_
 rintro e w1 ⟨rfl,rfl⟩
 go_wp2_with fail
 go_quiet ((go_at_call 46;exact (HTK.out _).mono (fun _ _ ⟨he,hw⟩=>⟨he,_,hw.symm⟩)))
 have hx3:=below_drewN HX0.out nq
 generalize hw3:w0.drewN nq=w3 at *
 have HX3:=hid hx3
 clear hw3 hx3 x9 y3 y4 y5 y6 y7
 obtain ⟨⟨x0,x1,x2,x3,x4,x5,x6,x8,x9⟩,y0,y1,y2,y3,y7⟩:=HALL.out w3 HX3.out
 have hl1:=HL1.out w3 HX3.out
 have hl2:=HL2.out w3 HX3.out
 go_wp2_with fail
 go_quiet (fail)
 have hx4:=below_drewN HX3.out nq
 generalize hw4:w3.drewN nq=w4 at *
 have HX4:=hid hx4
 clear hw4 hx4
 clear hl1 hl2
 clear x0 x1 x2 x3 x4 x5 x6 x8 x9 y0 y1 y2 y3 y7
 obtain ⟨⟨x0,x1,x2,x3,x4,x5,x6,x8,x9⟩,y0,y1,y2,y3,y7⟩:=HALL.out w4 HX4.out
 have b1:w4.cell? ⟨z.b,1,none⟩=some (.string (str z.p.who)):=(HZ.out w4 HX4.out).cell 1
 go_wp2_with fail
 go_quiet (fail)
 have hx5:=below_drewN HX4.out nq
 generalize hw5:w4.drewN nq=w5 at *
 have HX5:=hid hx5
 clear hw5 hx5
 clear b1
 clear x0 x1 x2 x3 x4 x5 x6 x8 x9 y0 y1 y2 y3 y7
 have HX5d:Hid (Below w0.heap.size w0 w5.drew):=hid HX5.out.drew
 obtain ⟨x0,x1,x2,x3,x4,x5,x6,y2⟩:=HC10.out w5 HX5.out
 go_wp2_with fail
 go_region_held3 (fun w'=>w'.cell? ⟨p,0,none⟩=some (.string (str c.host))/\w'.cell? ⟨p,1,none⟩=some (.int .i64 c.calls)/\w'.cell? ⟨p,2,none⟩=some (.int .i64 c.pubs)/\w'.cell? ⟨p,3,none⟩=some (.int .i64 c.subs)/\w'.cell? ⟨p,4,none⟩=some (.int .i64 c.least)/\w'.cell? ⟨p,5,none⟩=some (.int .i64 c.most)/\w'.cell? ⟨p,6,none⟩=some (.int .i64 c.usual)/\w'.cell? ⟨w.heap.size,2,none⟩=some (.int .i64 a.exp))
  (first|exact HC10.out _ HX6.out|exact HC10.out _ HX5d.out) (first|(go_at_call 30;(with_reducible refine (HSEC.out _).mono ?_);rintro e w6 ⟨rfl,hb6⟩;have HX6:Hid (Below w0.heap.size w0 w6):=hid (thenB_ HX5d.out hb6);clear hb6))
 clear x0 x1 x2 x3 x4 x5 x6 y2
 have y3:=(HKA.out w6 HX6.out).cell 3
 have b0:w6.cell? ⟨z.b,0,none⟩=some (.int .i64 z.p.number):=(HZ.out w6 HX6.out).cell 0
 go_wp2_with fail
 refine (HDR.out _ HX6.out).mono ?_
 rintro e w7 ⟨rfl,hd7⟩
 obtain ⟨ka7,kb7,hfin⟩:=HDF.out w6 w7 HX6.out ⟨rfl,hd7⟩
 have y7:=ka7.cell 7
 have t0:=kb7.cell 0
 have t1:=kb7.cell 1
 have t2:=kb7.cell 2
 have t3:=kb7.cell 3
 have f0:=kb7.frozen 0
 have f1:=kb7.frozen 1
 have f2:=kb7.frozen 2
 have f3:=kb7.frozen 3
 obtain ⟨q0,q1,q2,q3⟩:=four_c kb7 (.int .i64 200) (.int .i64 0) (.string (str a.tag)) (.bool true)
 have HP:=hid (hfin _ ((((Fr.refl (fun k=>k=w.heap.size+1) w7).set (p:=⟨w.heap.size+1,0,none⟩) (fun _=>rfl) (.int .i64 200)).set (p:=⟨w.heap.size+1,1,none⟩) (fun _=>rfl) (.int .i64 0)).set (p:=⟨w.heap.size+1,2,none⟩) (fun _=>rfl) (.string (str a.tag)) |>.set (p:=⟨w.heap.size+1,3,none⟩) (fun _=>rfl) (.bool true)))
 clear hd7 ka7 kb7 hfin
 go_wp2
 exact bodyPost_ret (v:=.tuple #[.agg #[.int .i64 200,.int .i64 0,.string (str a.tag),.bool true],.int .i64 0]) (by simp [results,Tryz.results32,go_sem,q0,q1,q2,q3]) rfl HP.out
end Go.Proofs.YthfmekdbcoaolaaGreatDoor
