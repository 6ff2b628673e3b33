/- Chapter 16: Do where a publication is named, which goes on as it is. Chapter 16: Expire: what its loop keeps; slices.Sort and slices.Compact at an own row of t Chapter 16: Expire, walked. -/
import Derived.Test.YthfmekdbcoaolaaGreatDoorGy33
import Derived.Test.YthfmekdbcoaolaaGreatDoorGy37
import Derived.Test.YthfmekdbcoaolaaGreatDoorGy12
import Derived.Sort.OwnSorted
import Derived.Deep.RegionHeld3
import Derived.Test.YthfmekdbcoaolaaGreatDoorGy02
namespace Go.Proofs.YthfmekdbcoaolaaGreatDoor
set_option linter.unusedSimpArgs false
set_option linter.unusedVariables false
open Go.RowKit
open Go.Lib (hid)
set_option maxRecDepth 100000 in
set_option maxHeartbeats 8000000 in
theorem do_put0 {w:World} {p B:Nat} {c:Conf} {last now:Int} {L:List Pub} {F:Nat->Prop} {a:AskP} {At An:Option Addr} {ct cn:Nat} (H:St w p c last L F) (hB:B<=w.heap.size) (hd:DocB w B a.doc (.slice At a.doc.tups.length ct) (.slice An a.doc.notes.length cn)) (hs:AskS a) (he:a.has=true->a.doc.ent.length<=99999990) (h:argE L now a=false) (hm:a.mtch≠[]) {p0:Pub} (hp0:p0∈L) (hpt:p0.tag=a.mtch) (hw:p0.who=a.who) (hk:secK c a.exp=true) (hh:a.has=false) (hN0:secN c a.exp≠0) (hla:last<=1000000) (hFB:∀ k,F k->B<=k) :
 Calls Tryz.prog 32 #[.pointer (some ⟨p,0,none⟩),.int .i64 now,.agg #[.string (str a.who),.string (str a.mtch),.int .i64 a.exp,.bool a.has,.string (str a.doc.ent),.slice At a.doc.tups.length ct,.slice An a.doc.notes.length cn,.string (str a.tag)]] w (DoPost p c F (doR c last L now a) w):=by
 have HARG:=hid (argE_no h)
 have HS0:=hid H
 have hnum:(L.map (·.number)).Nodup/\(L.map (·.tag)).Nodup:=by
  obtain ⟨xs,l,bl,bt,pw,kl,kt,FW,rfl,HI,Q⟩:=H
  exact ⟨pubs_idnd Q.ids,Q.tags⟩
 have HRES:Hid (doR c last L now a=⟨last,setP L (putP p0 a now (secN c a.exp)),⟨200,secN c a.exp,a.tag,false⟩,0⟩):=hid (by have h9:=doR_old4 (last:=last) h hm hnum.1 hnum.2 hp0 hpt hw hk hN0;rw [hh] at h9;exact h9)
 obtain ⟨xs,l,bl,bt,pw,kl,kt,FW,rfl,HI,Q⟩:=H
 obtain ⟨z,hz,rfl⟩:=List.mem_map.1 hp0
 obtain ⟨w0,hw0⟩:∃ w0,(w.alloc (.cells #[.string (str a.who),.string (str a.mtch),.int .i64 a.exp,.bool a.has,.string (str a.doc.ent),.slice At a.doc.tups.length ct,.slice An a.doc.notes.length cn,.string (str a.tag)] 86)).alloc (.cells #[.int .i64 0,.int .i64 0,.string ⟨#[]⟩,.bool false] 83)=w0:=⟨_,rfl⟩
 have hb0:Below w.heap.size w w0:=hw0▸((Below.refl _ _).alloc (Nat.le_refl _) _).alloc (by simp) _
 have hs0:w0.heap.size=w.heap.size+2:=hw0▸(by simp)
 have hka:Blk w0 w.heap.size 86 #[.string (str a.who),.string (str a.mtch),.int .i64 a.exp,.bool a.has,.string (str a.doc.ent),.slice At a.doc.tups.length ct,.slice An a.doc.notes.length cn,.string (str a.tag)]:=hw0▸(Blk.new w _ _).alloc _
 have hkb:Blk w0 (w.heap.size+1) 83 #[.int .i64 0,.int .i64 0,.string ⟨#[]⟩,.bool false]:=hw0▸Blk.new' _ _ _ (by simp)
 have R0:=HI.raw.below hb0
 have HB0:=hid hb0
 have HSZ:=hid hs0
 have HMD:Hid (Calls Tryz.prog 33 #[.pointer (some ⟨p,0,none⟩)] w0 fun e w'=>e=.returned (.bool true)/\w0=w'):=hid (bmade_any R0.top)
 have HTK:Hid (∀ W,Calls Tryz.prog 46 #[.string (str a.tag)] W fun e w'=>e=.returned (.bool true)/\W=w'):=hid (fun W=>by
  have h9:=token_any a.tag W (by have:=hs.tag;omega)
  rw [HARG.out.2.2.1] at h9
  exact h9)
 have HCK:Hid (a.has=true->∀ W,Below w0.heap.size w0 W->Calls Tryz.prog 47 #[.agg #[.string (str a.doc.ent),.slice At a.doc.tups.length ct,.slice An a.doc.notes.length cn]] W fun e w'=>e=.returned (.int .i64 0)/\Below W.heap.size W w'):=hid (fun hh W hW=>by
  have h9:=check_any (B:=B) (Nat.le_trans hB (Nat.le_trans hb0.size hW.size)) ((hd.below (hb0.mono hB)).below (hW.mono (Nat.le_trans hB hb0.size))) hs.doc (he hh)
  rw [HARG.out.2.2.2.2 hh] at h9
  exact h9)
 have HC:Hid (∀ W,Below w0.heap.size w0 W->W.cell? ⟨p,9,none⟩=some (.map (some bt))/\W.cell? ⟨w.heap.size,3,none⟩=some (.bool a.has)/\W.cell? ⟨w.heap.size,4,none⟩=some (.string (str a.doc.ent))/\W.cell? ⟨w.heap.size,5,none⟩=some (.slice At a.doc.tups.length ct)/\W.cell? ⟨w.heap.size,6,none⟩=some (.slice An a.doc.notes.length cn)/\W.cell? ⟨w.heap.size,7,none⟩=some (.string (str a.tag))):=hid (fun W hW=>by
  have k:=(R0.below hW).top
  have k2:=hka.fr (Fr.of_below (F:=fun _=>False) hW) (fun h=>h)
  exact ⟨k.cell 9,k2.cell 3,k2.cell 4,k2.cell 5,k2.cell 6,k2.cell 7⟩)
 have HKA:Hid (∀ W,Below w0.heap.size w0 W->Blk W w.heap.size 86 #[.string (str a.who),.string (str a.mtch),.int .i64 a.exp,.bool a.has,.string (str a.doc.ent),.slice At a.doc.tups.length ct,.slice An a.doc.notes.length cn,.string (str a.tag)]):=hid (fun W hW=>hka.fr (Fr.of_below (F:=fun _=>False) hW) (fun h=>h))
 have HKT:Hid (∀ W,Below w0.heap.size w0 W->Blk W (w.heap.size+1) 83 #[.int .i64 0,.int .i64 0,.string ⟨#[]⟩,.bool false]):=hid (fun W hW=>hkb.fr (Fr.of_below (F:=fun _=>False) hW) (fun h=>h))
 have HV:Hid (∀ n,(Instr.lookup 52 (.map (some bt)) (.string (str a.tag)) false).run Tryz.prog (w0.drewN n)=.ok (.int .i64 0) (w0.drewN n)):=hid (by
  rcases tag_in HI Q a.tag with ⟨hin,_⟩|⟨hno,hg⟩
  .exact absurd hin HARG.out.2.2.2.1
  .exact fun n=>tag_look (R0.tm.drewN n) _ (.inr ⟨hg,rfl⟩))
 have HALL:Hid (∀ W,Below w0.heap.size w0 W->(W.cell? ⟨p,0,none⟩=some (.string (str c.host))/\W.cell? ⟨p,1,none⟩=some (.int .i64 c.calls)/\W.cell? ⟨p,2,none⟩=some (.int .i64 c.pubs)/\W.cell? ⟨p,3,none⟩=some (.int .i64 c.subs)/\W.cell? ⟨p,4,none⟩=some (.int .i64 c.least)/\W.cell? ⟨p,5,none⟩=some (.int .i64 c.most)/\W.cell? ⟨p,6,none⟩=some (.int .i64 c.usual)/\W.cell? ⟨p,8,none⟩=some (.map (some bl))/\W.cell? ⟨p,9,none⟩=some (.map (some bt)))/\(W.cell? ⟨w.heap.size,0,none⟩=some (.string (str a.who))/\W.cell? ⟨w.heap.size,1,none⟩=some (.string (str a.mtch))/\W.cell? ⟨w.heap.size,2,none⟩=some (.int .i64 a.exp)/\W.cell? ⟨w.heap.size,3,none⟩=some (.bool a.has)/\W.cell? ⟨w.heap.size,7,none⟩=some (.string (str a.tag)))):=hid (fun W hW=>by
  have k:=(R0.below hW).top
  have k2:=hka.fr (Fr.of_below (F:=fun _=>False) hW) (fun h=>h)
  exact ⟨⟨k.cell 0,k.cell 1,k.cell 2,k.cell 3,k.cell 4,k.cell 5,k.cell 6,k.cell 8,k.cell 9⟩,k2.cell 0,k2.cell 1,k2.cell 2,k2.cell 3,k2.cell 7⟩)
 have HFIN:Hid (∀ W,Below w0.heap.size w0 W->∀ (n x:Int) (tg:T) (s:ByteArray) (b:Bool) (er:Int),str tg=s->doR c last (xs.map (·.p)) now a=⟨last,xs.map (·.p),⟨n,x,tg,b⟩,er⟩->((((W.setCell ⟨w.heap.size+1,0,none⟩ (.int .i64 n)).setCell ⟨w.heap.size+1,1,none⟩ (.int .i64 x)).setCell ⟨w.heap.size+1,2,none⟩ (.string s)).setCell ⟨w.heap.size+1,3,none⟩ (.bool b)).cell? ⟨w.heap.size+1,0,none⟩=some (.int .i64 n)/\((((W.setCell ⟨w.heap.size+1,0,none⟩ (.int .i64 n)).setCell ⟨w.heap.size+1,1,none⟩ (.int .i64 x)).setCell ⟨w.heap.size+1,2,none⟩ (.string s)).setCell ⟨w.heap.size+1,3,none⟩ (.bool b)).cell? ⟨w.heap.size+1,1,none⟩=some (.int .i64 x)/\((((W.setCell ⟨w.heap.size+1,0,none⟩ (.int .i64 n)).setCell ⟨w.heap.size+1,1,none⟩ (.int .i64 x)).setCell ⟨w.heap.size+1,2,none⟩ (.string s)).setCell ⟨w.heap.size+1,3,none⟩ (.bool b)).cell? ⟨w.heap.size+1,2,none⟩=some (.string s)/\((((W.setCell ⟨w.heap.size+1,0,none⟩ (.int .i64 n)).setCell ⟨w.heap.size+1,1,none⟩ (.int .i64 x)).setCell ⟨w.heap.size+1,2,none⟩ (.string s)).setCell ⟨w.heap.size+1,3,none⟩ (.bool b)).cell? ⟨w.heap.size+1,3,none⟩=some (.bool b)/\DoPost p c F (doR c last (xs.map (·.p)) now a) w (.returned (.tuple #[.agg #[.int .i64 n,.int .i64 x,.string s,.bool b],.int .i64 er])) ((((W.setCell ⟨w.heap.size+1,0,none⟩ (.int .i64 n)).setCell ⟨w.heap.size+1,1,none⟩ (.int .i64 x)).setCell ⟨w.heap.size+1,2,none⟩ (.string s)).setCell ⟨w.heap.size+1,3,none⟩ (.bool b))):=hid (fun W hW n x tg s b er hs ht=>by
  subst hs
  obtain ⟨q0,q1,q2,q3⟩:=four_c (hkb.fr (Fr.of_below (F:=fun _=>False) hW) (fun h=>h)) (.int .i64 n) (.int .i64 x) (.string (str tg)) (.bool b)
  exact ⟨q0,q1,q2,q3,do_same HS0.out ht (four_fr (thenB_ hb0 hW) (by omega) _ _ _ _)⟩)
 have HL1:Hid (∀ W,Below w0.heap.size w0 W->∀ n,(Instr.lookup 52 (.map (some bt)) (.string (str a.mtch)) false).run Tryz.prog (W.drewN n)=.ok (.int .i64 z.p.number) (W.drewN n)):=hid (fun W hW n=>by
  rw [<-hpt]
  exact tag_look ((R0.below hW).tm.drewN n) _ (.inl (HI.gett Q.tags hz)))
 have HL2:Hid (∀ W,Below w0.heap.size w0 W->∀ n,(Instr.lookup 51 (.map (some bl)) (.int .i64 z.p.number) true).run Tryz.prog (W.drewN n)=.ok (.tuple #[.pointer (some ⟨z.b,0,none⟩),.bool true]) (W.drewN n)):=hid (fun W hW n=>(live_look ((R0.below hW).lm.drewN n) _).2 _ (HI.getl (pubs_idnd Q.ids) hz))
 have HZ:Hid (∀ W,Below w0.heap.size w0 W->Blk W z.b 66 (pubA z)):=hid (fun W hW=>(HI.its z hz).fr (Fr.of_below (F:=fun _=>False) (thenB_ hb0 hW)) (fun h=>h))
 have qe:=str_emp hm
 have qw1:((str z.p.who).toList == (str a.who).toList)=true:=by rw [hw];exact beq_self_eq_true _
 have qw2:(str z.p.who).toList=(str a.who).toList:=by rw [hw]
 have qw3:((str z.p.who).toList != (str a.who).toList)=false:=by rw [hw];simp
 have HSEC:=hid (sec_call c a.exp)
 have HC10:Hid (∀ W,Below w0.heap.size w0 W->W.cell? ⟨p,0,none⟩=some (.string (str c.host))/\W.cell? ⟨p,1,none⟩=some (.int .i64 c.calls)/\W.cell? ⟨p,2,none⟩=some (.int .i64 c.pubs)/\W.cell? ⟨p,3,none⟩=some (.int .i64 c.subs)/\W.cell? ⟨p,4,none⟩=some (.int .i64 c.least)/\W.cell? ⟨p,5,none⟩=some (.int .i64 c.most)/\W.cell? ⟨p,6,none⟩=some (.int .i64 c.usual)/\W.cell? ⟨w.heap.size,2,none⟩=some (.int .i64 a.exp)):=hid (fun W hW=>by
  obtain ⟨⟨x0,x1,x2,x3,x4,x5,x6,_⟩,_,_,y2,_⟩:=HALL.out W hW
  exact ⟨x0,x1,x2,x3,x4,x5,x6,y2⟩)
 have HR:Hid (∀ W,Below w0.heap.size w0 W->RawS W p c last bl bt pw kl kt l FW):=hid (fun W hW=>R0.below hW)
 have HSI:=hid HI
 have HZM:=hid hz
 have HFB:=hid hFB
 have HBW:=hid hB
 have HDB:=hid hd
 have HNB:=hid (sec_lo Q.right a.exp)
 have HPE:Hid (∀ wA w8 vt vn,RawS wA p c last bl bt pw kl (mdel (str z.p.tag) kt) l FW->Fr (fun k=>k=bt\/k=z.b\/w.heap.size<=k) w wA->DocM wA z.p.doc vt vn->(∃ cs,Blk wA z.b 66 cs)->(∃ _u:Unit,Blk wA w.heap.size 86 #[.string (str a.who),.string (str a.mtch),.int .i64 a.exp,.bool false,.string (str a.doc.ent),.slice At a.doc.tups.length ct,.slice An a.doc.notes.length cn,.string (str a.tag)])->(∃ _u:Unit,Blk wA (w.heap.size+1) 83 #[.int .i64 0,.int .i64 0,.string ⟨#[]⟩,.bool false])->ArmPost z.b bt pw z.p.number z.p.who z.p.doc.ent vt vn a.tag (now+10*secN c a.exp) (mdel (str z.p.tag) kt) l FW wA (.returned (.tuple #[])) w8->Blk w8 w.heap.size 86 #[.string (str a.who),.string (str a.mtch),.int .i64 a.exp,.bool false,.string (str a.doc.ent),.slice At a.doc.tups.length ct,.slice An a.doc.notes.length cn,.string (str a.tag)]/\Blk w8 (w.heap.size+1) 83 #[.int .i64 0,.int .i64 0,.string ⟨#[]⟩,.bool false]/\∀ w9,Fr (fun k=>k=w.heap.size+1) w8 w9->DoPost p c F (doR c last (xs.map (·.p)) now a) w (.returned (.tuple #[.agg #[.int .i64 200,.int .i64 (secN c a.exp),.string (str a.tag),.bool false],.int .i64 0])) w9):=hid (fun wA w8 vt vn rA fA hdm hkA ⟨_,kaA⟩ ⟨_,kbA⟩ hA=>by
  have hA':=hA
  obtain ⟨_,FW',_,_,_,f8,_⟩:=hA'
  obtain ⟨zp,zl,zt,zlt⟩:=HI.ne_x hz
  have hfw:∀ k,w.heap.size<=k->¬FW k:=fun k hk q=>by have:=HI.wh.lt q;omega
  have btlt:=HI.tm.lt
  have kb8:=kbA.fr f8 (by
   rintro (e|e|e)
   .omega
   .omega
   .exact hfw _ (by omega) e)
  refine ⟨kaA.fr f8 (by
   rintro (e|e|e)
   .omega
   .omega
   .exact hfw _ (Nat.le_refl _) e),kb8,fun w9 f9=>?_⟩
  have ha:=HARG.out
  have hsl:=HNB.out
  have hpd:docE (putP z.p a now (secN c a.exp)).doc=0:=by
   unfold putP
   rw [hh]
   exact Q.docs z.p (List.mem_map.2 ⟨z,hz,rfl⟩)
  have hpe:(putP z.p a now (secN c a.exp)).doc=z.p.doc:=by unfold putP;rw [hh];rfl
  have he:=put_end (q:=putP z.p a now (secN c a.exp)) HI Q hz rfl ha.2.2.2.1 ha.2.2.1 (by show 0<=now+10*secN c a.exp;omega) (by show now+10*secN c a.exp<=1099511627776;omega) hpd rA fA (hpe.symm▸hdm) hkA (by rw [hpe];exact hA) f9 (by omega) ⟨_,kb8⟩
  rw [HRES.out]
  exact ⟨rfl,he⟩)
 have hd1:decide (now<0)=false:=decide_eq_false (by have:=HARG.out.1;omega)
 have hd2:decide (549755813888<now)=false:=decide_eq_false (by have:=HARG.out.2.1;omega)
 have hd3:decide (now > 549755813888)=false:=hd2
 have hlk:=HV.out
 have HX0:Hid (Below w0.heap.size w0 w0):=hid (Below.refl _ _)
 have HX0d:Hid (Below w0.heap.size w0 w0.drew):=hid (Below.refl _ _).drew
 obtain ⟨x9,y3,y4,y5,y6,y7⟩:=HC.out w0 (Below.refl _ _)
 clear h hm HI Q R0 hd hka hkb hb0 hs he hB hs0 hla hFB hnum hp0 hpt hw
 generalize hDO:doR c last (xs.map (·.p)) now a=DO at *
 have HDO:=hid hDO
 clear hDO
 generalize hN:secN c a.exp=N at *
 generalize hK:secK c a.exp=K at *
 have HNK:=hid (And.intro hN hK)
 clear hN hK
 subst hk
 have hdN:decide (N=0)=false:=decide_eq_false hN0
 have hdN2:(N == 0)=false:=by simpa using hN0
 clear hN0
 rw [hh] at HC HKA HALL hw0
 rw [hh]
 go_enter Tryz.func32,Tryz.ntmps32
 go_wp2_with fail
 refine (HMD.out).mono ?_
 rintro e w1 ⟨rfl,rfl⟩
 go_wp2_with fail
 go_quiet ((go_at_call 46;exact (HTK.out _).mono (fun _ _ ⟨he,hw⟩=>⟨he,_,hw.symm⟩)))
 have hx3:=below_drewN HX0.out nq
 generalize hw3:w0.drewN nq=w3 at *
 have HX3:=hid hx3
 clear hw3 hx3 x9 y3 y4 y5 y6 y7
 obtain ⟨⟨x0,x1,x2,x3,x4,x5,x6,x8,x9⟩,y0,y1,y2,y3,y7⟩:=HALL.out w3 HX3.out
 have hl1:=HL1.out w3 HX3.out
 have hl2:=HL2.out w3 HX3.out
 go_wp2_with fail
 go_quiet (fail)
 have hx4:=below_drewN HX3.out nq
 generalize hw4:w3.drewN nq=w4 at *
 have HX4:=hid hx4
 clear hw4 hx4
 clear hl1 hl2
 clear x0 x1 x2 x3 x4 x5 x6 x8 x9 y0 y1 y2 y3 y7
 obtain ⟨⟨x0,x1,x2,x3,x4,x5,x6,x8,x9⟩,y0,y1,y2,y3,y7⟩:=HALL.out w4 HX4.out
 have b1:w4.cell? ⟨z.b,1,none⟩=some (.string (str z.p.who)):=(HZ.out w4 HX4.out).cell 1
 go_wp2_with fail
 go_quiet (fail)
 have hx5:=below_drewN HX4.out nq
 generalize hw5:w4.drewN nq=w5 at *
 have HX5:=hid hx5
 clear hw5 hx5
 clear b1
 clear x0 x1 x2 x3 x4 x5 x6 x8 x9 y0 y1 y2 y3 y7
 have HX5d:Hid (Below w0.heap.size w0 w5.drew):=hid HX5.out.drew
 obtain ⟨x0,x1,x2,x3,x4,x5,x6,y2⟩:=HC10.out w5 HX5.out
 go_wp2_with fail
 go_region_held3 (fun w'=>w'.cell? ⟨p,0,none⟩=some (.string (str c.host))/\w'.cell? ⟨p,1,none⟩=some (.int .i64 c.calls)/\w'.cell? ⟨p,2,none⟩=some (.int .i64 c.pubs)/\w'.cell? ⟨p,3,none⟩=some (.int .i64 c.subs)/\w'.cell? ⟨p,4,none⟩=some (.int .i64 c.least)/\w'.cell? ⟨p,5,none⟩=some (.int .i64 c.most)/\w'.cell? ⟨p,6,none⟩=some (.int .i64 c.usual)/\w'.cell? ⟨w.heap.size,2,none⟩=some (.int .i64 a.exp))
  (first|exact HC10.out _ HX6.out|exact HC10.out _ HX5d.out) (first|(go_at_call 30;(with_reducible refine (HSEC.out _).mono ?_);rintro e w6 ⟨rfl,hb6⟩;have HX6:Hid (Below w0.heap.size w0 w6):=hid (thenB_ HX5d.out hb6);clear hb6))
 clear x0 x1 x2 x3 x4 x5 x6 y2
 have y3:=(HKA.out w6 HX6.out).cell 3
 obtain ⟨w7,hu7,r7,f7⟩:=(HR.out w6 HX6.out).untag z.p.tag
 have hx6:=thenB_ HB0.out HX6.out
 have btlt:bt<w.heap.size:=HSI.out.tm.lt
 have zlt:=HSI.out.ne_x HZM.out
 have b2:w6.cell? ⟨z.b,2,none⟩=some (.string (str z.p.tag)):=(HZ.out w6 HX6.out).cell 2
 have x9:=(HR.out w6 HX6.out).top.cell 9
 have hz7:=(HZ.out w6 HX6.out).fr f7 (fun e=>zlt.2.2.1 e)
 have ka7:=(HKA.out w6 HX6.out).fr f7 (by show ¬w.heap.size=bt;omega)
 have kb7:=(HKT.out w6 HX6.out).fr f7 (by show ¬w.heap.size+1=bt;omega)
 have y73:=ka7.cell 3
 have y77:=ka7.cell 7
 have F67:Hid (Fr (fun k=>k=bt\/k=z.b\/w.heap.size<=k) w w7):=hid ((Fr.of_below hx6).trans (G:=fun k=>k=bt) f7 (fun k _ e=>.inl e))
 have hdm:=(HSI.out.doc z HZM.out).fr F67.out (fun b ds T fr hb hT e=>by
  rcases e with e|e|e
  .exact HSI.out.keeps b ds T fr hb hT (e▸(HSI.out.ff bt).2 (.inr (.inr (.inl rfl))))
  .exact HSI.out.keeps b ds T fr hb hT (e▸(HSI.out.ff z.b).2 (.inr (.inr (.inr (.inl (List.mem_map.2 ⟨z,HZM.out,rfl⟩))))))
  .have:=(Array.getElem?_eq_some_iff.1 hb).1;omega)
 have HARM:=hid (arm_any (tag:=a.tag) (now:=now) (n:=N) r7.top hz7 r7.tm r7.wh r7.ft HARG.out.1 HARG.out.2.1 HNB.out.1 HNB.out.2)
 have HF8:=hid (fun w8 hA=>HPE.out w7 w8 z.vt z.vn r7 F67.out hdm ⟨_,hz7⟩ ⟨(),ka7⟩ ⟨(),kb7⟩ hA)
 clear r7 f7 hx6 btlt zlt hz7 ka7 kb7 hdm
 go_wp2_with fail
 go_still_tail 8,(by kernel_rfl)
 go_wp2_with fail
 refine (HARM.out).mono ?_
 rintro e w8 ⟨rfl,hA⟩
 obtain ⟨ka8,kb8,hfin⟩:=HF8.out w8 ⟨rfl,hA⟩
 have y7:=ka8.cell 7
 have y3:=ka8.cell 3
 have t0:=kb8.cell 0
 have t1:=kb8.cell 1
 have t2:=kb8.cell 2
 have t3:=kb8.cell 3
 have f0:=kb8.frozen 0
 have f1:=kb8.frozen 1
 have f2:=kb8.frozen 2
 have f3:=kb8.frozen 3
 obtain ⟨q0,q1,q2,q3⟩:=four_c kb8 (.int .i64 200) (.int .i64 N) (.string (str a.tag)) (.bool false)
 have HP:=hid (hfin _ ((((Fr.refl (fun k=>k=w.heap.size+1) w8).set (p:=⟨w.heap.size+1,0,none⟩) (fun _=>rfl) (.int .i64 200)).set (p:=⟨w.heap.size+1,1,none⟩) (fun _=>rfl) (.int .i64 N)).set (p:=⟨w.heap.size+1,2,none⟩) (fun _=>rfl) (.string (str a.tag)) |>.set (p:=⟨w.heap.size+1,3,none⟩) (fun _=>rfl) (.bool false)))
 clear hA ka8 kb8 hfin
 go_wp2
 exact bodyPost_ret (v:=.tuple #[.agg #[.int .i64 200,.int .i64 N,.string (str a.tag),.bool false],.int .i64 0]) (by simp [results,Tryz.results32,go_sem,q0,q1,q2,q3]) rfl HP.out
end Go.Proofs.YthfmekdbcoaolaaGreatDoor
namespace Go.Proofs.YthfmekdbcoaolaaGreatDoor
set_option linter.unusedSimpArgs false
set_option linter.unusedVariables false
open Go.RowKit Go.Sort
open Go.Lib (hid)
theorem rows_note (l:List T):rows noteC l=l.map encStr:=by
 induction l with
 | nil=>rfl
 | cons a r ih=>rw [rows_cons,ih];rfl
def SortTPost (w:World) (base:Nat) (v:Value) (ws:List T) (e:Ending) (w':World):Prop:=e=.returned (.tuple #[])/\w'.ownsRow base 9 1 v ws.length (rows noteC (ws.mergeSort fun x y=>decide (x<=y)))/\w.grownBy w' v.ownBlock
theorem sortT_own {w:World} {base:Nat} {v:Value} {ws:List T} (h:w.ownsRow base 9 1 v ws.length (rows noteC ws)) (hz:ws.length<=1000000):Calls Tryz.prog 36 #[v] w (SortTPost w base v ws):=by
 unfold SortTPost
 rw [rows_note] at h ⊢
 rcases h.2 with ⟨rfl,h0⟩|⟨g,cap,cur,rfl,hg,hb,h1,h2,h3,h4⟩
 .have hz:ws=[]:=List.eq_nil_of_length_eq_zero h0
  subst hz
  refine (Tryz.slices_Sort_string_none none 0 w).mono ?_
  rintro e w' ⟨rfl,rfl⟩
  exact ⟨rfl,by simpa using h,World.grownBy.refl _ _⟩
 .have hgl:g<w.heap.size:=Blk.lt (t:=9) hb
  rw [Nat.mul_one] at h4
  refine (Tryz.slices_Sort_string g 0 cap ws w (holds_of_block hb h4) hgl (by omega)).mono ?_
  rintro e w' ⟨rfl,n,os,rfl⟩
  exact ⟨rfl,ownsRow_sorted (by simp) hg hb h1 h2 h3,grownBy_sorted _⟩
theorem comp_le (zs:List T):(Lib.compact zs).length<=zs.length:=by
 unfold Lib.compact Lib.compactUpTo
 rw [List.length_map]
 exact Nat.le_trans (List.length_filter_le _ _) (by simp)
def CompTPost (w:World) (base:Nat) (ws:List T) (e:Ending) (w':World):Prop:=∃ A cp,e=.returned (.slice A (Lib.compact ws).length cp)/\RdV w' 9 1 (Lib.compact ws).length (.slice A (Lib.compact ws).length cp) (rows noteC (Lib.compact ws))/\Below base w w'
theorem compT_own {w:World} {base:Nat} {v:Value} {ws:List T} (h:w.ownsRow base 9 1 v ws.length (rows noteC ws)) (hz:ws.length<=1000000) (hbase:base<=w.heap.size):Calls Tryz.prog 37 #[v] w (CompTPost w base ws):=by
 unfold CompTPost
 rw [rows_note] at h
 rcases h.2 with ⟨rfl,h0⟩|⟨g,cap,cur,rfl,hg,hb,h1,h2,h3,h4⟩
 .have hz:ws=[]:=List.eq_nil_of_length_eq_zero h0
  subst hz
  refine (Tryz.slices_Compact_string_empty none 0 w).mono ?_
  rintro e w' ⟨rfl,rfl⟩
  exact ⟨none,0,rfl,RdV.nil _ _ _,Below.refl _ _⟩
 .have hgl:g<w.heap.size:=Blk.lt (t:=9) hb
  rw [Nat.mul_one] at h4
  have hle:=comp_le ws
  refine (Tryz.slices_Compact_string g 0 cap ws w (holds_of_block hb h4) (by omega) h1).mono ?_
  rintro e w' ⟨rfl,q,rfl⟩
  have hl:(Lib.compact ws++List.replicate (ws.length-(Lib.compact ws).length) []).length=ws.length:=by simp;omega
  have ho:=ownsRow_sorted (n:=q) (os:=#[]) (base:=base) (cap:=cap) (e:=9) hl hg hb h1 h2 h3
  have hg0:grow (putRow encStr (Sort.ahead w q) g 0 (Lib.compact ws++List.replicate (ws.length-(Lib.compact ws).length) []).toArray) #[]=putRow encStr (Sort.ahead w q) g 0 (Lib.compact ws++List.replicate (ws.length-(Lib.compact ws).length) []).toArray:=by unfold grow;simp;rfl
  rw [hg0] at ho
  have hgr:=grownBy_sorted (w:=w) (g:=g) (n:=q) (os:=#[]) (Lib.compact ws++List.replicate (ws.length-(Lib.compact ws).length) []).toArray
  rw [hg0] at hgr
  refine ⟨_,cap,rfl,⟨_,cap,rfl,by omega,h2,?_⟩,(Below.refl _ _).grown hgr hbase (fun k hk=>by simp at hk;omega)⟩
  have hr:=(Rd.of_own ho).take hle
  rw [List.map_append,Nat.mul_one,List.take_append_of_le_length (by simp),List.take_of_length_le (by simp),<-rows_note] at hr
  exact hr
def xsP (xs:List XP) (D:List TM) (j:Nat):List XP:=xs.filter fun x=>decide (x.p.number∉(D.take j).map (·.2))
def whoOf (L:List Pub) (n:Int):T:=((L.find? fun p=>decide (p.number=n)).map (·.who)).getD []
def wsP (L:List Pub) (D:List TM) (j:Nat):List T:=(D.take j).map fun t=>whoOf L t.2
theorem xsP_sub (xs:List XP) (D:List TM) (j:Nat):(xsP xs D j).Sublist xs:=List.filter_sublist
theorem xsP_zero (xs:List XP) (D:List TM):xsP xs D 0=xs:=by unfold xsP;rw [List.filter_eq_self];intro x hx;simp
theorem whoOf_is {L:List Pub} (hn:(L.map (·.number)).Nodup) {p:Pub} (hp:p∈L):whoOf L p.number=p.who:=by
 unfold whoOf
 have:L.find? (fun q=>decide (q.number=p.number))=some p:=by
  induction L with
  | nil=>cases hp
  | cons q r ih =>
    rw [List.map_cons,List.nodup_cons] at hn
    rcases List.mem_cons.1 hp with e|hp'
    .subst e;rw [List.find?_cons_of_pos (by simp)]
    .rw [List.find?_cons_of_neg (by rw [decide_eq_true_eq];exact fun k=>hn.1 (List.mem_map.2 ⟨p,hp',Eq.symm k⟩))]
     exact ih hn.2 hp'
 rw [this]
 rfl
section
variable {c:Conf} {last now:Int} {xs:List XP} {l:List TM}
theorem D_of (Q:StQ c last (xs.map (·.p)) l) (hs:l.Pairwise ah) (now:Int) {t:TM} (h:t∈rDueA l now):∃ x∈xs,t=(x.p.until_,x.p.number):=by
 rw [(due_parts hs now).1] at h
 have h1:=Q.lp.mem_iff.1 (List.mem_filter.1 h).1
 obtain ⟨q,hq,rfl⟩:=List.mem_map.1 h1
 obtain ⟨x,hx,rfl⟩:=List.mem_map.1 hq
 exact ⟨x,hx,rfl⟩
theorem D_split (l:List TM) (now:Int):rDueA l now++rDueB l now=l:=List.takeWhile_append_dropWhile
theorem D_nd (Q:StQ c last (xs.map (·.p)) l) (now:Int):((rDueA l now).map (·.2)).Nodup/\∀ t∈rDueA l now,t.2∉(rDueB l now).map (·.2):=by
 have h:=Q.wnd
 rw [<-D_split l now,List.map_append,List.nodup_append] at h
 refine ⟨h.1,fun t ht hb=>?_⟩
 exact h.2.2 t.2 (List.mem_map.2 ⟨t,ht,rfl⟩) t.2 hb rfl
theorem xsP_at (Q:StQ c last (xs.map (·.p)) l) (hs:l.Pairwise ah) (now:Int) {j:Nat} (hj:j<(rDueA l now).length):∃ x∈xsP xs (rDueA l now) j,x∈xs/\(rDueA l now)[j]=(x.p.until_,x.p.number):=by
 obtain ⟨x,hx,e⟩:=D_of Q hs now (List.getElem_mem hj)
 refine ⟨x,List.mem_filter.2 ⟨hx,decide_eq_true fun hm=>?_⟩,hx,e⟩
 obtain ⟨t,ht,et⟩:=List.mem_map.1 hm
 obtain ⟨i,hi,rfl⟩:=List.mem_take_iff_getElem.1 ht
 have hp:=List.pairwise_iff_getElem.1 (List.nodup_iff_pairwise_ne.1 (D_nd Q now).1) i j (by simp;omega) (by simpa using hj) (by omega)
 apply hp
 simp only [List.getElem_map]
 rw [et,e]
theorem xsP_succ (hb:(xs.map (·.b)).Nodup) (hn:((xs.map (·.p)).map (·.number)).Nodup) {D:List TM} {j:Nat} (hj:j<D.length) {x:XP} (hx:x∈xs) (e:D[j]=(x.p.until_,x.p.number)):(xsP xs D j).filter (fun y=>decide (y.b≠x.b))=xsP xs D (j+1):=by
 unfold xsP
 rw [List.filter_filter,List.take_succ_eq_append_getElem hj]
 apply List.filter_congr
 intro y hy
 have hi:y.b=x.b<->y.p.number=x.p.number:=by
  rw [List.map_map] at hn
  constructor
  .intro q;rw [nodup_inj hb hy hx q]
  .intro q;rw [nodup_inj hn hy hx q]
 rw [List.map_append,List.map_singleton,e]
 by_cases h1:y.p.number=x.p.number
 .simp [hi,h1]
 .simp [hi,h1]
theorem xsP_all (Q:StQ c last (xs.map (·.p)) l) (hs:l.Pairwise ah) (now:Int):(xsP xs (rDueA l now) (rDueA l now).length).map (·.p)=expL (xs.map (·.p)) now:=by
 unfold xsP expL
 rw [List.take_length,List.filter_map]
 congr 1
 apply List.filter_congr
 intro x hx
 have hm:x.p.number∈(rDueA l now).map (·.2)<->x.p.until_<=now:=by
  rw [(due_parts hs now).1]
  have hxl:(x.p.until_,x.p.number)∈l:=Q.lp.mem_iff.2 (List.mem_map.2 ⟨x.p,List.mem_map.2 ⟨x,hx,rfl⟩,rfl⟩)
  constructor
  .intro h
   obtain ⟨t,ht,e⟩:=List.mem_map.1 h
   have h1:=List.mem_filter.1 ht
   have:t=(x.p.until_,x.p.number):=nodup_inj Q.wnd h1.1 hxl e
   rw [this] at h1
   simpa using h1.2
  .intro h
   exact List.mem_map.2 ⟨_,List.mem_filter.2 ⟨hxl,by simpa using h⟩,rfl⟩
 show decide (x.p.number∉(rDueA l now).map (·.2))=decide (now<x.p.until_)
 by_cases h:x.p.until_<=now
 .have h1:¬¬x.p.number∈(rDueA l now).map (·.2):=fun q=>q (hm.2 h)
  rw [decide_eq_false h1,decide_eq_false (by omega)]
 .have h1:¬x.p.number∈(rDueA l now).map (·.2):=fun q=>h (hm.1 q)
  rw [decide_eq_true h1,decide_eq_true (by omega)]
theorem wsP_all (Q:StQ c last (xs.map (·.p)) l) (hs:l.Pairwise ah) (now:Int):(wsP (xs.map (·.p)) (rDueA l now) (rDueA l now).length).Perm ((expD (xs.map (·.p)) now).map (·.who)):=by
 unfold wsP
 rw [List.take_length,(due_parts hs now).1]
 have h:=((Q.lp.filter fun t=>decide (t.1<=now)).map fun t=>whoOf (xs.map (·.p)) t.2)
 refine h.trans (List.Perm.of_eq ?_)
 unfold expD
 rw [List.filter_map,List.map_map]
 apply List.map_congr_left
 intro p hp
 exact whoOf_is (pubs_idnd Q.ids) (List.mem_filter.1 hp).1
theorem wsP_len (L:List Pub) (D:List TM) {j:Nat} (hj:j<=D.length):(wsP L D j).length=j:=by unfold wsP;simp;omega
end
end Go.Proofs.YthfmekdbcoaolaaGreatDoor
namespace Go.Proofs.YthfmekdbcoaolaaGreatDoor
set_option linter.unusedSimpArgs false
set_option linter.unusedVariables false
open Go.RowKit
open Go.Lib (hid)
theorem own_tyS {w:World} {base:Nat} {e:TypeId} {size n:Nat} {v:Value} {xs:List Value} (h:w.ownsRow base e size v n xs) {g:Nat} (hg:v.ownBlock=some g):∃ cs,w.heap[g]?=some (.cells cs e (0,0)):=by
 rcases h.2 with ⟨rfl,_⟩|⟨g',cap,cur,rfl,_,hh,_⟩
 .cases hg
 .have:g'=g:=by simpa [Value.ownBlock] using hg
  subst this
  exact ⟨cur,hh⟩
theorem grown_alloc {w w':World} {o:Obj} {row:Option Nat} (hg:(w.alloc o).grownBy w' row):w.grownBy w' row :=
 ⟨hg.os,hg.tape,hg.output,Nat.le_trans (by simp) hg.size,fun k hk hne=>(hg.block k (by simp;omega) hne).trans (Below.heap_alloc _ _ _ hk)⟩
structure ExpB (w:World) (p:Nat) (c:Conf) (last:Int) (xs:List XP) (D lb:List TM) (F:Nat->Prop) (bl bt pw:Nat) (dv:Value) (j:Nat) (v:Value) (wr:World):Prop where
 sv:∃ Fj FW kl kt,StI wr p c last (xsP xs D j) lb Fj bl bt pw kl kt FW/\∀ k,Fj k->F k
 rd:wr.ownsRow w.heap.size 90 2 dv D.length (tcells D)
 own:wr.ownsRow w.heap.size 9 1 v j (rows noteC (wsP (xs.map (·.p)) D j))
 fr:Fr (fun k=>F k\/w.heap.size<=k) w wr
def ExpRelB (w:World) (p:Nat) (c:Conf) (last:Int) (xs:List XP) (D lb:List TM) (F:Nat->Prop) (bl bt pw:Nat) (dv:Value) (v i:Value) (wr:World):Prop:=∃ j:Nat,j<=D.length/\i=.int .i64 j/\ExpB w p c last xs D lb F bl bt pw dv j v wr
section
variable {w w':World} {p bl bt pw:Nat} {c:Conf} {last:Int} {xs:List XP} {l:List TM} {F FW G:Nat->Prop} {kl:List (Int × Value)} {kt:List (ByteArray × Value)}
theorem StI.frd (H:StI w p c last xs l F bl bt pw kl kt FW) (hf:Fr G w w') (hd:∀ k,F k->¬G k) (hdoc:∀ x∈xs,DocM w' x.p.doc x.vt x.vn):StI w' p c last xs l F bl bt pw kl kt FW:=by
 have h:∀ k,PF p bl bt xs FW k->¬G k:=fun k hk=>hd k ((H.ff k).2 hk)
 exact ⟨H.top.fr hf (h p (.inl rfl)),H.lm.fr hf (h bl (.inr (.inl rfl))),H.lb.fr hf (h bl (.inr (.inl rfl))),H.tm.fr hf (h bt (.inr (.inr (.inl rfl)))),H.wh.fr hf (fun k hk=>h k (.inr (.inr (.inr (.inr hk))))),
  fun x hx=>(H.its x hx).fr hf (h x.b (.inr (.inr (.inr (.inl (List.mem_map.2 ⟨x,hx,rfl⟩)))))),hdoc,H.nd,H.pl,H.pt,H.dn,H.fl,H.ft,H.ff⟩
theorem exp_stepB {w wr w4 w5:World} {D lb:List TM} {dv:Value} {j:Nat} {v v4:Value} {x:XP} {o:Obj} {Fj FWj:Nat->Prop} {kl':List (Int × Value)} {kt':List (ByteArray × Value)} {e5:Ending}
 (HI:StI w p c last xs l F bl bt pw kl kt FW) (hFl:∀ k,F k->k<w.heap.size) (hnum:((xs.map (·.p)).map (·.number)).Nodup) (hj:j<D.length) (hx:x∈xs) (he:D[j]=(x.p.until_,x.p.number)) (hnb:x.p.number∉lb.map (·.2))
 (hE:ExpB w p c last xs D lb F bl bt pw dv j v wr)
 (ho4:w4.ownsRow w.heap.size 9 1 v4 (j+1) (rows noteC (wsP (xs.map (·.p)) D j)++[.string (str x.p.who)])) (hg4:(wr.alloc o).drew.grownBy w4 v.ownBlock)
 (h4:StI w4 p c last (xsP xs D j) lb Fj bl bt pw kl' kt' FWj) (hFj:∀ k,Fj k->F k) (h5:StDropPost w4 p c last (xsP xs D j) x lb Fj bl bt pw kl' kt' e5 w5) :
 ExpB w p c last xs D lb F bl bt pw dv (j+1) v4 w5:=by
 obtain ⟨_,F',FW',hs5,hf5,hk5⟩:=h5
 rw [xsP_succ HI.nd hnum hj hx he,stop_none hnb] at hs5
 have hsz:=hE.fr.size
 have f4:Fr (fun k=>v.ownBlock=some k) wr w4:=((Fr.refl (fun k=>v.ownBlock=some k) wr).alloc o).drew.trans (G:=fun k=>v.ownBlock=some k) (Fr.of_grown hg4 (fun k e=>e)) (fun k hk e=>e)
 have fall:Fr (fun k=>v.ownBlock=some k\/F k) wr w5:=(f4.mono fun k _ e=>.inl e).trans (G:=Fj) hf5 (fun k _ e=>.inr (hFj k e))
 refine ⟨⟨F',FW',_,_,hs5,fun k hk=>hFj k (hk5 k hk)⟩,own_fr hE.rd fall (fun gb hgb q=>?_),?_,hE.fr.trans fall (fun k hk q=>?_)⟩
 .rcases q with q|q
  .obtain ⟨cs',h⟩:=own_tyS hE.own q
   obtain ⟨cs2,h2⟩:=own_tyS hE.rd hgb
   rw [h2] at h
   injection h with h
   injection h with _ h
   exact absurd h (by decide)
  .have h1:=(hE.rd.lt gb hgb).1
   have h2:=hFl gb q
   omega
 .rw [show wsP (xs.map (·.p)) D (j+1)=wsP (xs.map (·.p)) D j++[x.p.who] by
   unfold wsP
   rw [List.take_succ_eq_append_getElem hj,List.map_append,List.map_singleton,he]
   show _++[whoOf _ x.p.number]=_
   rw [whoOf_is hnum (List.mem_map.2 ⟨x,hx,rfl⟩)],rows_snoc]
  refine own_fr ho4 hf5 (fun k hk e=>?_)
  have h1:=(ho4.lt k hk).1
  have h2:=hFl k (hFj k e)
  omega
 .rcases q with q|q
  .exact .inr (hE.own.lt k q).1
  .exact .inl q
end
def ExpPost (p:Nat) (c:Conf) (last:Int) (L:List Pub) (now:Int) (F:Nat->Prop) (w:World) (e:Ending) (w':World):Prop :=
 ∃ A cp,e=.returned (.slice A (expW L now).length cp)/\RdV w' 9 1 (expW L now).length (.slice A (expW L now).length cp) (rows noteC (expW L now))/\∃ F',St w' p c last (expL L now) F'/\Fr F w w'/\∀ k,F' k->F k
set_option maxRecDepth 100000 in
set_option maxHeartbeats 4000000 in
theorem stexpire_any {w:World} {p:Nat} {c:Conf} {last now:Int} {L:List Pub} {F:Nat->Prop} (H:St w p c last L F):Calls Tryz.prog 16 #[.pointer (some ⟨p,0,none⟩),.int .i64 now] w (ExpPost p c last L now F w):=by
 have hFl:=hid fun k (hk:F k)=>H.lt hk
 obtain ⟨xs,l,bl,bt,pw,kl,kt,FW,rfl,H,Q⟩:=H
 have hm:=hid (bmade_any H.top)
 have t10:=H.top.cell 10
 have hdue:=hid (due_any H.wh now)
 have hso:l.Pairwise ah:=by obtain ⟨_,_,_,_,h⟩:=H.wh;exact h.so
 have HI:=hid H
 have HQ:=hid Q
 have HSO:=hid hso
 have hlen:(rDueA l now).length<=4096:=by
  have h1:l.length<=4096:=by obtain ⟨_,_,_,_,h⟩:=H.wh;exact h.le
  have h2:=(List.takeWhile_sublist (fun t:TM=>decide (t.1<=now)) (l:=l)).length_le
  unfold rDueA
  omega
 clear H Q hso
 go_enter Tryz.func16,Tryz.ntmps16
 go_wp2_with fail
 refine (hm.out).mono ?_
 rintro e w' ⟨rfl,rfl⟩
 go_wp2_with fail
 refine (hdue.out).mono ?_
 rintro e w1 ⟨dv,FW1,rfl,hown,hwh,hf,hsub⟩
 have hI1:=HI.out.wheel hwh hf (fun k hk=>.inl (hsub k hk))
 obtain ⟨D,hD⟩:∃ D,rDueA l now=D:=⟨_,rfl⟩
 obtain ⟨lb,hlb⟩:∃ lb,rDueB l now=lb:=⟨_,rfl⟩
 rw [hD] at hown hlen
 obtain ⟨A,cA,rfl,hAc,hcm,hrd⟩:=RdV.of_own hown
 have HST:Hid (ExpRelB w p c last xs D lb F bl bt pw (.slice A D.length cA) (.slice none 0 0) (.int .i64 0) w1):=hid
  ⟨0,by omega,rfl,⟨⟨_,FW1,kl,kt,by rw [xsP_zero,<-hlb];exact hI1.1,fun k hk=>by
   rcases hk with q|q|q|q|q
   .exact (HI.out.ff k).2 (.inl q)
   .exact (HI.out.ff k).2 (.inr (.inl q))
   .exact (HI.out.ff k).2 (.inr (.inr (.inl q)))
   .exact (HI.out.ff k).2 (.inr (.inr (.inr (.inl q))))
   .exact (HI.out.ff k).2 (.inr (.inr (.inr (.inr (hsub k q)))))⟩,hown,⟨rfl,.inl ⟨rfl,rfl⟩⟩,hI1.2.1.mono (fun k _ q=>.inl q)⟩⟩
 have HLN:=hid hlen
 have HD:=hid hD
 have HLB:=hid hlb
 clear hown hwh hf hsub hI1 hrd hD hlb
 go_wp2_with fail
 go_loopw [5,18] (fun v i wr=>ExpRelB w p c last xs D lb F bl bt pw (.slice A D.length cA) v i wr) (fun v i _=>D.length-(intOf i).toNat)
 case atStart=>exact HST.out
 case round =>
  obtain ⟨j,hj,rfl,hE⟩:=hrel
  by_cases hlt:j<D.length
  .obtain ⟨Fj,FWj,kl',kt',hS,hFj⟩:=hE.sv
   obtain ⟨x,hxJ,hx,hde⟩:=xsP_at HQ.out HSO.out now (j:=j) (by rw [HD.out];exact hlt)
   simp only [HD.out] at hxJ hde
   have hnd:(((xsP xs D j).map (·.p)).map (·.number)).Nodup:=(pubs_idnd HQ.out.ids).sublist (((xsP_sub xs D j).map _).map _)
   have htd:(((xsP xs D j).map (·.p)).map (·.tag)).Nodup:=HQ.out.tags.sublist (((xsP_sub xs D j).map _).map _)
   have hgl:=hS.getl hnd hxJ
   have hgt:=hS.gett htd hxJ
   have hnb:x.p.number∉lb.map (·.2):=by
    have h9:=(D_nd HQ.out now).2 D[j] (by rw [HD.out];exact List.getElem_mem hlt)
    rw [hde,HLB.out] at h9
    exact h9
   obtain ⟨gb,off,rfl,c0,c1⟩:=rd_tm (Rd.of_own hE.rd) hlt
   have hd1:D[j].1=x.p.until_:=by rw [hde]
   have hd2:D[j].2=x.p.number:=by rw [hde]
   rw [hd2] at c1
   rw [hd1] at c0
   obtain ⟨W0,hW0⟩:∃ W0,wr.alloc (.cells #[.int .i64 x.p.until_,.int .i64 x.p.number] 90)=W0:=⟨_,rfl⟩
   have hS0:=hW0▸hS.fr ((Fr.refl (fun _=>False) wr).alloc (.cells #[.int .i64 x.p.until_,.int .i64 x.p.number] 90)) (fun _ _ h=>h) (Keeps.none wr)
   have hB0:Blk W0 wr.heap.size 90 #[.int .i64 x.p.until_,.int .i64 x.p.number]:=hW0▸Blk.new wr _ _
   have p8:=hS0.top.cell 8
   have d1:=hB0.cell 1
   have x1:W0.cell? ⟨x.b,1,none⟩=some (.string (str x.p.who)):=(hS0.its x hxJ).cell 1
   have hlk:=(hS0.lm.drewN 1).lookup (T:=51) (E:=91) (intLaw Tryz.underlying3) Tryz.underlying51 (zpub _) x.p.number false
   rw [hgl] at hlk
   have hlk':(Instr.lookup 51 (.map (some bl)) (.int .i64 x.p.number) false).run Tryz.prog W0.drew=.ok (.pointer (some ⟨x.b,0,none⟩)) W0.drew:=hlk
   have s0:wr.heap.size<=W0.heap.size:=by rw [<-hW0];simp
   have sw:=hE.fr.size
   have hwl:=wsP_len (xs.map (·.p)) D (j:=j) (by omega)
   have hown0:W0.drew.ownsRow w.heap.size 9 1 u5 j (rows noteC (wsP (xs.map (·.p)) D j)):=hW0▸own_fr hE.own ((Fr.refl (fun _=>False) wr).alloc (.cells #[.int .i64 x.p.until_,.int .i64 x.p.number] 90)).drew (fun _ _ h=>h)
   have HO0:=hid hown0
   have HS0:Hid (∀ W,Below W0.heap.size W0 W->W.cell? ⟨p,8,none⟩=some (.map (some bl))/\W.cell? ⟨wr.heap.size,1,none⟩=some (.int .i64 x.p.number)/\W.cell? ⟨x.b,1,none⟩=some (.string (str x.p.who))):=hid (fun W hW=>by
    have f9:=Fr.of_below (F:=fun _=>False) hW
    exact ⟨(hS0.top.fr f9 (fun h=>h)).cell 8,(hB0.fr f9 (fun h=>h)).cell 1,((hS0.its x hxJ).fr f9 (fun h=>h)).cell 1⟩)
   have HDR:Hid (∀ v4 w4,w4.ownsRow w.heap.size 9 1 v4 (j+1) (rows noteC (wsP (xs.map (·.p)) D j)++[.string (str x.p.who)])->W0.drew.grownBy w4 u5.ownBlock->StI w4 p c last (xsP xs D j) lb Fj bl bt pw kl' kt' FWj/\(w4.cell? ⟨p,8,none⟩=some (.map (some bl))/\w4.cell? ⟨wr.heap.size,1,none⟩=some (.int .i64 x.p.number)/\w4.cell? ⟨x.b,1,none⟩=some (.string (str x.p.who)))/\Calls Tryz.prog 35 #[.pointer (some ⟨p,0,none⟩),.int .i64 x.p.number] w4 (StDropPost w4 p c last (xsP xs D j) x lb Fj bl bt pw kl' kt')/\∀ e5 w5,StDropPost w4 p c last (xsP xs D j) x lb Fj bl bt pw kl' kt' e5 w5->ExpB w p c last xs D lb F bl bt pw (.slice (some ⟨gb,off,none⟩) D.length cA) (j+1) v4 w5):=hid (fun v4 w4 ho4 hg4=>by
    have f4:Fr (fun k=>u5.ownBlock=some k) W0 w4:=((Fr.refl (fun k=>u5.ownBlock=some k) W0).drew).trans (G:=fun k=>u5.ownBlock=some k) (Fr.of_grown hg4 (fun k e=>e)) (fun k hk e=>e)
    have hdis:∀ k,Fj k->¬u5.ownBlock=some k:=fun k hk e=>by
     have h1:=hFl.out k (hFj k hk)
     have h2:=(hE.own.lt k e).1
     omega
    have f04:Fr (fun k=>F k\/w.heap.size<=k) w w4:=(hW0▸hE.fr.alloc _).trans f4 (fun k hk e=>.inr (hE.own.lt k e).1)
    have h4:=hS0.frd f4 hdis (fun y hy=>(HI.out.doc y ((xsP_sub xs D j).subset hy)).fr f04 (fun b ds T fr hb hT q=>by
     rcases q with q|q
     .exact HI.out.keeps b ds T fr hb hT q
     .have:=(Array.getElem?_eq_some_iff.1 hb).1;omega))
    refine ⟨h4,⟨h4.top.cell 8,(hB0.fr f4 (fun e=>by
     obtain ⟨cs',h⟩:=own_tyS hown0 e
     have h2:W0.heap[wr.heap.size]?=some (.cells cs' 9 (0,0)):=h
     have h3:=hB0
     unfold Blk at h3
     rw [h3] at h2
     injection h2 with h2
     injection h2 with _ h2
     exact absurd h2 (by decide))).cell 1,(h4.its x hxJ).cell 1⟩,stdrop_any h4 hxJ hgl hgt,fun e5 w5 h5=>exp_stepB HI.out hFl.out (pubs_idnd HQ.out.ids) hlt hx hde hnb hE ho4 (hW0▸hg4) h4 hFj h5⟩)
   have jb0:(0:Int)<=j:=by omega
   have jb1:(j:Int)<D.length:=by omega
   clear hS hgl hgt hnd htd hx hxJ hS0 hB0 hlk hown0 hE hde hd1 hd2 hnb hFj
   generalize x.p.number=num at *
   generalize x.p.until_=unt at *
   generalize x.p.who=who at *
   generalize wsP (xs.map (·.p)) D j=WS at *
   go_wp2_with fail
   go_region_held3 (fun w'=>w'.cell? ⟨p,8,none⟩=some (.map (some bl))/\w'.cell? ⟨wr.heap.size,1,none⟩=some (.int .i64 num)/\w'.cell? ⟨x.b,1,none⟩=some (.string (str who)))
    (first|exact HS4.out|exact HS0.out _ (Below.refl _ _).drew|exact HS0.out _ ((Below.refl _ _).drew.alloc (Nat.le_refl _) _)|exact HS0.out _ (((Below.refl _ _).alloc (Nat.le_refl _) _).drew)) (first|(refine step_app1 (by rfl) (.tmp 22) (.tmp 33) 37 (by rfl) w.heap.size 9 1 16 (.string ⟨#[]⟩) Tryz.underlying37 eC9 (by rfl) (by omega) u5 j (rows noteC WS) (by rfl) ?_ [.string (str who)] W0.heap.size (by rfl) ?_ (by rfl) (by simp [Value.oneCell']) (by have:=HLN.out;unfold maxLen;omega) (by have:=HLN.out;omega) (by first|(show w.heap.size<=W0.heap.size;omega)|(simp;omega)) ?_;(first|exact own_fr HO0.out ((Fr.refl (fun _=>False) _).alloc _) (fun _ _ h=>h));(first|exact Blk.new' _ _ _ rfl);intro v4 w4 hown4 hb4 hg4 hat4;obtain ⟨h4,d4,hdr,hfin⟩:=HDR.out v4 w4 hown4 (grown_alloc hg4);have HDR4:=hid hdr;have HFN:=hid hfin;have HS4:=hid d4;obtain ⟨_,d4,_⟩:=d4;clear h4 hdr hfin hown4 hb4 hg4 hat4))
   go_wp2_with fail
   refine (HDR4.out).mono ?_
   rintro e w5 h5
   have HN:=hid (HFN.out _ w5 h5)
   obtain ⟨rfl,_⟩:=h5
   go_wp2
   go_roundw
   case rel=>exact ⟨j+1,by omega,by go_num,HN.out⟩
   case measure=>simp [intOf] <;> omega
  .obtain rfl:j=D.length:=by omega
   obtain ⟨Fj,FWj,kl',kt',hS,hFj⟩:=hE.sv
   have hwl:=wsP_len (xs.map (·.p)) D (j:=D.length) (Nat.le_refl _)
   have hown:=hE.own
   have hsrt:=hid (sortT_own (v:=u5) (ws:=wsP (xs.map (·.p)) D D.length) (by rw [hwl];exact hown) (by rw [hwl];have:=HLN.out;omega))
   have HEND:Hid (∀ w2 e3 w3 ws2,w2.ownsRow w.heap.size 9 1 u5 ws2.length (rows noteC ws2)->ws2=(wsP (xs.map (·.p)) D D.length).mergeSort (fun x y=>decide (x<=y))->wr.grownBy w2 u5.ownBlock->CompTPost w2 w.heap.size ws2 e3 w3->ExpPost p c last (xs.map (·.p)) now F w e3 w3):=hid (fun w2 e3 w3 ws2 ho2 hws hg2 h3=>by
    obtain ⟨A3,c3,rfl,hr3,hb3⟩:=h3
    have hcw:Lib.compact ws2=expW (xs.map (·.p)) now:=by
     rw [hws]
     refine expW_is ?_
     have h9:=wsP_all HQ.out HSO.out now
     rw [HD.out] at h9
     exact h9
    rw [hcw] at hr3 ⊢
    have f2:Fr (fun k=>u5.ownBlock=some k) wr w2:=Fr.of_grown hg2 (fun k e=>e)
    have f3:Fr (fun k=>w.heap.size<=k) w2 w3:=Fr.of_belowB hb3
    have fall:Fr (fun k=>w.heap.size<=k) wr w3:=(f2.mono fun k _ e=>(hE.own.lt k e).1).trans (G:=fun k=>w.heap.size<=k) f3 (fun k _ e=>e)
    have f0:Fr (fun k=>F k\/w.heap.size<=k) w w3:=hE.fr.trans fall (fun k _ e=>.inr e)
    have hS3:=hS.frd fall (fun k hk e=>by have:=hFl.out k (hFj k hk);omega) (fun y hy=>(HI.out.doc y ((xsP_sub xs D D.length).subset hy)).fr f0 (fun b ds T fr hb hT q=>by
     rcases q with q|q
     .exact HI.out.keeps b ds T fr hb hT q
     .have:=(Array.getElem?_eq_some_iff.1 hb).1;omega))
    refine ⟨A3,c3,rfl,hr3,Fj,⟨_,_,_,_,_,_,_,_,?_,hS3,?_⟩,f0.mono (fun k hk e=>by
     rcases e with e|e
     .exact e
     .omega),hFj⟩
    .have h9:=xsP_all HQ.out HSO.out now
     rw [HD.out] at h9
     exact h9
    .have h9:=HQ.out.exp HSO.out now
     rw [HLB.out] at h9
     exact h9)
   have HSZ:=hid hE.fr.size
   clear hS hFj hE hown hwl
   have hcp:Hid (∀ w2,w2.ownsRow w.heap.size 9 1 u5 (wsP (xs.map (·.p)) D D.length).length (rows noteC ((wsP (xs.map (·.p)) D D.length).mergeSort fun x y=>decide (x<=y)))->wr.grownBy w2 u5.ownBlock->Calls Tryz.prog 37 #[u5] w2 (ExpPost p c last (xs.map (·.p)) now F w)):=hid (fun w2 ho hg=>by
    have hl9:((wsP (xs.map (·.p)) D D.length).mergeSort fun x y=>decide (x<=y)).length=(wsP (xs.map (·.p)) D D.length).length:=List.length_mergeSort _
    have ho':w2.ownsRow w.heap.size 9 1 u5 ((wsP (xs.map (·.p)) D D.length).mergeSort fun x y=>decide (x<=y)).length (rows noteC ((wsP (xs.map (·.p)) D D.length).mergeSort fun x y=>decide (x<=y))):=by rw [hl9];exact ho
    exact (compT_own ho' (by rw [hl9,wsP_len _ _ (Nat.le_refl _)];have:=HLN.out;omega) (by have:=HSZ.out;have:=hg.size;omega)).mono (fun e3 w3 h3=>HEND.out w2 e3 w3 _ ho' rfl hg h3))
   go_wp2_with fail
   refine (hsrt.out).mono ?_
   rintro e w2 ⟨rfl,ho2,hg2⟩
   have HC2:=hid (hcp.out w2 ho2 hg2)
   clear ho2 hg2
   go_wp2_with fail
   refine (HC2.out).mono ?_
   rintro e w3 h3
   have HP:=hid h3
   obtain ⟨A3,c3,rfl,_⟩:=h3
   go_wp2
   go_ret
   exact HP.out
end Go.Proofs.YthfmekdbcoaolaaGreatDoor
