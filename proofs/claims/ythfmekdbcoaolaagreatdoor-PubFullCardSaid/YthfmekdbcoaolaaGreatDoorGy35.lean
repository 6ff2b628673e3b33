/- Chapter 16: Do where a publication is named, which goes on with another document. -/
import Derived.Test.YthfmekdbcoaolaaGreatDoorGy33
namespace Go.Proofs.YthfmekdbcoaolaaGreatDoor
set_option linter.unusedSimpArgs false
set_option linter.unusedVariables false
open Go.RowKit
open Go.Lib (hid)
set_option maxRecDepth 100000 in
set_option maxHeartbeats 8000000 in
theorem do_put1 {w:World} {p B:Nat} {c:Conf} {last now:Int} {L:List Pub} {F:Nat->Prop} {a:AskP} {At An:Option Addr} {ct cn:Nat} (H:St w p c last L F) (hB:B<=w.heap.size) (hd:DocB w B a.doc (.slice At a.doc.tups.length ct) (.slice An a.doc.notes.length cn)) (hs:AskS a) (he:a.has=true->a.doc.ent.length<=99999990) (h:argE L now a=false) (hm:a.mtch≠[]) {p0:Pub} (hp0:p0∈L) (hpt:p0.tag=a.mtch) (hw:p0.who=a.who) (hk:secK c a.exp=true) (hh:a.has=true) (hN0:secN c a.exp≠0) (hla:last<=1000000) (hFB:∀ k,F k->B<=k) :
 Calls Tryz.prog 32 #[.pointer (some ⟨p,0,none⟩),.int .i64 now,.agg #[.string (str a.who),.string (str a.mtch),.int .i64 a.exp,.bool a.has,.string (str a.doc.ent),.slice At a.doc.tups.length ct,.slice An a.doc.notes.length cn,.string (str a.tag)]] w (DoPost p c F (doR c last L now a) w):=by
 have HARG:=hid (argE_no h)
 have HS0:=hid H
 have hnum:(L.map (·.number)).Nodup/\(L.map (·.tag)).Nodup:=by
  obtain ⟨xs,l,bl,bt,pw,kl,kt,FW,rfl,HI,Q⟩:=H
  exact ⟨pubs_idnd Q.ids,Q.tags⟩
 have HRES:Hid (doR c last L now a=⟨last,setP L (putP p0 a now (secN c a.exp)),⟨200,secN c a.exp,a.tag,true⟩,0⟩):=hid (by have h9:=doR_old4 (last:=last) h hm hnum.1 hnum.2 hp0 hpt hw hk hN0;rw [hh] at h9;exact h9)
 obtain ⟨xs,l,bl,bt,pw,kl,kt,FW,rfl,HI,Q⟩:=H
 obtain ⟨z,hz,rfl⟩:=List.mem_map.1 hp0
 obtain ⟨w0,hw0⟩:∃ w0,(w.alloc (.cells #[.string (str a.who),.string (str a.mtch),.int .i64 a.exp,.bool a.has,.string (str a.doc.ent),.slice At a.doc.tups.length ct,.slice An a.doc.notes.length cn,.string (str a.tag)] 86)).alloc (.cells #[.int .i64 0,.int .i64 0,.string ⟨#[]⟩,.bool false] 83)=w0:=⟨_,rfl⟩
 have hb0:Below w.heap.size w w0:=hw0▸((Below.refl _ _).alloc (Nat.le_refl _) _).alloc (by simp) _
 have hs0:w0.heap.size=w.heap.size+2:=hw0▸(by simp)
 have hka:Blk w0 w.heap.size 86 #[.string (str a.who),.string (str a.mtch),.int .i64 a.exp,.bool a.has,.string (str a.doc.ent),.slice At a.doc.tups.length ct,.slice An a.doc.notes.length cn,.string (str a.tag)]:=hw0▸(Blk.new w _ _).alloc _
 have hkb:Blk w0 (w.heap.size+1) 83 #[.int .i64 0,.int .i64 0,.string ⟨#[]⟩,.bool false]:=hw0▸Blk.new' _ _ _ (by simp)
 have R0:=HI.raw.below hb0
 have HB0:=hid hb0
 have HSZ:=hid hs0
 have HMD:Hid (Calls Tryz.prog 33 #[.pointer (some ⟨p,0,none⟩)] w0 fun e w'=>e=.returned (.bool true)/\w0=w'):=hid (bmade_any R0.top)
 have HTK:Hid (∀ W,Calls Tryz.prog 46 #[.string (str a.tag)] W fun e w'=>e=.returned (.bool true)/\W=w'):=hid (fun W=>by
  have h9:=token_any a.tag W (by have:=hs.tag;omega)
  rw [HARG.out.2.2.1] at h9
  exact h9)
 have HCK:Hid (a.has=true->∀ W,Below w0.heap.size w0 W->Calls Tryz.prog 47 #[.agg #[.string (str a.doc.ent),.slice At a.doc.tups.length ct,.slice An a.doc.notes.length cn]] W fun e w'=>e=.returned (.int .i64 0)/\Below W.heap.size W w'):=hid (fun hh W hW=>by
  have h9:=check_any (B:=B) (Nat.le_trans hB (Nat.le_trans hb0.size hW.size)) ((hd.below (hb0.mono hB)).below (hW.mono (Nat.le_trans hB hb0.size))) hs.doc (he hh)
  rw [HARG.out.2.2.2.2 hh] at h9
  exact h9)
 have HC:Hid (∀ W,Below w0.heap.size w0 W->W.cell? ⟨p,9,none⟩=some (.map (some bt))/\W.cell? ⟨w.heap.size,3,none⟩=some (.bool a.has)/\W.cell? ⟨w.heap.size,4,none⟩=some (.string (str a.doc.ent))/\W.cell? ⟨w.heap.size,5,none⟩=some (.slice At a.doc.tups.length ct)/\W.cell? ⟨w.heap.size,6,none⟩=some (.slice An a.doc.notes.length cn)/\W.cell? ⟨w.heap.size,7,none⟩=some (.string (str a.tag))):=hid (fun W hW=>by
  have k:=(R0.below hW).top
  have k2:=hka.fr (Fr.of_below (F:=fun _=>False) hW) (fun h=>h)
  exact ⟨k.cell 9,k2.cell 3,k2.cell 4,k2.cell 5,k2.cell 6,k2.cell 7⟩)
 have HKA:Hid (∀ W,Below w0.heap.size w0 W->Blk W w.heap.size 86 #[.string (str a.who),.string (str a.mtch),.int .i64 a.exp,.bool a.has,.string (str a.doc.ent),.slice At a.doc.tups.length ct,.slice An a.doc.notes.length cn,.string (str a.tag)]):=hid (fun W hW=>hka.fr (Fr.of_below (F:=fun _=>False) hW) (fun h=>h))
 have HKT:Hid (∀ W,Below w0.heap.size w0 W->Blk W (w.heap.size+1) 83 #[.int .i64 0,.int .i64 0,.string ⟨#[]⟩,.bool false]):=hid (fun W hW=>hkb.fr (Fr.of_below (F:=fun _=>False) hW) (fun h=>h))
 have HV:Hid (∀ n,(Instr.lookup 52 (.map (some bt)) (.string (str a.tag)) false).run Tryz.prog (w0.drewN n)=.ok (.int .i64 0) (w0.drewN n)):=hid (by
  rcases tag_in HI Q a.tag with ⟨hin,_⟩|⟨hno,hg⟩
  .exact absurd hin HARG.out.2.2.2.1
  .exact fun n=>tag_look (R0.tm.drewN n) _ (.inr ⟨hg,rfl⟩))
 have HALL:Hid (∀ W,Below w0.heap.size w0 W->(W.cell? ⟨p,0,none⟩=some (.string (str c.host))/\W.cell? ⟨p,1,none⟩=some (.int .i64 c.calls)/\W.cell? ⟨p,2,none⟩=some (.int .i64 c.pubs)/\W.cell? ⟨p,3,none⟩=some (.int .i64 c.subs)/\W.cell? ⟨p,4,none⟩=some (.int .i64 c.least)/\W.cell? ⟨p,5,none⟩=some (.int .i64 c.most)/\W.cell? ⟨p,6,none⟩=some (.int .i64 c.usual)/\W.cell? ⟨p,8,none⟩=some (.map (some bl))/\W.cell? ⟨p,9,none⟩=some (.map (some bt)))/\(W.cell? ⟨w.heap.size,0,none⟩=some (.string (str a.who))/\W.cell? ⟨w.heap.size,1,none⟩=some (.string (str a.mtch))/\W.cell? ⟨w.heap.size,2,none⟩=some (.int .i64 a.exp)/\W.cell? ⟨w.heap.size,3,none⟩=some (.bool a.has)/\W.cell? ⟨w.heap.size,7,none⟩=some (.string (str a.tag)))):=hid (fun W hW=>by
  have k:=(R0.below hW).top
  have k2:=hka.fr (Fr.of_below (F:=fun _=>False) hW) (fun h=>h)
  exact ⟨⟨k.cell 0,k.cell 1,k.cell 2,k.cell 3,k.cell 4,k.cell 5,k.cell 6,k.cell 8,k.cell 9⟩,k2.cell 0,k2.cell 1,k2.cell 2,k2.cell 3,k2.cell 7⟩)
 have HFIN:Hid (∀ W,Below w0.heap.size w0 W->∀ (n x:Int) (tg:T) (s:ByteArray) (b:Bool) (er:Int),str tg=s->doR c last (xs.map (·.p)) now a=⟨last,xs.map (·.p),⟨n,x,tg,b⟩,er⟩->((((W.setCell ⟨w.heap.size+1,0,none⟩ (.int .i64 n)).setCell ⟨w.heap.size+1,1,none⟩ (.int .i64 x)).setCell ⟨w.heap.size+1,2,none⟩ (.string s)).setCell ⟨w.heap.size+1,3,none⟩ (.bool b)).cell? ⟨w.heap.size+1,0,none⟩=some (.int .i64 n)/\((((W.setCell ⟨w.heap.size+1,0,none⟩ (.int .i64 n)).setCell ⟨w.heap.size+1,1,none⟩ (.int .i64 x)).setCell ⟨w.heap.size+1,2,none⟩ (.string s)).setCell ⟨w.heap.size+1,3,none⟩ (.bool b)).cell? ⟨w.heap.size+1,1,none⟩=some (.int .i64 x)/\((((W.setCell ⟨w.heap.size+1,0,none⟩ (.int .i64 n)).setCell ⟨w.heap.size+1,1,none⟩ (.int .i64 x)).setCell ⟨w.heap.size+1,2,none⟩ (.string s)).setCell ⟨w.heap.size+1,3,none⟩ (.bool b)).cell? ⟨w.heap.size+1,2,none⟩=some (.string s)/\((((W.setCell ⟨w.heap.size+1,0,none⟩ (.int .i64 n)).setCell ⟨w.heap.size+1,1,none⟩ (.int .i64 x)).setCell ⟨w.heap.size+1,2,none⟩ (.string s)).setCell ⟨w.heap.size+1,3,none⟩ (.bool b)).cell? ⟨w.heap.size+1,3,none⟩=some (.bool b)/\DoPost p c F (doR c last (xs.map (·.p)) now a) w (.returned (.tuple #[.agg #[.int .i64 n,.int .i64 x,.string s,.bool b],.int .i64 er])) ((((W.setCell ⟨w.heap.size+1,0,none⟩ (.int .i64 n)).setCell ⟨w.heap.size+1,1,none⟩ (.int .i64 x)).setCell ⟨w.heap.size+1,2,none⟩ (.string s)).setCell ⟨w.heap.size+1,3,none⟩ (.bool b))):=hid (fun W hW n x tg s b er hs ht=>by
  subst hs
  obtain ⟨q0,q1,q2,q3⟩:=four_c (hkb.fr (Fr.of_below (F:=fun _=>False) hW) (fun h=>h)) (.int .i64 n) (.int .i64 x) (.string (str tg)) (.bool b)
  exact ⟨q0,q1,q2,q3,do_same HS0.out ht (four_fr (thenB_ hb0 hW) (by omega) _ _ _ _)⟩)
 have HL1:Hid (∀ W,Below w0.heap.size w0 W->∀ n,(Instr.lookup 52 (.map (some bt)) (.string (str a.mtch)) false).run Tryz.prog (W.drewN n)=.ok (.int .i64 z.p.number) (W.drewN n)):=hid (fun W hW n=>by
  rw [<-hpt]
  exact tag_look ((R0.below hW).tm.drewN n) _ (.inl (HI.gett Q.tags hz)))
 have HL2:Hid (∀ W,Below w0.heap.size w0 W->∀ n,(Instr.lookup 51 (.map (some bl)) (.int .i64 z.p.number) true).run Tryz.prog (W.drewN n)=.ok (.tuple #[.pointer (some ⟨z.b,0,none⟩),.bool true]) (W.drewN n)):=hid (fun W hW n=>(live_look ((R0.below hW).lm.drewN n) _).2 _ (HI.getl (pubs_idnd Q.ids) hz))
 have HZ:Hid (∀ W,Below w0.heap.size w0 W->Blk W z.b 66 (pubA z)):=hid (fun W hW=>(HI.its z hz).fr (Fr.of_below (F:=fun _=>False) (thenB_ hb0 hW)) (fun h=>h))
 have qe:=str_emp hm
 have qw1:((str z.p.who).toList == (str a.who).toList)=true:=by rw [hw];exact beq_self_eq_true _
 have qw2:(str z.p.who).toList=(str a.who).toList:=by rw [hw]
 have qw3:((str z.p.who).toList != (str a.who).toList)=false:=by rw [hw];simp
 have HSEC:=hid (sec_call c a.exp)
 have HC10:Hid (∀ W,Below w0.heap.size w0 W->W.cell? ⟨p,0,none⟩=some (.string (str c.host))/\W.cell? ⟨p,1,none⟩=some (.int .i64 c.calls)/\W.cell? ⟨p,2,none⟩=some (.int .i64 c.pubs)/\W.cell? ⟨p,3,none⟩=some (.int .i64 c.subs)/\W.cell? ⟨p,4,none⟩=some (.int .i64 c.least)/\W.cell? ⟨p,5,none⟩=some (.int .i64 c.most)/\W.cell? ⟨p,6,none⟩=some (.int .i64 c.usual)/\W.cell? ⟨w.heap.size,2,none⟩=some (.int .i64 a.exp)):=hid (fun W hW=>by
  obtain ⟨⟨x0,x1,x2,x3,x4,x5,x6,_⟩,_,_,y2,_⟩:=HALL.out W hW
  exact ⟨x0,x1,x2,x3,x4,x5,x6,y2⟩)
 have HR:Hid (∀ W,Below w0.heap.size w0 W->RawS W p c last bl bt pw kl kt l FW):=hid (fun W hW=>R0.below hW)
 have HSI:=hid HI
 have HZM:=hid hz
 have HFB:=hid hFB
 have HBW:=hid hB
 have HDB:=hid hd
 have HNB:=hid (sec_lo Q.right a.exp)
 have HDL:=hid (docE_lens (HARG.out.2.2.2.2 hh))
 have HPE:Hid (∀ wA w8 vt vn,RawS wA p c last bl bt pw kl (mdel (str z.p.tag) kt) l FW->Fr (fun k=>k=bt\/k=z.b\/w.heap.size<=k) w wA->DocM wA a.doc vt vn->(∃ cs,Blk wA z.b 66 cs)->(∃ _u:Unit,Blk wA w.heap.size 86 #[.string (str a.who),.string (str a.mtch),.int .i64 a.exp,.bool true,.string (str a.doc.ent),.slice At a.doc.tups.length ct,.slice An a.doc.notes.length cn,.string (str a.tag)])->(∃ _u:Unit,Blk wA (w.heap.size+1) 83 #[.int .i64 0,.int .i64 0,.string ⟨#[]⟩,.bool false])->ArmPost z.b bt pw z.p.number z.p.who a.doc.ent vt vn a.tag (now+10*secN c a.exp) (mdel (str z.p.tag) kt) l FW wA (.returned (.tuple #[])) w8->Blk w8 w.heap.size 86 #[.string (str a.who),.string (str a.mtch),.int .i64 a.exp,.bool true,.string (str a.doc.ent),.slice At a.doc.tups.length ct,.slice An a.doc.notes.length cn,.string (str a.tag)]/\Blk w8 (w.heap.size+1) 83 #[.int .i64 0,.int .i64 0,.string ⟨#[]⟩,.bool false]/\∀ w9,Fr (fun k=>k=w.heap.size+1) w8 w9->DoPost p c F (doR c last (xs.map (·.p)) now a) w (.returned (.tuple #[.agg #[.int .i64 200,.int .i64 (secN c a.exp),.string (str a.tag),.bool true],.int .i64 0])) w9):=hid (fun wA w8 vt vn rA fA hdm hkA ⟨_,kaA⟩ ⟨_,kbA⟩ hA=>by
  have hA':=hA
  obtain ⟨_,FW',_,_,_,f8,_⟩:=hA'
  obtain ⟨zp,zl,zt,zlt⟩:=HI.ne_x hz
  have hfw:∀ k,w.heap.size<=k->¬FW k:=fun k hk q=>by have:=HI.wh.lt q;omega
  have btlt:=HI.tm.lt
  have kb8:=kbA.fr f8 (by
   rintro (e|e|e)
   .omega
   .omega
   .exact hfw _ (by omega) e)
  refine ⟨kaA.fr f8 (by
   rintro (e|e|e)
   .omega
   .omega
   .exact hfw _ (Nat.le_refl _) e),kb8,fun w9 f9=>?_⟩
  have ha:=HARG.out
  have hsl:=HNB.out
  have hpd:docE (putP z.p a now (secN c a.exp)).doc=0:=by
   unfold putP
   rw [hh]
   exact ha.2.2.2.2 hh
  have hpe:(putP z.p a now (secN c a.exp)).doc=a.doc:=by unfold putP;rw [hh];rfl
  have he:=put_end (q:=putP z.p a now (secN c a.exp)) HI Q hz rfl ha.2.2.2.1 ha.2.2.1 (by show 0<=now+10*secN c a.exp;omega) (by show now+10*secN c a.exp<=1099511627776;omega) hpd rA fA (hpe.symm▸hdm) hkA (by rw [hpe];exact hA) f9 (by omega) ⟨_,kb8⟩
  rw [HRES.out]
  exact ⟨rfl,he⟩)
 have hd1:decide (now<0)=false:=decide_eq_false (by have:=HARG.out.1;omega)
 have hd2:decide (549755813888<now)=false:=decide_eq_false (by have:=HARG.out.2.1;omega)
 have hd3:decide (now > 549755813888)=false:=hd2
 have hlk:=HV.out
 have HX0:Hid (Below w0.heap.size w0 w0):=hid (Below.refl _ _)
 have HX0d:Hid (Below w0.heap.size w0 w0.drew):=hid (Below.refl _ _).drew
 obtain ⟨x9,y3,y4,y5,y6,y7⟩:=HC.out w0 (Below.refl _ _)
 clear h hm HI Q R0 hd hka hkb hb0 hs he hB hs0 hla hFB hnum hp0 hpt hw
 generalize hDO:doR c last (xs.map (·.p)) now a=DO at *
 have HDO:=hid hDO
 clear hDO
 generalize hN:secN c a.exp=N at *
 generalize hK:secK c a.exp=K at *
 have HNK:=hid (And.intro hN hK)
 clear hN hK
 subst hk
 have hdN:decide (N=0)=false:=decide_eq_false hN0
 have hdN2:(N == 0)=false:=by simpa using hN0
 clear hN0
 have HCK3:=hid (HCK.out hh)
 replace HCK:=HCK3
 rw [hh] at HC HKA HALL hw0
 rw [hh]
 have HCK2:=HCK
 have hlk1:=HV.out 1
 have hlk2:(Instr.lookup 52 (.map (some bt)) (.string (str a.tag)) false).run Tryz.prog w0.drew=.ok (.int .i64 0) w0.drew:=hlk1
 clear hlk HV HCK
 go_enter Tryz.func32,Tryz.ntmps32
 go_wp2_with fail
 refine (HMD.out).mono ?_
 rintro e w1 ⟨rfl,rfl⟩
 go_wp2_with fail
 go_region_held3 (fun w'=>w'.cell? ⟨p,9,none⟩=some (.map (some bt))/\w'.cell? ⟨w.heap.size,3,none⟩=some (.bool true)/\w'.cell? ⟨w.heap.size,4,none⟩=some (.string (str a.doc.ent))/\w'.cell? ⟨w.heap.size,5,none⟩=some (.slice At a.doc.tups.length ct)/\w'.cell? ⟨w.heap.size,6,none⟩=some (.slice An a.doc.notes.length cn)/\w'.cell? ⟨w.heap.size,7,none⟩=some (.string (str a.tag)))
  (first|exact HC.out _ HX3.out|exact HC.out _ HX0d.out) (first|(go_at_call 46;(with_reducible refine (HTK.out _).mono ?_);rintro e w3 ⟨rfl,rfl⟩)|(go_at_call 47;(with_reducible refine (HCK2.out _ HX0d.out).mono ?_);rintro e w3 ⟨rfl,hb3⟩;have HX3:Hid (Below w0.heap.size w0 w3):=hid (thenB_ HX0d.out hb3);clear hb3))
 clear x9 y3 y4 y5 y6 y7
 obtain ⟨⟨x0,x1,x2,x3,x4,x5,x6,x8,x9⟩,y0,y1,y2,y3,y7⟩:=HALL.out w3 HX3.out
 have hl1:=HL1.out w3 HX3.out
 have hl2:=HL2.out w3 HX3.out
 go_wp2_with fail
 go_quiet (fail)
 have hx4:=below_drewN HX3.out nq
 generalize hw4:w3.drewN nq=w4 at *
 have HX4:=hid hx4
 clear hw4 hx4
 clear hl1 hl2
 clear x0 x1 x2 x3 x4 x5 x6 x8 x9 y0 y1 y2 y3 y7
 obtain ⟨⟨x0,x1,x2,x3,x4,x5,x6,x8,x9⟩,y0,y1,y2,y3,y7⟩:=HALL.out w4 HX4.out
 have b1:w4.cell? ⟨z.b,1,none⟩=some (.string (str z.p.who)):=(HZ.out w4 HX4.out).cell 1
 go_wp2_with fail
 go_quiet (fail)
 have hx5:=below_drewN HX4.out nq
 generalize hw5:w4.drewN nq=w5 at *
 have HX5:=hid hx5
 clear hw5 hx5
 clear b1
 clear x0 x1 x2 x3 x4 x5 x6 x8 x9 y0 y1 y2 y3 y7
 have HX5d:Hid (Below w0.heap.size w0 w5.drew):=hid HX5.out.drew
 obtain ⟨x0,x1,x2,x3,x4,x5,x6,y2⟩:=HC10.out w5 HX5.out
 go_wp2_with fail
 go_region_held3 (fun w'=>w'.cell? ⟨p,0,none⟩=some (.string (str c.host))/\w'.cell? ⟨p,1,none⟩=some (.int .i64 c.calls)/\w'.cell? ⟨p,2,none⟩=some (.int .i64 c.pubs)/\w'.cell? ⟨p,3,none⟩=some (.int .i64 c.subs)/\w'.cell? ⟨p,4,none⟩=some (.int .i64 c.least)/\w'.cell? ⟨p,5,none⟩=some (.int .i64 c.most)/\w'.cell? ⟨p,6,none⟩=some (.int .i64 c.usual)/\w'.cell? ⟨w.heap.size,2,none⟩=some (.int .i64 a.exp))
  (first|exact HC10.out _ HX6.out|exact HC10.out _ HX5d.out) (first|(go_at_call 30;(with_reducible refine (HSEC.out _).mono ?_);rintro e w6 ⟨rfl,hb6⟩;have HX6:Hid (Below w0.heap.size w0 w6):=hid (thenB_ HX5d.out hb6);clear hb6))
 clear x0 x1 x2 x3 x4 x5 x6 y2
 have y3:=(HKA.out w6 HX6.out).cell 3
 obtain ⟨w7,hu7,r7,f7⟩:=(HR.out w6 HX6.out).untag z.p.tag
 have hx6:=thenB_ HB0.out HX6.out
 have btlt:bt<w.heap.size:=HSI.out.tm.lt
 have zlt:=HSI.out.ne_x HZM.out
 have b2:w6.cell? ⟨z.b,2,none⟩=some (.string (str z.p.tag)):=(HZ.out w6 HX6.out).cell 2
 have x9:=(HR.out w6 HX6.out).top.cell 9
 have hz7:=(HZ.out w6 HX6.out).fr f7 (fun e=>zlt.2.2.1 e)
 have ka7:=(HKA.out w6 HX6.out).fr f7 (by show ¬w.heap.size=bt;omega)
 have kb7:=(HKT.out w6 HX6.out).fr f7 (by show ¬w.heap.size+1=bt;omega)
 have y73:=ka7.cell 3
 have y77:=ka7.cell 7
 have F67:Hid (Fr (fun k=>k=bt\/k=z.b\/w.heap.size<=k) w w7):=hid ((Fr.of_below hx6).trans (G:=fun k=>k=bt) f7 (fun k _ e=>.inl e))
 have z4:w7.cell? ⟨z.b,4,none⟩=some (.string (str z.p.doc.ent)):=hz7.cell 4
 have z5:w7.cell? ⟨z.b,5,none⟩=some z.vt:=hz7.cell 5
 have z6:w7.cell? ⟨z.b,6,none⟩=some z.vn:=hz7.cell 6
 have y74:=ka7.cell 4
 have y75:=ka7.cell 5
 have y76:=ka7.cell 6
 have hb07:Below B w w7:=⟨F67.out.os,F67.out.tape,F67.out.output,F67.out.size,fun k hk=>F67.out.block k (Nat.lt_of_lt_of_le hk HBW.out) (by
  have h1:=HFB.out bt ((HSI.out.ff bt).2 (.inr (.inr (.inl rfl))))
  have h2:=HFB.out z.b ((HSI.out.ff z.b).2 (.inr (.inr (.inr (.inl (List.mem_map.2 ⟨z,HZM.out,rfl⟩))))))
  have h3:=HBW.out
  rintro (e|e|e) <;> omega)⟩
 have HCP:=hid (copied_any (w:=w7) (Nat.le_trans HBW.out F67.out.size) (HDB.out.below hb07) HDL.out.1 HDL.out.2)
 unfold CopPost at HCP
 have HR7:=hid r7
 have HZ7:=hid hz7
 have HA7:=hid ka7
 have HB7:=hid kb7
 have HZP:=hid zlt
 clear r7 f7 hx6 btlt zlt hz7 ka7 kb7 hb07
 go_wp2_with fail
 go_still_tail 8,(by kernel_rfl)
 go_wp2_with fail
 refine (HCP.out).mono ?_
 rintro e w9 ⟨A5,c5,A6,c6,rfl,hdm9,hb9⟩
 have hz9:=HZ7.out.fr (Fr.of_below (F:=fun _=>False) hb9) (fun h=>h)
 have r9:=HR7.out.below hb9
 have ka9:=HA7.out.fr (Fr.of_below (F:=fun _=>False) hb9) (fun h=>h)
 have kb9:=HB7.out.fr (Fr.of_below (F:=fun _=>False) hb9) (fun h=>h)
 have z4:w9.cell? ⟨z.b,4,none⟩=some (.string (str z.p.doc.ent)):=hz9.cell 4
 have z5:w9.cell? ⟨z.b,5,none⟩=some z.vt:=hz9.cell 5
 have z6:w9.cell? ⟨z.b,6,none⟩=some z.vn:=hz9.cell 6
 have g4:=hz9.frozen 4
 have g5:=hz9.frozen 5
 have g6:=hz9.frozen 6
 obtain ⟨wA,hwA⟩:∃ wA,((w9.setCell ⟨z.b,4,none⟩ (.string (str a.doc.ent))).setCell ⟨z.b,5,none⟩ (.slice A5 a.doc.tups.length c5)).setCell ⟨z.b,6,none⟩ (.slice A6 a.doc.notes.length c6)=wA:=⟨_,rfl⟩
 have fA:Fr (fun k=>k=z.b) w9 wA:=hwA▸(((Fr.refl (fun k=>k=z.b) w9).set (p:=⟨z.b,4,none⟩) (fun _=>rfl) _).set (p:=⟨z.b,5,none⟩) (fun _=>rfl) _).set (p:=⟨z.b,6,none⟩) (fun _=>rfl) _
 have hzA:Blk wA z.b 66 (pubL z.p.number z.p.who z.p.tag z.p.until_ a.doc.ent (.slice A5 a.doc.tups.length c5) (.slice A6 a.doc.notes.length c6)):=hwA▸((hz9.set_ 4 _).set_ 5 _).set_ 6 _
 have rA:=r9.fr fA (Ne.symm HZP.out.1) (Ne.symm HZP.out.2.1) (Ne.symm HZP.out.2.2.1) (fun k hk e=>HSI.out.fwx HZM.out (e▸hk))
 have kaA:=ka9.fr fA (by have:=HZP.out.2.2.2;show ¬w.heap.size=z.b;omega)
 have kbA:=kb9.fr fA (by have:=HZP.out.2.2.2;show ¬w.heap.size+1=z.b;omega)
 have hdmA:=hdm9.fr fA (fun b ds T fr hb hT e=>by
  subst e
  have hz9':=hz9
  unfold Blk at hz9'
  rw [hz9'] at hb
  injection hb with hb
  injection hb with _ hb _
  rcases hT with rfl|rfl <;> exact absurd hb (by decide))
 have F7A:Hid (Fr (fun k=>k=bt\/k=z.b\/w.heap.size<=k) w wA):=hid ((F67.out.trans (G:=fun k=>w7.heap.size<=k) (Fr.of_belowB hb9) (fun k _ e=>.inr (.inr (Nat.le_trans F67.out.size e)))).trans (G:=fun k=>k=z.b) fA (fun k _ e=>.inr (.inl e)))
 have HARM:=hid (arm_any (tag:=a.tag) (now:=now) (n:=N) rA.top hzA rA.tm rA.wh rA.ft HARG.out.1 HARG.out.2.1 HNB.out.1 HNB.out.2)
 have HF8:=hid (fun w8 hA=>HPE.out wA w8 _ _ rA F7A.out hdmA ⟨_,hzA⟩ ⟨(),kaA⟩ ⟨(),kbA⟩ hA)
 have y7:=kaA.cell 7
 clear hdm9 hb9 hz9 r9 ka9 kb9 fA hzA rA kaA kbA hdmA y73 y74 y75 y76 y77
 go_upto_region 21 with (fail)
 try rw [hwA]
 clear hwA
 go_wp2_with fail
 refine (HARM.out).mono ?_
 rintro e w8 ⟨rfl,hA⟩
 obtain ⟨ka8,kb8,hfin⟩:=HF8.out w8 ⟨rfl,hA⟩
 have y7:=ka8.cell 7
 have y3:=ka8.cell 3
 have t0:=kb8.cell 0
 have t1:=kb8.cell 1
 have t2:=kb8.cell 2
 have t3:=kb8.cell 3
 have f0:=kb8.frozen 0
 have f1:=kb8.frozen 1
 have f2:=kb8.frozen 2
 have f3:=kb8.frozen 3
 obtain ⟨q0,q1,q2,q3⟩:=four_c kb8 (.int .i64 200) (.int .i64 N) (.string (str a.tag)) (.bool true)
 have HP:=hid (hfin _ ((((Fr.refl (fun k=>k=w.heap.size+1) w8).set (p:=⟨w.heap.size+1,0,none⟩) (fun _=>rfl) (.int .i64 200)).set (p:=⟨w.heap.size+1,1,none⟩) (fun _=>rfl) (.int .i64 N)).set (p:=⟨w.heap.size+1,2,none⟩) (fun _=>rfl) (.string (str a.tag)) |>.set (p:=⟨w.heap.size+1,3,none⟩) (fun _=>rfl) (.bool true)))
 clear hA ka8 kb8 hfin
 go_wp2
 exact bodyPost_ret (v:=.tuple #[.agg #[.int .i64 200,.int .i64 N,.string (str a.tag),.bool true],.int .i64 0]) (by simp [results,Tryz.results32,go_sem,q0,q1,q2,q3]) rfl HP.out
end Go.Proofs.YthfmekdbcoaolaaGreatDoor
