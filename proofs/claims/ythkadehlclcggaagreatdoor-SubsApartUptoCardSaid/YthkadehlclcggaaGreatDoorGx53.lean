/- Chapter 19: copied. -/
import Derived.Test.YthkadehlclcggaaGreatDoorGx52
import Derived.Test.YthkadehlclcggaaGreatDoorGx50
namespace Go.Proofs.YthkadehlclcggaaGreatDoor
set_option linter.unusedSimpArgs false
set_option linter.unusedVariables false
open Go.RowKit
open Go.Lib (hid)
def sub0:Array Value:=#[.int .i64 0,.string ⟨#[]⟩,.string ⟨#[]⟩,.string ⟨#[]⟩,.slice none 0 0,.int .i64 0,.string ⟨#[]⟩,.int .i64 0,.string ⟨#[]⟩,.string ⟨#[]⟩,.string ⟨#[]⟩,.string ⟨#[]⟩,.string ⟨#[]⟩,.int .i64 0,.slice none 0 0,.slice none 0 0,.slice none 0 0,.string ⟨#[]⟩,.string ⟨#[]⟩,.string ⟨#[]⟩,.string ⟨#[]⟩,.int .i64 0,.slice none 0 0,.slice none 0 0,.slice none 0 0,.string ⟨#[]⟩,.string ⟨#[]⟩,.string ⟨#[]⟩,.int .i64 0,.slice none 0 0,.slice none 0 0,.slice none 0 0,.int .i64 0,.int .i64 0]
theorem subA_one {s:SubP} {v:SlV} (he:v.ev.oneCell'=true) (h:v.Ok):(subA s v).all (·.oneCell')=true:=by
 have e1:∀ s,(Value.string s).oneCell'=true:=fun _=>rfl
 have e2:∀ k n,(Value.int k n).oneCell'=true:=fun _ _=>rfl
 simp [subA,e1,e2,he,h.lp,h.lh,h.la,h.rp,h.rh,h.ra,h.tp,h.th,h.ro]
theorem SubM.ok {w:World} {s:SubP} {v:SlV} (h:SubM w s v):v.ev.oneCell'=true/\v.Ok:=⟨h.ev.one,h.lp.one,h.lh.one,h.la.one,h.rp.one,h.rh.one,h.ra.one,h.tp.one,h.th.one,by
 obtain ⟨A,c,e,_⟩:=h.ro
 rw [e]
 rfl⟩
def CopS (s:SubP) (w:World) (e:Ending) (w':World):Prop:=∃ v',e=.returned (.agg (subA s v'))/\SubM w' s v'/\Below w.heap.size w w'
structure CopI (w W:World) (g:Nat) (s:SubP) (v:SlV):Prop where
 k:Blk W g 39 (subA s v)
 m:SubM W s v
 r:Blk W w.heap.size 39 sub0
 be:Below w.heap.size w W
 lt:w.heap.size<g
section
variable {w W W':World} {g:Nat} {s:SubP} {v:SlV} {x:Value}
theorem CopI.below (h:CopI w W g s v) (hb:Below W.heap.size W W'):CopI w W' g s v :=
 ⟨h.k.fr (Fr.of_below (F:=fun _=>False) hb) (fun h=>h),h.m.below hb,h.r.fr (Fr.of_below (F:=fun _=>False) hb) (fun h=>h),h.be.trans (hb.mono h.be.size),h.lt⟩
theorem CopI.put (h:CopI w W g s v) {v':SlV} (hf:Fr (fun k=>k=g) W W') (hk:Blk W' g 39 (subA s v')) (hm:SubM W s v'):CopI w W' g s v' :=
 ⟨hk,hm.fr hf (keepP_blk h.k (by decide) (by decide)),h.r.fr hf (by have:=h.lt;omega),below_upfr h.be (Nat.le_refl _) hf (fun k e=>by have:=h.lt;omega),h.lt⟩
theorem CopI.ev (h:CopI w W g s v) (hp:PrM W s.ev.params x):CopI w (W.setCell ⟨g,4,none⟩ x) g s ⟨x,v.lp,v.lh,v.la,v.rp,v.rh,v.ra,v.tp,v.th,v.ro⟩ :=
 h.put ((Fr.refl (fun k=>k=g) W).set (p:=⟨g,4,none⟩) (fun _=>rfl) x) (blk_setCells [x] (off:=4) h.k (show 5<=34 by omega)) ⟨hp,h.m.lp,h.m.lh,h.m.la,h.m.rp,h.m.rh,h.m.ra,h.m.tp,h.m.th,h.m.ro⟩
theorem CopI.lp (h:CopI w W g s v) (hp:PrM W s.dlg.loc.uri.params x):CopI w (W.setCell ⟨g,14,none⟩ x) g s ⟨v.ev,x,v.lh,v.la,v.rp,v.rh,v.ra,v.tp,v.th,v.ro⟩ :=
 h.put ((Fr.refl (fun k=>k=g) W).set (p:=⟨g,14,none⟩) (fun _=>rfl) x) (blk_setCells [x] (off:=14) h.k (show 15<=34 by omega)) ⟨h.m.ev,hp,h.m.lh,h.m.la,h.m.rp,h.m.rh,h.m.ra,h.m.tp,h.m.th,h.m.ro⟩
theorem CopI.lh (h:CopI w W g s v) (hp:PrM W s.dlg.loc.uri.headers x):CopI w (W.setCell ⟨g,15,none⟩ x) g s ⟨v.ev,v.lp,x,v.la,v.rp,v.rh,v.ra,v.tp,v.th,v.ro⟩ :=
 h.put ((Fr.refl (fun k=>k=g) W).set (p:=⟨g,15,none⟩) (fun _=>rfl) x) (blk_setCells [x] (off:=15) h.k (show 16<=34 by omega)) ⟨h.m.ev,h.m.lp,hp,h.m.la,h.m.rp,h.m.rh,h.m.ra,h.m.tp,h.m.th,h.m.ro⟩
theorem CopI.la (h:CopI w W g s v) (hp:PrM W s.dlg.loc.params x):CopI w (W.setCell ⟨g,16,none⟩ x) g s ⟨v.ev,v.lp,v.lh,x,v.rp,v.rh,v.ra,v.tp,v.th,v.ro⟩ :=
 h.put ((Fr.refl (fun k=>k=g) W).set (p:=⟨g,16,none⟩) (fun _=>rfl) x) (blk_setCells [x] (off:=16) h.k (show 17<=34 by omega)) ⟨h.m.ev,h.m.lp,h.m.lh,hp,h.m.rp,h.m.rh,h.m.ra,h.m.tp,h.m.th,h.m.ro⟩
theorem CopI.rp (h:CopI w W g s v) (hp:PrM W s.dlg.rem.uri.params x):CopI w (W.setCell ⟨g,22,none⟩ x) g s ⟨v.ev,v.lp,v.lh,v.la,x,v.rh,v.ra,v.tp,v.th,v.ro⟩ :=
 h.put ((Fr.refl (fun k=>k=g) W).set (p:=⟨g,22,none⟩) (fun _=>rfl) x) (blk_setCells [x] (off:=22) h.k (show 23<=34 by omega)) ⟨h.m.ev,h.m.lp,h.m.lh,h.m.la,hp,h.m.rh,h.m.ra,h.m.tp,h.m.th,h.m.ro⟩
theorem CopI.rh (h:CopI w W g s v) (hp:PrM W s.dlg.rem.uri.headers x):CopI w (W.setCell ⟨g,23,none⟩ x) g s ⟨v.ev,v.lp,v.lh,v.la,v.rp,x,v.ra,v.tp,v.th,v.ro⟩ :=
 h.put ((Fr.refl (fun k=>k=g) W).set (p:=⟨g,23,none⟩) (fun _=>rfl) x) (blk_setCells [x] (off:=23) h.k (show 24<=34 by omega)) ⟨h.m.ev,h.m.lp,h.m.lh,h.m.la,h.m.rp,hp,h.m.ra,h.m.tp,h.m.th,h.m.ro⟩
theorem CopI.ra (h:CopI w W g s v) (hp:PrM W s.dlg.rem.params x):CopI w (W.setCell ⟨g,24,none⟩ x) g s ⟨v.ev,v.lp,v.lh,v.la,v.rp,v.rh,x,v.tp,v.th,v.ro⟩ :=
 h.put ((Fr.refl (fun k=>k=g) W).set (p:=⟨g,24,none⟩) (fun _=>rfl) x) (blk_setCells [x] (off:=24) h.k (show 25<=34 by omega)) ⟨h.m.ev,h.m.lp,h.m.lh,h.m.la,h.m.rp,h.m.rh,hp,h.m.tp,h.m.th,h.m.ro⟩
theorem CopI.tp (h:CopI w W g s v) (hp:PrM W s.dlg.tgt.params x):CopI w (W.setCell ⟨g,29,none⟩ x) g s ⟨v.ev,v.lp,v.lh,v.la,v.rp,v.rh,v.ra,x,v.th,v.ro⟩ :=
 h.put ((Fr.refl (fun k=>k=g) W).set (p:=⟨g,29,none⟩) (fun _=>rfl) x) (blk_setCells [x] (off:=29) h.k (show 30<=34 by omega)) ⟨h.m.ev,h.m.lp,h.m.lh,h.m.la,h.m.rp,h.m.rh,h.m.ra,hp,h.m.th,h.m.ro⟩
theorem CopI.th (h:CopI w W g s v) (hp:PrM W s.dlg.tgt.headers x):CopI w (W.setCell ⟨g,30,none⟩ x) g s ⟨v.ev,v.lp,v.lh,v.la,v.rp,v.rh,v.ra,v.tp,x,v.ro⟩ :=
 h.put ((Fr.refl (fun k=>k=g) W).set (p:=⟨g,30,none⟩) (fun _=>rfl) x) (blk_setCells [x] (off:=30) h.k (show 31<=34 by omega)) ⟨h.m.ev,h.m.lp,h.m.lh,h.m.la,h.m.rp,h.m.rh,h.m.ra,h.m.tp,hp,h.m.ro⟩
theorem CopI.ro (h:CopI w W g s v) (hp:RdV W 9 1 s.dlg.routes.length x (rows noteC s.dlg.routes)):CopI w (W.setCell ⟨g,31,none⟩ x) g s ⟨v.ev,v.lp,v.lh,v.la,v.rp,v.rh,v.ra,v.tp,v.th,x⟩ :=
 h.put ((Fr.refl (fun k=>k=g) W).set (p:=⟨g,31,none⟩) (fun _=>rfl) x) (blk_setCells [x] (off:=31) h.k (show 32<=34 by omega)) ⟨h.m.ev,h.m.lp,h.m.lh,h.m.la,h.m.rp,h.m.rh,h.m.ra,h.m.tp,h.m.th,hp⟩
theorem CopI.two_tp (h:CopI w W g s v) {y:Value} (hp:PrM W s.dlg.tgt.params x) (hq:PrM W s.dlg.tgt.headers y):∃ v',CopI w ((W.setCell ⟨g,29,none⟩ x).setCell ⟨g,30,none⟩ y) g s v' :=
 ⟨_,(h.tp hp).th (hq.fr ((Fr.refl (fun k=>k=g) W).set (p:=⟨g,29,none⟩) (fun _=>rfl) x) (keepP_blk h.k (by decide) (by decide)))⟩
theorem CopI.two_lp (h:CopI w W g s v) {y:Value} (hp:PrM W s.dlg.loc.uri.params x) (hq:PrM W s.dlg.loc.uri.headers y):∃ v',CopI w ((W.setCell ⟨g,14,none⟩ x).setCell ⟨g,15,none⟩ y) g s v' :=
 ⟨_,(h.lp hp).lh (hq.fr ((Fr.refl (fun k=>k=g) W).set (p:=⟨g,14,none⟩) (fun _=>rfl) x) (keepP_blk h.k (by decide) (by decide)))⟩
theorem CopI.two_rp (h:CopI w W g s v) {y:Value} (hp:PrM W s.dlg.rem.uri.params x) (hq:PrM W s.dlg.rem.uri.headers y):∃ v',CopI w ((W.setCell ⟨g,22,none⟩ x).setCell ⟨g,23,none⟩ y) g s v' :=
 ⟨_,(h.rp hp).rh (hq.fr ((Fr.refl (fun k=>k=g) W).set (p:=⟨g,22,none⟩) (fun _=>rfl) x) (keepP_blk h.k (by decide) (by decide)))⟩
theorem CopI.two_la (h:CopI w W g s v) {y:Value} (hp:PrM W s.dlg.loc.params x) (hq:PrM W s.dlg.rem.params y):∃ v',CopI w ((W.setCell ⟨g,16,none⟩ x).setCell ⟨g,24,none⟩ y) g s v' :=
 ⟨_,(h.la hp).ra (hq.fr ((Fr.refl (fun k=>k=g) W).set (p:=⟨g,16,none⟩) (fun _=>rfl) x) (keepP_blk h.k (by decide) (by decide)))⟩
structure CopC (W:World) (g:Nat) (v:SlV):Prop where
 ev:W.cell? ⟨g,4,none⟩=some v.ev
 lp:W.cell? ⟨g,14,none⟩=some v.lp
 lh:W.cell? ⟨g,15,none⟩=some v.lh
 la:W.cell? ⟨g,16,none⟩=some v.la
 rp:W.cell? ⟨g,22,none⟩=some v.rp
 rh:W.cell? ⟨g,23,none⟩=some v.rh
 ra:W.cell? ⟨g,24,none⟩=some v.ra
 tp:W.cell? ⟨g,29,none⟩=some v.tp
 th:W.cell? ⟨g,30,none⟩=some v.th
 ro:W.cell? ⟨g,31,none⟩=some v.ro
 f:∀ i,W.frozen? ⟨g,i,none⟩=false
theorem cop_c (h:Blk W g 39 (subA s v)):CopC W g v:=⟨h.cell 4,h.cell 14,h.cell 15,h.cell 16,h.cell 22,h.cell 23,h.cell 24,h.cell 29,h.cell 30,h.cell 31,h.frozen⟩
end
set_option maxRecDepth 100000 in
set_option maxHeartbeats 16000000 in
theorem scopied_any {w:World} {b:Nat} {s:SubP} {v:SlV} (hk:Blk w b 39 (subA s v)) (hm:SubM w s v) (hz:SubZ s):Calls Tryz.prog 39 #[.pointer (some ⟨b,0,none⟩)] w (CopS s w):=by
 obtain ⟨w0,hw0⟩:∃ w0,w.alloc (.cells sub0 39)=w0:=⟨_,rfl⟩
 have hb0:Below w.heap.size w w0:=hw0▸(Below.refl _ _).alloc (Nat.le_refl _) _
 have hk0:Blk w0 w.heap.size 39 sub0:=hw0▸Blk.new w _ _
 have hs0:w0.heap.size=w.heap.size+1:=hw0▸(by simp)
 have HS0:=hid hs0
 clear hs0
 have hbl:=hk.lt
 have HKB:=hid (hk.fr (Fr.of_below (F:=fun _=>False) hb0) (fun h=>h))
 have HOK:=hid hm.ok
 have HM0:=hid (hm.below hb0)
 have HZ:=hid hz
 have HK0:=hid hk0
 have HB0:=hid hb0
 clear hk hm hz hb0 hk0
 unfold sub0 at hw0
 go_enter Tryz.func39,Tryz.ntmps39
 go_upto_region 1 with (fail)
 try rw [hw0]
 clear hw0
 go_upto_region 2 with (first|(refine wpl_load rfl 39 (.tmp 8) rfl b 0 rfl HKB.out (subA s v).toList rfl _ Tryz.underlying39 rfl (by kernel_rfl) ?_)|(refine wpl_store rfl 39 (.tmp 3) (.tmp 9) rfl w0.heap.size 0 rfl (subA s v) rfl (Blk.new w0 39 sub0) (Nat.le_refl 34) (subA s v) rfl (by kernel_rfl) (subA_one HOK.out.1 HOK.out.2) ?_;intro wz hkz hfz))
 obtain ⟨g,hg⟩:∃ g,w0.heap.size=g:=⟨_,rfl⟩
 have HG:=hid hg
 rw [hg] at hkz hfz HS0 ⊢
 clear hg
 have hlt:w.heap.size<g:=by have:=HS0.out;omega
 have HI:Hid (CopI w wz g s v/\Blk wz b 39 (subA s v)):=hid (by
  have hga:=HG.out
  have ha:Below w0.heap.size w0 (w0.alloc (.cells sub0 39)):=(Below.refl _ _).alloc (Nat.le_refl _) _
  have hkp:KeepP (fun k=>k=g) (w0.alloc (.cells sub0 39)):=by rw [<-hga];exact keepP_blk (Blk.new w0 _ _) (by decide) (by decide)
  exact ⟨⟨hkz,(HM0.out.below ha).fr hfz hkp,(HK0.out.alloc _).fr hfz (by omega),below_upfr (HB0.out.trans (ha.mono HB0.out.size)) (Nat.le_refl _) hfz (fun k e=>by omega),hlt⟩,(HKB.out.alloc _).fr hfz (by omega)⟩)
 have HKBZ:=hid HI.out.2
 have HI0:=hid HI.out.1
 clear HI hkz hfz HKB HM0 HK0 HB0 HOK HS0 HG
 have HCP:Hid (∀ W l x,PrM W l x->l.length<=2000000->Calls Tryz.prog 37 #[x] W fun e w'=>∃ A c,e=.returned (.slice A l.length c)/\PrM w' l (.slice A l.length c)/\Below W.heap.size W w'):=hid (fun W l x h hl=>clone_prm h.prB (Nat.le_refl _) hl)
 have HCR:Hid (∀ W x,RdV W 9 1 s.dlg.routes.length x (rows noteC s.dlg.routes)->Calls Tryz.prog 67 #[x] W fun e w'=>∃ A c,e=.returned (.slice A s.dlg.routes.length c)/\RdV w' 9 1 s.dlg.routes.length (.slice A s.dlg.routes.length c) (rows noteC s.dlg.routes)/\Below W.heap.size W w'):=hid (fun W x h=>clone_rts (SlB.of_rdv h) (Nat.le_refl _) HZ.out.ro)
 have x4:wz.cell? ⟨b,4,none⟩=some v.ev:=HKBZ.out.cell 4
 go_wp2_with fail
 refine (HCP.out _ _ _ HI0.out.m.ev HZ.out.ev).mono ?_
 rintro e w1 ⟨A1,c1,rfl,m1,hb1⟩
 have HI1:=hid (HI0.out.below hb1)
 have HI2:=hid (HI1.out.ev m1)
 obtain ⟨yev,ylp,ylh,yla,yrp,yrh,yra,ytp,yth,yro,yf⟩:=cop_c HI1.out.k
 clear m1 hb1 x4 HKBZ
 go_wp2_with fail
 refine (HCR.out _ _ HI2.out.m.ro).mono ?_
 rintro e w2 ⟨A2,c2,rfl,m2,hb2⟩
 have HI3:=hid (HI2.out.below hb2)
 have HI4:=hid (HI3.out.ro m2)
 clear yev ylp ylh yla yrp yrh yra ytp yth yro yf
 obtain ⟨yev,ylp,ylh,yla,yrp,yrh,yra,ytp,yth,yro,yf⟩:=cop_c HI3.out.k
 clear m2 hb2
 go_upto_region 5 with (fail)
 obtain ⟨wa,hwa⟩:∃ wa,w2.setCell ⟨g,31,none⟩ (.slice A2 s.dlg.routes.length c2)=wa:=⟨_,rfl⟩
 rw [hwa]
 rw [hwa] at HI4
 clear hwa yev ylp ylh yla yrp yrh yra ytp yth yro yf HI0 HI1 HI2 HI3
 go_region_held3 (fun _=>True) (trivial) (fail)
 obtain ⟨gp,hgp⟩:∃ gp,wa.heap.size=gp:=⟨_,rfl⟩
 have HP0:Hid (Blk ((wa.alloc (.cells #[.pointer (some ⟨g,25,none⟩),.pointer (some ⟨g,10,none⟩),.pointer (some ⟨g,18,none⟩)] 136)).drew) gp 136 #[.pointer (some ⟨g,25,none⟩),.pointer (some ⟨g,10,none⟩),.pointer (some ⟨g,18,none⟩)]):=hid (hgp▸(Blk.new wa _ _).drewN 1)
 have HI5:=hid (HI4.out.below (((Below.refl wa.heap.size wa).alloc (Nat.le_refl _) (.cells #[.pointer (some ⟨g,25,none⟩),.pointer (some ⟨g,10,none⟩),.pointer (some ⟨g,18,none⟩)] 136)).drew))
 rw [hgp]
 clear hgp HI4
 have HGG:Hid (gp≠g):=hid (HP0.out.ne_ HI5.out.k (by decide))
 go_wp2
 go_loopw [40] (fun i wr=>∃ j:Nat,j<=3/\i=.int .i64 j/\(∃ v',CopI w wr g s v')/\Blk wr gp 136 #[.pointer (some ⟨g,25,none⟩),.pointer (some ⟨g,10,none⟩),.pointer (some ⟨g,18,none⟩)]) (fun i _=>3-(intOf i).toNat)
 case atStart=>exact ⟨0,by omega,rfl,⟨_,HI5.out⟩,HP0.out⟩
 case round =>
  obtain ⟨j,hj,rfl,⟨v',hI⟩,hP⟩:=hrel
  have HIr:=hid hI
  have HPr:=hid hP
  have HX0:=hid (hI.below ((Below.refl wr.heap.size wr).drew))
  have p0:wr.cell? ⟨gp,0,none⟩=some (.pointer (some ⟨g,25,none⟩)):=hP.cell 0
  have p1:wr.cell? ⟨gp,1,none⟩=some (.pointer (some ⟨g,10,none⟩)):=hP.cell 1
  have p2:wr.cell? ⟨gp,2,none⟩=some (.pointer (some ⟨g,18,none⟩)):=hP.cell 2
  obtain ⟨yev,ylp,ylh,yla,yrp,yrh,yra,ytp,yth,yro,yf⟩:=cop_c hI.k
  clear hI hP HI5 HP0
  by_cases hlt3:j<3
  .obtain rfl|rfl|rfl:j=0\/j=1\/j=2:=by omega
   .go_upto_region 8 with (fail)
    go_region_with ((go_at_call 37;first|((with_reducible refine (HCP.out _ _ _ HX0.out.m.tp HZ.out.tp).mono ?_);rintro e w3 ⟨A5,c5,rfl,m1,hb1⟩;have HX3:=hid (HX0.out.below hb1);have HP3:=hid (HPr.out.fr (Fr.of_below (F:=fun _=>False) (((Below.refl wr.heap.size wr).drew).trans hb1)) (fun h=>h));have HM1:=hid m1;clear hb1 m1;obtain ⟨yev,ylp,ylh,yla,yrp,yrh,yra,ytp,yth,yro,yf⟩:=cop_c HX3.out.k)|((with_reducible refine (HCP.out _ _ _ HX3.out.m.th HZ.out.th).mono ?_);rintro e w4 ⟨A6,c6,rfl,m1,hb1⟩;have HX4:=hid (HX3.out.below hb1);have HM1:=hid (HM1.out.below hb1);have HM2:=hid m1;have HP4:=hid (HP3.out.fr (Fr.of_below (F:=fun _=>False) hb1) (fun h=>h));clear hb1 m1;obtain ⟨yev,ylp,ylh,yla,yrp,yrh,yra,ytp,yth,yro,yf⟩:=cop_c HX4.out.k)))
    all_goals
     go_wp2_with fail
     have HN:=hid (HX4.out.two_tp HM1.out HM2.out)
     have HPN:=hid ((HP4.out.far (p:=⟨g,29,none⟩) HGG.out (.slice A5 s.dlg.tgt.params.length c5)).far (p:=⟨g,30,none⟩) HGG.out (.slice A6 s.dlg.tgt.headers.length c6))
     go_roundw
     case rel=>exact ⟨1,by omega,by go_num,HN.out,HPN.out⟩
     case measure=>simp [intOf]
   .go_upto_region 8 with (fail)
    go_region_with ((go_at_call 37;first|((with_reducible refine (HCP.out _ _ _ HX0.out.m.lp HZ.out.lp).mono ?_);rintro e w3 ⟨A5,c5,rfl,m1,hb1⟩;have HX3:=hid (HX0.out.below hb1);have HP3:=hid (HPr.out.fr (Fr.of_below (F:=fun _=>False) (((Below.refl wr.heap.size wr).drew).trans hb1)) (fun h=>h));have HM1:=hid m1;clear hb1 m1;obtain ⟨yev,ylp,ylh,yla,yrp,yrh,yra,ytp,yth,yro,yf⟩:=cop_c HX3.out.k)|((with_reducible refine (HCP.out _ _ _ HX3.out.m.lh HZ.out.lh).mono ?_);rintro e w4 ⟨A6,c6,rfl,m1,hb1⟩;have HX4:=hid (HX3.out.below hb1);have HM1:=hid (HM1.out.below hb1);have HM2:=hid m1;have HP4:=hid (HP3.out.fr (Fr.of_below (F:=fun _=>False) hb1) (fun h=>h));clear hb1 m1;obtain ⟨yev,ylp,ylh,yla,yrp,yrh,yra,ytp,yth,yro,yf⟩:=cop_c HX4.out.k)))
    all_goals
     go_wp2_with fail
     have HN:=hid (HX4.out.two_lp HM1.out HM2.out)
     have HPN:=hid ((HP4.out.far (p:=⟨g,14,none⟩) HGG.out (.slice A5 s.dlg.loc.uri.params.length c5)).far (p:=⟨g,15,none⟩) HGG.out (.slice A6 s.dlg.loc.uri.headers.length c6))
     go_roundw
     case rel=>exact ⟨2,by omega,by go_num,HN.out,HPN.out⟩
     case measure=>simp [intOf]
   .go_upto_region 8 with (fail)
    go_region_with ((go_at_call 37;first|((with_reducible refine (HCP.out _ _ _ HX0.out.m.rp HZ.out.rp).mono ?_);rintro e w3 ⟨A5,c5,rfl,m1,hb1⟩;have HX3:=hid (HX0.out.below hb1);have HP3:=hid (HPr.out.fr (Fr.of_below (F:=fun _=>False) (((Below.refl wr.heap.size wr).drew).trans hb1)) (fun h=>h));have HM1:=hid m1;clear hb1 m1;obtain ⟨yev,ylp,ylh,yla,yrp,yrh,yra,ytp,yth,yro,yf⟩:=cop_c HX3.out.k)|((with_reducible refine (HCP.out _ _ _ HX3.out.m.rh HZ.out.rh).mono ?_);rintro e w4 ⟨A6,c6,rfl,m1,hb1⟩;have HX4:=hid (HX3.out.below hb1);have HM1:=hid (HM1.out.below hb1);have HM2:=hid m1;have HP4:=hid (HP3.out.fr (Fr.of_below (F:=fun _=>False) hb1) (fun h=>h));clear hb1 m1;obtain ⟨yev,ylp,ylh,yla,yrp,yrh,yra,ytp,yth,yro,yf⟩:=cop_c HX4.out.k)))
    all_goals
     go_wp2_with fail
     have HN:=hid (HX4.out.two_rp HM1.out HM2.out)
     have HPN:=hid ((HP4.out.far (p:=⟨g,22,none⟩) HGG.out (.slice A5 s.dlg.rem.uri.params.length c5)).far (p:=⟨g,23,none⟩) HGG.out (.slice A6 s.dlg.rem.uri.headers.length c6))
     go_roundw
     case rel=>exact ⟨3,by omega,by go_num,HN.out,HPN.out⟩
     case measure=>simp [intOf]
  .obtain rfl:j=3:=by omega
   go_upto_region 10 with (fail)
   go_cut [] (fun wx=>∃ v2,CopI w wx g s v2)
   case first =>
    go_region_with ((go_at_call 37;first|((with_reducible refine (HCP.out _ _ _ HX0.out.m.la HZ.out.la).mono ?_);rintro e w3 ⟨A5,c5,rfl,m1,hb1⟩;have HX3:=hid (HX0.out.below hb1);have HM1:=hid m1;clear hb1 m1;obtain ⟨yev,ylp,ylh,yla,yrp,yrh,yra,ytp,yth,yro,yf⟩:=cop_c HX3.out.k)|((with_reducible refine (HCP.out _ _ _ HX3.out.m.ra HZ.out.ra).mono ?_);rintro e w4 ⟨A6,c6,rfl,m1,hb1⟩;have HX4:=hid (HX3.out.below hb1);have HM1:=hid (HM1.out.below hb1);have HM2:=hid m1;have HB4:=hid hb1;clear hb1 m1;obtain ⟨yev,ylp,ylh,yla,yrp,yrh,yra,ytp,yth,yro,yf⟩:=cop_c HX4.out.k)))
    all_goals
     go_wp2_with fail
     go_meet
     exact HX4.out.two_la HM1.out HM2.out
   case rest =>
    obtain ⟨v2,hI2⟩:=hcut
    have HIF:=hid hI2
    clear hI2
    go_wp2_with (first|(refine wpl_load rfl 39 (.tmp 3) rfl g 0 rfl HIF.out.k (subA s v2).toList rfl _ Tryz.underlying39 rfl (by kernel_rfl) ?_)|(refine wpl_store rfl 39 (.tmp 2) (.tmp 81) rfl w.heap.size 0 rfl (subA s v2) rfl HIF.out.r (Nat.le_refl 34) (subA s v2) rfl (by kernel_rfl) (subA_one HIF.out.m.ok.1 HIF.out.m.ok.2) ?_;intro wy hky hfy))
    exact ret_cell rfl rfl rfl hky _ Tryz.underlying39 rfl (by kernel_rfl) ⟨v2,rfl,HIF.out.m.fr hfy (keepP_blk HIF.out.r (by decide) (by decide)),below_upfr HIF.out.be (Nat.le_refl _) hfy (fun k e=>by omega)⟩
end Go.Proofs.YthkadehlclcggaaGreatDoor
