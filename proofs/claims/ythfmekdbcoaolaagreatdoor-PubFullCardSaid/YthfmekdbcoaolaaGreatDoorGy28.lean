/- Chapter 16: copied, brief. Chapter 16: arm, drop. Chapter 16: begin. Chapter 16: begin, walked. -/
import Derived.Test.YthfmekdbcoaolaaGreatDoorGy26
import Derived.Test.YthfmekdbcoaolaaGreatDoorGy27
import Derived.Deep.RegionWith
import Derived.Deep.DeepCutAuto
import Derived.Deep.CutBlock
import Derived.StillTailTactics
import Derived.BigQuiet
import Derived.Deep.RegionHeld3
namespace Go.Proofs.YthfmekdbcoaolaaGreatDoor
set_option linter.unusedSimpArgs false
set_option linter.unusedVariables false
open Go.RowKit
open Go.Lib (hid)
theorem three_c {W:World} {g:Nat} {t:TypeId} {a b c:Value} (h:Blk W g t #[a,b,c]) (x y z:Value) :
 (((W.setCell ⟨g,0,none⟩ x).setCell ⟨g,1,none⟩ y).setCell ⟨g,2,none⟩ z).cell? ⟨g,0,none⟩=some x/\(((W.setCell ⟨g,0,none⟩ x).setCell ⟨g,1,none⟩ y).setCell ⟨g,2,none⟩ z).cell? ⟨g,1,none⟩=some y/\(((W.setCell ⟨g,0,none⟩ x).setCell ⟨g,1,none⟩ y).setCell ⟨g,2,none⟩ z).cell? ⟨g,2,none⟩=some z :=
 ⟨(((h.set_ 0 x).set_ 1 y).set_ 2 z).cell 0,(((h.set_ 0 x).set_ 1 y).set_ 2 z).cell 1,(((h.set_ 0 x).set_ 1 y).set_ 2 z).cell 2⟩
theorem three_fr {B:Nat} {w0 W:World} {g:Nat} (h:Below B w0 W) (hg:B<=g) (x y z:Value):Below B w0 (((W.setCell ⟨g,0,none⟩ x).setCell ⟨g,1,none⟩ y).setCell ⟨g,2,none⟩ z) :=
 ((h.setCell (p:=⟨g,0,none⟩) hg x).setCell (p:=⟨g,1,none⟩) hg y).setCell (p:=⟨g,2,none⟩) hg z
theorem four_c {W:World} {g:Nat} {t:TypeId} {a b c d:Value} (h:Blk W g t #[a,b,c,d]) (x y z u:Value) :
 ((((W.setCell ⟨g,0,none⟩ x).setCell ⟨g,1,none⟩ y).setCell ⟨g,2,none⟩ z).setCell ⟨g,3,none⟩ u).cell? ⟨g,0,none⟩=some x/\((((W.setCell ⟨g,0,none⟩ x).setCell ⟨g,1,none⟩ y).setCell ⟨g,2,none⟩ z).setCell ⟨g,3,none⟩ u).cell? ⟨g,1,none⟩=some y/\((((W.setCell ⟨g,0,none⟩ x).setCell ⟨g,1,none⟩ y).setCell ⟨g,2,none⟩ z).setCell ⟨g,3,none⟩ u).cell? ⟨g,2,none⟩=some z/\((((W.setCell ⟨g,0,none⟩ x).setCell ⟨g,1,none⟩ y).setCell ⟨g,2,none⟩ z).setCell ⟨g,3,none⟩ u).cell? ⟨g,3,none⟩=some u :=
 ⟨((((h.set_ 0 x).set_ 1 y).set_ 2 z).set_ 3 u).cell 0,((((h.set_ 0 x).set_ 1 y).set_ 2 z).set_ 3 u).cell 1,((((h.set_ 0 x).set_ 1 y).set_ 2 z).set_ 3 u).cell 2,((((h.set_ 0 x).set_ 1 y).set_ 2 z).set_ 3 u).cell 3⟩
theorem four_fr {B:Nat} {w0 W:World} {g:Nat} (h:Below B w0 W) (hg:B<=g) (x y z u:Value):Below B w0 ((((W.setCell ⟨g,0,none⟩ x).setCell ⟨g,1,none⟩ y).setCell ⟨g,2,none⟩ z).setCell ⟨g,3,none⟩ u) :=
 (((h.setCell (p:=⟨g,0,none⟩) hg x).setCell (p:=⟨g,1,none⟩) hg y).setCell (p:=⟨g,2,none⟩) hg z).setCell (p:=⟨g,3,none⟩) hg u
def CopPost (d:DocP) (w:World) (e:Ending) (w':World):Prop:=∃ A5 c5 A6 c6,e=.returned (.agg #[.string (str d.ent),.slice A5 d.tups.length c5,.slice A6 d.notes.length c6])/\DocM w' d (.slice A5 d.tups.length c5) (.slice A6 d.notes.length c6)/\Below w.heap.size w w'
def CopMid (d:DocP) (w:World) (g:Nat) (wx:World):Prop:=∃ A5 c5 A6 c6,Blk wx g 39 #[.string (str d.ent),.slice A5 d.tups.length c5,.slice A6 d.notes.length c6]/\Blk wx (g+1) 39 #[.string ⟨#[]⟩,.slice none 0 0,.slice none 0 0]/\DocM wx d (.slice A5 d.tups.length c5) (.slice A6 d.notes.length c6)/\Below w.heap.size w wx
theorem DocM.set2 {w:World} {d:DocP} {vt vn:Value} {g:Nat} {cs:Array Value} (h:DocM w d vt vn) (hg:Blk w g 39 cs) (i j:Nat) (u v:Value):DocM ((w.setCell ⟨g,i,none⟩ u).setCell ⟨g,j,none⟩ v) d vt vn:=by
 have hf:Fr (fun k=>k=g) w ((w.setCell ⟨g,i,none⟩ u).setCell ⟨g,j,none⟩ v):=((Fr.refl (fun k=>k=g) w).set (p:=⟨g,i,none⟩) (fun _=>rfl) u).set (p:=⟨g,j,none⟩) (fun _=>rfl) v
 refine h.fr hf (fun b ds T fr hb hT e=>?_)
 subst e
 unfold Blk at hg
 rw [hg] at hb
 injection hb with hb
 injection hb with _ hb _
 rcases hT with rfl|rfl <;> exact absurd hb (by decide)
theorem DocM.set3 {w:World} {d:DocP} {vt vn:Value} {g:Nat} {cs:Array Value} (h:DocM w d vt vn) (hg:Blk w g 39 cs) (u v z:Value):DocM (((w.setCell ⟨g,0,none⟩ u).setCell ⟨g,1,none⟩ v).setCell ⟨g,2,none⟩ z) d vt vn:=by
 have hf:Fr (fun k=>k=g) w (((w.setCell ⟨g,0,none⟩ u).setCell ⟨g,1,none⟩ v).setCell ⟨g,2,none⟩ z):=(((Fr.refl (fun k=>k=g) w).set (p:=⟨g,0,none⟩) (fun _=>rfl) u).set (p:=⟨g,1,none⟩) (fun _=>rfl) v).set (p:=⟨g,2,none⟩) (fun _=>rfl) z
 refine h.fr hf (fun b ds T fr hb hT e=>?_)
 subst e
 unfold Blk at hg
 rw [hg] at hb
 injection hb with hb
 injection hb with _ hb _
 rcases hT with rfl|rfl <;> exact absurd hb (by decide)
theorem cop_end {d:DocP} {w w4:World} {g:Nat} {At An A5 A6:Option Addr} {ct cn c5 c6:Nat} (hk:Blk w4 g 39 #[.string (str d.ent),.slice At d.tups.length ct,.slice An d.notes.length cn]) (hk2:Blk w4 (g+1) 39 #[.string ⟨#[]⟩,.slice none 0 0,.slice none 0 0])
 (h1:RdV w4 115 5 d.tups.length (.slice A5 d.tups.length c5) (rows tupC d.tups)) (h2:RdV w4 9 1 d.notes.length (.slice A6 d.notes.length c6) (rows noteC d.notes)) (hg:w.heap.size<=g) (hb:Below w.heap.size w w4) :
 CopMid d w g ((w4.setCell ⟨g,1,none⟩ (.slice A5 d.tups.length c5)).setCell ⟨g,2,none⟩ (.slice A6 d.notes.length c6)) :=
 ⟨A5,c5,A6,c6,(hk.set_ 1 _).set_ 2 _,(hk2.far (p:=⟨g,1,none⟩) (by simp) _).far (p:=⟨g,2,none⟩) (by simp) _,DocM.set2 ⟨h1,h2⟩ hk 1 2 _ _,(hb.setCell (p:=⟨g,1,none⟩) hg _).setCell (p:=⟨g,2,none⟩) hg _⟩
set_option maxRecDepth 100000 in
set_option maxHeartbeats 4000000 in
theorem copied_any {w:World} {B:Nat} {d:DocP} {vt vn:Value} (hB:B<=w.heap.size) (h:DocB w B d vt vn) (h1:d.tups.length<=16) (h2:d.notes.length<=16):Calls Tryz.prog 38 #[.agg #[.string (str d.ent),vt,vn]] w (CopPost d w):=by
 obtain ⟨⟨At,ct,rfl,_,_,ht⟩,⟨An,cn,rfl,_,_,hn⟩⟩:=h
 obtain ⟨w0,hw0⟩:∃ w0,(w.alloc (.cells #[.string (str d.ent),.slice At d.tups.length ct,.slice An d.notes.length cn] 39)).alloc (.cells #[.string ⟨#[]⟩,.slice none 0 0,.slice none 0 0] 39)=w0:=⟨_,rfl⟩
 have hb0:Below w.heap.size w w0:=hw0▸((Below.refl _ _).alloc (Nat.le_refl _) _).alloc (by simp) _
 have hka:Blk w0 w.heap.size 39 #[.string (str d.ent),.slice At d.tups.length ct,.slice An d.notes.length cn]:=hw0▸(Blk.new w _ _).alloc _
 have hkb:Blk w0 (w.heap.size+1) 39 #[.string ⟨#[]⟩,.slice none 0 0,.slice none 0 0]:=hw0▸Blk.new' _ _ _ (by simp)
 have HT:Hid (∀ W,Below w0.heap.size w0 W->Calls Tryz.prog 55 #[.slice At d.tups.length ct] W (CloPost 115 5 d.tups.length (rows tupC d.tups) W)):=hid (fun W hW=>clone_tup (n:=0) (ht.below ((hb0.mono hB).trans (hW.mono (Nat.le_trans hB hb0.size)))) (Nat.le_trans hB (Nat.le_trans hb0.size hW.size)) (by omega))
 have HN:Hid (∀ W,Below w0.heap.size w0 W->Calls Tryz.prog 56 #[.slice An d.notes.length cn] W (CloPost 9 1 d.notes.length (rows noteC d.notes) W)):=hid (fun W hW=>clone_str (n:=0) (hn.below ((hb0.mono hB).trans (hW.mono (Nat.le_trans hB hb0.size)))) (Nat.le_trans hB (Nat.le_trans hb0.size hW.size)) (by omega))
 have HKA:Hid (∀ W,Below w0.heap.size w0 W->Blk W w.heap.size 39 #[.string (str d.ent),.slice At d.tups.length ct,.slice An d.notes.length cn]):=hid (fun W hW=>hka.fr (Fr.of_below (F:=fun _=>False) hW) (fun h=>h))
 have HKB:Hid (∀ W,Below w0.heap.size w0 W->Blk W (w.heap.size+1) 39 #[.string ⟨#[]⟩,.slice none 0 0,.slice none 0 0]):=hid (fun W hW=>hkb.fr (Fr.of_below (F:=fun _=>False) hW) (fun h=>h))
 have HB0:=hid hb0
 have HX0:Hid (Below w0.heap.size w0 w0.drew):=hid (Below.refl _ _).drew
 have HEND:=@cop_end d w
 unfold CloPost at HT HN
 generalize rows tupC d.tups=XT at *
 generalize rows noteC d.notes=XN at *
 have x1:=hka.cell 1
 have x2:=hka.cell 2
 clear hb0 hka hkb ht hn h1 h2 hB
 go_enter Tryz.func38,Tryz.ntmps38
 go_upto_region 1 with (fail)
 try rw [hw0]
 clear hw0
 go_cut [] (fun wx=>CopMid d w w.heap.size wx)
 case first =>
  go_region_with ((first|(go_at_call 55;first|((with_reducible refine (HT.out _ HX0.out).mono ?_);rintro e w3 ⟨_,rfl,⟨A5,c5,rfl,hc5,hm5,ho1⟩,_,hb1⟩;have HO1:=hid ho1;have HX3:=hid (thenB_ HX0.out hb1);clear hb1 ho1;have kk:=HKA.out w3 HX3.out;have x1:=kk.cell 1;have x2:=kk.cell 2;have j1:=kk.frozen 1;have j2:=kk.frozen 2;clear kk)|((with_reducible refine (HT.out _ HX3.out).mono ?_);rintro e w4 ⟨_,rfl,⟨A5,c5,rfl,hc5,hm5,ho1⟩,_,hb1⟩;have HO1:=hid ho1;have HO2:=hid (HO2.out.below hb1);have HX4:=hid (thenB_ HX3.out hb1);clear hb1 ho1;have kk:=HKA.out w4 HX4.out;have x1:=kk.cell 1;have x2:=kk.cell 2;have j1:=kk.frozen 1;have j2:=kk.frozen 2;clear kk))|(go_at_call 56;first|((with_reducible refine (HN.out _ HX0.out).mono ?_);rintro e w3 ⟨_,rfl,⟨A6,c6,rfl,hc6,hm6,ho1⟩,_,hb1⟩;have HO2:=hid ho1;have HX3:=hid (thenB_ HX0.out hb1);clear hb1 ho1;have kk:=HKA.out w3 HX3.out;have x1:=kk.cell 1;have x2:=kk.cell 2;have j1:=kk.frozen 1;have j2:=kk.frozen 2;clear kk)|((with_reducible refine (HN.out _ HX3.out).mono ?_);rintro e w4 ⟨_,rfl,⟨A6,c6,rfl,hc6,hm6,ho1⟩,_,hb1⟩;have HO2:=hid ho1;have HO1:=hid (HO1.out.below hb1);have HX4:=hid (thenB_ HX3.out hb1);clear hb1 ho1;have kk:=HKA.out w4 HX4.out;have x1:=kk.cell 1;have x2:=kk.cell 2;have j1:=kk.frozen 1;have j2:=kk.frozen 2;clear kk))))
  all_goals
   go_wp2_with fail
   go_meet
   exact HEND (HKA.out _ HX4.out) (HKB.out _ HX4.out) ⟨_,_,rfl,hc5,hm5,HO1.out⟩ ⟨_,_,rfl,hc6,hm6,HO2.out⟩ (Nat.le_refl _) (thenB_ HB0.out HX4.out)
 case rest =>
  obtain ⟨A5,c5,A6,c6,hk,hk2,hm,hbx⟩:=hcut
  obtain ⟨wx,hwx⟩:∃ wx,wx=wc:=⟨_,rfl⟩
  subst hwx
  have HM:=hid hm
  have HBX:=hid hbx
  have HK2:=hid hk2
  have y0:=hk.cell 0
  have y1:=hk.cell 1
  have y2:=hk.cell 2
  have z0:=hk2.cell 0
  have z1:=hk2.cell 1
  have z2:=hk2.cell 2
  have f0:=hk2.frozen 0
  have f1:=hk2.frozen 1
  have f2:=hk2.frozen 2
  clear hm hbx hk hk2
  go_wp2
  obtain ⟨q0,q1,q2⟩:=three_c HK2.out (.string (str d.ent)) (.slice A5 d.tups.length c5) (.slice A6 d.notes.length c6)
  refine bodyPost_ret (v:=.agg #[.string (str d.ent),.slice A5 d.tups.length c5,.slice A6 d.notes.length c6]) (by simp [results,Tryz.results38,go_sem,q0,q1,q2]) rfl ⟨A5,c5,A6,c6,rfl,?_,three_fr HBX.out (by omega) _ _ _⟩
  exact DocM.set3 HM.out HK2.out _ _ _
def briefV (c:Conf):Value:=.agg #[.int .i64 423,.int .i64 c.least,.string ⟨#[]⟩,.bool false]
theorem brief_any {w:World} {p:Nat} {c:Conf} {last bl bt pw:Value} (h:Blk w p 55 #[.string (str c.host),.int .i64 c.calls,.int .i64 c.pubs,.int .i64 c.subs,.int .i64 c.least,.int .i64 c.most,.int .i64 c.usual,last,bl,bt,pw]) :
 Calls Tryz.prog 49 #[.pointer (some ⟨p,0,none⟩)] w fun e w'=>e=.returned (briefV c)/\Below w.heap.size w w':=by
 obtain ⟨w0,hw0⟩:∃ w0,w.alloc (.cells #[.int .i64 0,.int .i64 0,.string ⟨#[]⟩,.bool false] 83)=w0:=⟨_,rfl⟩
 have hb0:Below w.heap.size w w0:=hw0▸(Below.refl _ _).alloc (Nat.le_refl _) _
 have hk:Blk w0 w.heap.size 83 #[.int .i64 0,.int .i64 0,.string ⟨#[]⟩,.bool false]:=hw0▸Blk.new w _ _
 have hc:=(h.fr (Fr.of_below (F:=fun _=>False) hb0) (fun h=>h)).cell 4
 have c0:=hk.cell 0
 have c1:=hk.cell 1
 have c2:=hk.cell 2
 have c3:=hk.cell 3
 have f0:=hk.frozen 0
 have f1:=hk.frozen 1
 have f2:=hk.frozen 2
 have f3:=hk.frozen 3
 have HX:Hid (∀ u0 u1 u2 u3,Below w.heap.size w ((((w0.setCell ⟨w.heap.size,0,none⟩ u0).setCell ⟨w.heap.size,1,none⟩ u1).setCell ⟨w.heap.size,2,none⟩ u2).setCell ⟨w.heap.size,3,none⟩ u3)):=hid (fun _ _ _ _=>(((hb0.setCell (p:=⟨_,0,none⟩) (Nat.le_refl _) _).setCell (p:=⟨_,1,none⟩) (Nat.le_refl _) _).setCell (p:=⟨_,2,none⟩) (Nat.le_refl _) _).setCell (p:=⟨_,3,none⟩) (Nat.le_refl _) _)
 have HK4:=hid (four_c hk)
 unfold briefV
 clear h hb0 hk
 go_enter Tryz.func49,Tryz.ntmps49
 go_upto_region 1 with (fail)
 try rw [hw0]
 clear hw0
 go_wp2
 obtain ⟨q0,q1,q2,q3⟩:=HK4.out (.int .i64 423) (.int .i64 c.least) (.string ⟨#[]⟩) (.bool false)
 exact bodyPost_ret (v:=.agg #[.int .i64 423,.int .i64 c.least,.string ⟨#[]⟩,.bool false]) (by simp [results,Tryz.results49,go_sem,q0,q1,q2,q3]) rfl ⟨rfl,HX.out _ _ _ _⟩
theorem zpub (w:World):(zeroValue 91).run Tryz.prog w=.ok (.pointer none) w:=by kernel_rfl
set_option maxRecDepth 100000 in
set_option maxHeartbeats 4000000 in
theorem arm_any {w:World} {p b bl bt pw:Nat} {c:Conf} {last num u0 now n:Int} {who tag0 ent tag:T} {vt vn:Value} {kt:List (ByteArray × Value)} {l:List TM} {FW:Nat->Prop}
 (htop:Blk w p 55 #[.string (str c.host),.int .i64 c.calls,.int .i64 c.pubs,.int .i64 c.subs,.int .i64 c.least,.int .i64 c.most,.int .i64 c.usual,.int .i64 last,.map (some bl),.map (some bt),.pointer (some ⟨pw,0,none⟩)])
 (hb:Blk w b 66 (pubL num who tag0 u0 ent vt vn)) (hm:MapIs w bt strKey kt) (hw:Wh w pw l FW) (hbt:¬FW bt) (h1:0<=now) (h2:now<=549755813888) (h3:0<=n) (h4:n<=2147483647) :
 Calls Tryz.prog 50 #[.pointer (some ⟨p,0,none⟩),.pointer (some ⟨b,0,none⟩),.string (str tag),.int .i64 now,.int .i64 n] w (ArmPost b bt pw num who ent vt vn tag (now+10*n) kt l FW w):=by
 rw [show now+10*n=now+n*10 by omega]
 have hpb:p≠b:=htop.ne_ hb (by decide)
 have hpt:p≠bt:=(hm.ne htop).symm
 have hbb:b≠bt:=(hm.ne hb).symm
 have hFb:¬FW b:=hw.notT hb (by decide) (by decide) (by decide)
 have hFp:¬FW p:=hw.notT htop (by decide) (by decide) (by decide)
 have k2:w.cell? ⟨b,2,none⟩=some (.string (str tag0)):=hb.cell 2
 have k3:w.cell? ⟨b,3,none⟩=some (.int .i64 u0):=hb.cell 3
 have j2:=hb.frozen 2
 have j3:=hb.frozen 3
 obtain ⟨wa,hwa⟩:∃ wa,(w.setCell ⟨b,2,none⟩ (.string (str tag))).setCell ⟨b,3,none⟩ (.int .i64 (now+n*10))=wa:=⟨_,rfl⟩
 have fa:Fr (fun k=>k=b) w wa:=hwa▸((Fr.refl (fun k=>k=b) w).set (p:=⟨b,2,none⟩) (fun _=>rfl) _).set (p:=⟨b,3,none⟩) (fun _=>rfl) _
 have hba:Blk wa b 66 (pubL num who tag (now+n*10) ent vt vn):=hwa▸(hb.set_ 2 _).set_ 3 _
 have hta:=htop.fr fa hpb
 have hma:=hm.fr fa (Ne.symm hbb)
 have hwh:=hw.fr fa (fun k hk e=>hFb (e▸hk))
 have t9:=hta.cell 9
 have t10:=hta.cell 10
 have n0:wa.cell? ⟨b,0,none⟩=some (.int .i64 num):=hba.cell 0
 have n3:wa.cell? ⟨b,3,none⟩=some (.int .i64 (now+n*10)):=hba.cell 3
 obtain ⟨w2,hu,hm2,f2⟩:=(hma.drewN 1).update (strLaw Tryz.underlying9) Tryz.underlying52 (str tag) (.int .i64 num)
 have hu':(Instr.mapUpdate 52 (.map (some bt)) (.string (str tag)) (.int .i64 num)).run Tryz.prog wa.drew=.ok () w2:=hu
 have f2':Fr (fun k=>k=bt) wa w2:=⟨f2.os,f2.tape,f2.output,f2.size,f2.block⟩
 have hb2:=hba.fr f2' hbb
 have ht2:=hta.fr f2' hpt
 have hw2:=hwh.fr f2' (fun k hk e=>hbt (e▸hk))
 have s0:w2.cell? ⟨b,0,none⟩=some (.int .i64 num):=hb2.cell 0
 have s3:w2.cell? ⟨b,3,none⟩=some (.int .i64 (now+n*10)):=hb2.cell 3
 have s10:=ht2.cell 10
 have HST:=hid (set_any (hw2.fr ((Fr.refl (fun _=>False) w2).drew) (fun _ _ h=>h)) num (now+n*10))
 have HEND:Hid (∀ e w',SetPost pw l num (now+n*10) FW w2.drew e w'->ArmPost b bt pw num who ent vt vn tag (now+n*10) kt l FW w (.returned (.tuple #[])) w'):=hid (fun e w' ⟨_,F',hW,hf,hx⟩=>by
  have hf':Fr FW w2 w':=⟨hf.os,hf.tape,hf.output,hf.size,hf.block⟩
  have g1:Fr (fun k=>k=b\/k=bt\/FW k) w w':=((fa.mono fun k _ e=>.inl e).trans (G:=fun k=>k=bt) f2' (fun k _ e=>.inr (.inl e))).trans (G:=FW) hf' (fun k _ e=>.inr (.inr e))
  refine ⟨rfl,F',hb2.fr hf' hFb,hm2.fr hf' hbt,hW,g1,fun k hk=>?_⟩
  rcases hx k hk with q|q
  .exact .inl q
  .have h9:=fa.size
   have h8:=f2'.size
   exact .inr (by have q':w2.heap.size<=k:=q;omega))
 have hwr:IntKind.i64.wrap (n*10)=n*10:=IntWalk.i64_in _ (by omega)
 have hwr2:IntKind.i64.wrap (now+n*10)=now+n*10:=IntWalk.i64_in _ (by omega)
 clear htop hb hm hw hba hma hta hwh hu hm2 f2 f2' hb2 ht2 hw2 fa
 go_enter Tryz.func50,Tryz.ntmps50
 go_upto_region 1 with (fail)
 clear hwa
 go_still_tail 9,(by kernel_rfl)
 go_wp2_with fail
 go_still_tail 12,(by kernel_rfl)
 go_wp2_with fail
 refine (HST.out).mono ?_
 rintro e w1 ⟨rfl,hp⟩
 have HP:=hid (HEND.out _ w1 ⟨rfl,hp⟩)
 clear hp
 go_wp2
 go_end0
 exact HP.out
set_option maxRecDepth 100000 in
set_option maxHeartbeats 4000000 in
theorem stdrop_any {w:World} {p bl bt pw:Nat} {c:Conf} {last:Int} {xs:List XP} {l:List TM} {F FW:Nat->Prop} {kl:List (Int × Value)} {kt:List (ByteArray × Value)} (H:StI w p c last xs l F bl bt pw kl kt FW) {x:XP} (hx:x∈xs) (hgl:mget x.p.number kl=some (ptr x.b)) (hgt:mget (str x.p.tag) kt=some (.int .i64 x.p.number)) :
 Calls Tryz.prog 35 #[.pointer (some ⟨p,0,none⟩),.int .i64 x.p.number] w (StDropPost w p c last xs x l F bl bt pw kl kt):=by
 have k8:=H.top.cell 8
 have k9:=H.top.cell 9
 have kb:w.cell? ⟨x.b,2,none⟩=some (.string (str x.p.tag)):=(H.its x hx).cell 2
 have hlk:=(H.lm.drewN 1).lookup (T:=51) (E:=91) (intLaw Tryz.underlying3) Tryz.underlying51 (zpub _) x.p.number false
 rw [hgl] at hlk
 have hlk':(Instr.lookup 51 (.map (some bl)) (.int .i64 x.p.number) false).run Tryz.prog w.drew=.ok (.pointer (some ⟨x.b,0,none⟩)) w.drew:=hlk
 obtain ⟨w1,hd1,h1,f1⟩:=(H.tm.drewN 1).delete (strLaw Tryz.underlying9) Tryz.underlying52 (str x.p.tag) 9 0
 have hd1':(Builtin.delete_ #[52,9] 0 #[.map (some bt),.string (str x.p.tag)]).run Tryz.prog w.drew=.ok (.tuple #[]) w1:=hd1
 have f1':Fr (fun k=>k=bt) w w1:=⟨f1.os,f1.tape,f1.output,f1.size,f1.block⟩
 have hl1:=H.lm.fr f1' (fun e=>H.dn e)
 obtain ⟨w2,hd2,h2,f2⟩:=hl1.delete (intLaw Tryz.underlying3) Tryz.underlying51 x.p.number 3 0
 have hb2:=(H.lb.fr f1' (fun e=>H.dn e)).delete hl1 (intLaw Tryz.underlying3) Tryz.underlying51 x.p.number 3 0 hd2
 have hd2':(Builtin.delete_ #[51,3] 0 #[.map (some bl),.int .i64 x.p.number]).run Tryz.prog w1=.ok (.tuple #[]) w2:=hd2
 have ht1:=H.top.fr f1' (fun e=>(H.tm.ne H.top) e.symm)
 have j8:=ht1.cell 8
 have ht2:=ht1.fr f2 (fun e=>(H.lm.ne H.top) e.symm)
 have i10:=ht2.cell 10
 have hw2:=(H.wh.fr f1' (fun k hk e=>H.ft (e▸hk))).fr f2 (fun k hk e=>H.fl (e▸hk))
 have HST:=hid (stop_any hw2 x.p.number)
 have HEND:Hid (∀ e w3,StopPost pw l x.p.number FW w2 e w3->StDropPost w p c last xs x l F bl bt pw kl kt (.returned (.tuple #[])) w3):=hid (fun e w3 ⟨_,FW',hw,f3,hs⟩=>stdrop_end H hx hgl hgt h1 f1' h2 hb2 f2 hw f3 hs)
 clear H hx hgl hgt hlk hd1 h1 f1 f1' hl1 hd2 h2 f2 hb2 ht1 ht2 hw2
 generalize x.p.tag=tg at *
 generalize x.p.number=num at *
 generalize x.b=b at *
 go_enter Tryz.func35,Tryz.ntmps35
 go_wp2_with fail
 go_still_tail 13,(by kernel_rfl)
 go_wp2_with fail
 refine (HST.out).mono ?_
 rintro e w3 hp
 have HP:=hid (HEND.out _ w3 hp)
 obtain ⟨rfl,_⟩:=hp
 go_wp2
 go_end0
 exact HP.out
structure RawS (w:World) (p:Nat) (c:Conf) (last:Int) (bl bt pw:Nat) (kl:List (Int × Value)) (kt:List (ByteArray × Value)) (l:List TM) (FW:Nat->Prop):Prop where
 top:Blk w p 55 #[.string (str c.host),.int .i64 c.calls,.int .i64 c.pubs,.int .i64 c.subs,.int .i64 c.least,.int .i64 c.most,.int .i64 c.usual,.int .i64 last,.map (some bl),.map (some bt),.pointer (some ⟨pw,0,none⟩)]
 lm:MapIs w bl intKey kl
 lb:Born w bl
 tm:MapIs w bt strKey kt
 wh:Wh w pw l FW
 dn:bl≠bt
 fl:¬FW bl
 ft:¬FW bt
section
variable {w w':World} {p bl bt pw:Nat} {c:Conf} {last:Int} {xs:List XP} {L:List Pub} {l:List TM} {F FW G:Nat->Prop} {kl:List (Int × Value)} {kt:List (ByteArray × Value)}
theorem StI.raw (H:StI w p c last xs l F bl bt pw kl kt FW):RawS w p c last bl bt pw kl kt l FW:=⟨H.top,H.lm,H.lb,H.tm,H.wh,H.dn,H.fl,H.ft⟩
theorem RawS.fr (h:RawS w p c last bl bt pw kl kt l FW) (hf:Fr G w w') (h1:¬G p) (h2:¬G bl) (h3:¬G bt) (h4:∀ k,FW k->¬G k):RawS w' p c last bl bt pw kl kt l FW :=
 ⟨h.top.fr hf h1,h.lm.fr hf h2,h.lb.fr hf h2,h.tm.fr hf h3,h.wh.fr hf h4,h.dn,h.fl,h.ft⟩
theorem RawS.below (h:RawS w p c last bl bt pw kl kt l FW) (hb:Below w.heap.size w w'):RawS w' p c last bl bt pw kl kt l FW :=
 h.fr (Fr.of_below (F:=fun _=>False) hb) (fun h=>h) (fun h=>h) (fun h=>h) (fun _ _ h=>h)
theorem RawS.pl (h:RawS w p c last bl bt pw kl kt l FW):p≠bl:=(h.lm.ne h.top).symm
theorem RawS.pt (h:RawS w p c last bl bt pw kl kt l FW):p≠bt:=(h.tm.ne h.top).symm
theorem RawS.fp (h:RawS w p c last bl bt pw kl kt l FW):¬FW p:=h.wh.notT h.top (by decide) (by decide) (by decide)
theorem RawS.setLast (h:RawS w p c last bl bt pw kl kt l FW) (n:Int):RawS (w.setCell ⟨p,7,none⟩ (.int .i64 n)) p c n bl bt pw kl kt l FW:=by
 have hf:Fr (fun k=>k=p) w (w.setCell ⟨p,7,none⟩ (.int .i64 n)):=(Fr.refl (fun k=>k=p) w).set (p:=⟨p,7,none⟩) (fun _=>rfl) _
 exact ⟨h.top.set_ 7 _,h.lm.fr hf (Ne.symm h.pl),h.lb.fr hf (Ne.symm h.pl),h.tm.fr hf (Ne.symm h.pt),h.wh.fr hf (fun k hk e=>h.fp (e▸hk)),h.dn,h.fl,h.ft⟩
theorem RawS.drew (h:RawS w p c last bl bt pw kl kt l FW):RawS w.drew p c last bl bt pw kl kt l FW:=h.below (Below.refl _ _).drew
theorem RawS.live (h:RawS w p c last bl bt pw kl kt l FW) (n:Int) (v:Value):∃ w',(Instr.mapUpdate 51 (.map (some bl)) (.int .i64 n) v).run Tryz.prog w.drew=.ok () w'/\RawS w' p c last bl bt pw (mput n v kl) kt l FW/\Fr (fun k=>k=bl) w w':=by
 have h':=h.drew
 obtain ⟨w2,hu,hm2,f2⟩:=h'.lm.update (intLaw Tryz.underlying3) Tryz.underlying51 n v
 exact ⟨w2,hu,⟨h'.top.fr f2 h.pl,hm2,h'.lb.update h'.lm (intLaw Tryz.underlying3) Tryz.underlying51 n v hu,h'.tm.fr f2 (Ne.symm h.dn),h'.wh.fr f2 (fun k hk e=>h.fl (e▸hk)),h.dn,h.fl,h.ft⟩,⟨f2.os,f2.tape,f2.output,f2.size,f2.block⟩⟩
def toldV (t:ToldP):Value:=.agg #[.int .i64 t.status,.int .i64 t.exp,.string (str t.tag),.bool t.changed]
def ToldPost (p:Nat) (c:Conf) (F:Nat->Prop) (r:DoR) (w:World) (e:Ending) (w':World):Prop:=e=.returned (toldV r.told)/\∃ F',St w' p c r.last r.L F'/\Fr F w w'/\Ext F F' w
theorem told_same (H:St w p c last L F) {r:DoR} {t:ToldP} {n:Int} (hr:r=⟨last,L,t,n⟩) (hb:Below w.heap.size w w'):ToldPost p c F r w (.returned (toldV t)) w':=by
 subst hr
 exact ⟨rfl,F,H.below hb,Fr.of_below hb,fun k hk=>.inl hk⟩
theorem beg_end {w3 w5 w7 w8 w9:World} {last:Int} {b td:Nat} {q:Pub} {A5 A6:Option Addr} {c5 c6:Nat} {u:Int} (H:StI w p c last xs l F bl bt pw kl kt FW) (Q:StQ c last (xs.map (·.p)) l) (hn:q.number=last+1) (ht:q.tag∉(xs.map (·.p)).map (·.tag)) (htk:tokB q.tag=true) (hlen:((xs.map (·.p)).length:Int)<c.pubs) (h1:0<=q.until_) (h2:q.until_<=1099511627776) (hdoc:docE q.doc=0)
 (hb3:Below w.heap.size w w3) (hb5:Below (w3.setCell ⟨p,7,none⟩ (.int .i64 (last+1))).heap.size (w3.setCell ⟨p,7,none⟩ (.int .i64 (last+1))) w5) (hm:DocM w5 q.doc (.slice A5 q.doc.tups.length c5) (.slice A6 q.doc.notes.length c6)) (hbw:b=w5.heap.size) (hu:u=q.until_)
 (R7:RawS w7 p c (last+1) bl bt pw (mput (last+1) (ptr b) kl) kt l FW) (f7:Fr (fun k=>k=bl) (w5.alloc (.cells (pubL (last+1) q.who [] 0 q.doc.ent (.slice A5 q.doc.tups.length c5) (.slice A6 q.doc.notes.length c6)) 66)) w7)
 (hA:ArmPost b bt pw (last+1) q.who q.doc.ent (.slice A5 q.doc.tups.length c5) (.slice A6 q.doc.notes.length c6) q.tag u kt l FW w7 (.returned (.tuple #[])) w8)
 (f9:Fr (fun k=>k=td) w8 w9) (htd:w.heap.size<=td) (htb:td<b) (htt:∃ cs,Blk w8 td 83 cs):∃ F',St w9 p c (last+1) (xs.map (·.p)++[q]) F'/\Fr F w w9/\Ext F F' w:=by
 subst hu
 obtain ⟨_,FW',hk8,hm8,hw8,f8,hx8⟩:=hA
 have f4:Fr (fun k=>k=p) w3 (w3.setCell ⟨p,7,none⟩ (.int .i64 (last+1))):=(Fr.refl (fun k=>k=p) w3).set (p:=⟨p,7,none⟩) (fun _=>rfl) _
 have s3:=hb3.size
 have s4:=f4.size
 have s5:=hb5.size
 have s6:w5.heap.size<=(w5.alloc (.cells (pubL (last+1) q.who [] 0 q.doc.ent (.slice A5 q.doc.tups.length c5) (.slice A6 q.doc.notes.length c6)) 66)).heap.size:=by simp
 have s7:=f7.size
 have s8:=f8.size
 obtain ⟨tcs,htt⟩:=htt
 have hbb:w.heap.size<=b:=by omega
 have plt:=H.top.lt
 have bllt:=H.lm.lt
 have btlt:=H.tm.lt
 have fwlt:∀ k,FW k->k<w.heap.size:=fun k hk=>H.wh.lt hk
 have hd5:DocM w7 q.doc (.slice A5 q.doc.tups.length c5) (.slice A6 q.doc.notes.length c6):=(hm.below ((Below.refl _ _).alloc (Nat.le_refl _) _)).fr f7 (fun b' ds T fr hb' hT e=>by
  subst e
  obtain ⟨es,n,h,_⟩:=H.lm
  have hz:(w5.alloc (.cells (pubL (last+1) q.who [] 0 q.doc.ent (.slice A5 q.doc.tups.length c5) (.slice A6 q.doc.notes.length c6)) 66)).heap[b']?=some (.map es n):=by
   rw [((Below.refl w5.heap.size w5).alloc (Nat.le_refl _) _).block b' (by omega),hb5.block b' (by omega),f4.block b' (by omega) (fun e=>H.ne_pl e.symm),hb3.block b' bllt,h]
  rw [hz] at hb'
  cases hb')
 have hk7:Keeps (fun k=>k=b\/k=bt\/FW k) w7:=fun b' ds T fr hb' hT e=>by
  have hT':T≠124/\T≠130/\T≠131/\T≠66:=by rcases hT with rfl|rfl <;> decide
  rcases e with rfl|rfl|e
  .have:Blk w7 b' 66 (pubL (last+1) q.who [] 0 q.doc.ent (.slice A5 q.doc.tups.length c5) (.slice A6 q.doc.notes.length c6)):=(Blk.new' w5 _ _ hbw).fr f7 (by omega)
   unfold Blk at this
   rw [this] at hb'
   injection hb' with hb'
   injection hb' with _ hb' _
   exact hT'.2.2.2 hb'.symm
  .obtain ⟨es,n,h,_⟩:=R7.tm
   rw [h] at hb'
   cases hb'
  .exact R7.wh.notT hb' hT'.1 hT'.2.1 hT'.2.2.1 e
 have hd8:=hd5.fr f8 hk7
 have hd9:=hd8.fr f9 (fun b' ds T fr hb' hT e=>by
  subst e
  unfold Blk at htt
  rw [htt] at hb'
  injection hb' with hb'
  injection hb' with _ hb' _
  rcases hT with rfl|rfl <;> exact absurd hb' (by decide))
 have tl8:td<w8.heap.size:=htt.lt
 have hFW8:∀ k,FW' k->k≠td:=fun k hk e=>by
  subst e
  exact hw8.notT htt (by decide) (by decide) (by decide) hk
 have g:Fr (fun k=>k=p\/k=bl\/k=bt\/k=b\/FW k\/w.heap.size<=k) w w9:=by
  have a1:Fr (fun k=>k=p\/k=bl\/k=bt\/k=b\/FW k\/w.heap.size<=k) w w3:=Fr.of_below hb3
  have a2:=a1.trans (G:=fun k=>k=p) f4 (fun k _ e=>.inl e)
  have a3:=a2.trans (G:=fun k=>(w3.setCell ⟨p,7,none⟩ (.int .i64 (last+1))).heap.size<=k) (Fr.of_belowB hb5) (fun k _ e=>.inr (.inr (.inr (.inr (.inr (by omega))))))
  have a4:=a3.alloc (.cells (pubL (last+1) q.who [] 0 q.doc.ent (.slice A5 q.doc.tups.length c5) (.slice A6 q.doc.notes.length c6)) 66)
  have a5:=a4.trans (G:=fun k=>k=bl) f7 (fun k _ e=>.inr (.inl e))
  have a6:=a5.trans (G:=fun k=>k=b\/k=bt\/FW k) f8 (fun k _ e=>by
   rcases e with e|e|e
   .exact .inr (.inr (.inr (.inl e)))
   .exact .inr (.inr (.inl e))
   .exact .inr (.inr (.inr (.inr (.inl e)))))
  exact a6.trans (G:=fun k=>k=td) f9 (fun k hk e=>.inr (.inr (.inr (.inr (.inr (by omega))))))
 refine stbegin_end H Q hn ht htk hlen h1 h2 hdoc hbb (g.mono fun k hk e=>?_) ((R7.top.fr f8 (by
  rintro (e|e|e)
  .omega
  .exact H.ne_pt e
  .exact H.fwp e)).fr f9 (by omega)) ((R7.lm.fr f8 (by
  rintro (e|e|e)
  .omega
  .exact H.dn e
  .exact H.fl e)).fr f9 (by omega)) ((R7.lb.fr f8 (by
  rintro (e|e|e)
  .omega
  .exact H.dn e
  .exact H.fl e)).fr f9 (by omega)) (hm8.fr f9 (by omega)) (hw8.fr f9 hFW8) (fun k hk=>?_) (vt:=.slice A5 q.doc.tups.length c5) (vn:=.slice A6 q.doc.notes.length c6) ?_ hd9
 .rcases e with e|e|e|e|e|e
  .exact .inl e
  .exact .inr (.inl e)
  .exact .inr (.inr (.inl e))
  .exact .inr (.inr (.inr (.inl e)))
  .exact .inr (.inr (.inr (.inr e)))
  .omega
 .rcases hx8 k hk with e|e
  .exact .inl e
  .exact .inr (by omega)
 .rw [hn]
  exact hk8.fr f9 (by omega)
end
theorem sec_call (c:Conf) (a:Int) (w:World):Calls Tryz.prog 30 #[.agg #[.string (str c.host),.int .i64 c.calls,.int .i64 c.pubs,.int .i64 c.subs,.int .i64 c.least,.int .i64 c.most,.int .i64 c.usual],.int .i64 a] w fun e w'=>e=.returned (.tuple #[.int .i64 (secN c a),.bool (secK c a)])/\Below w.heap.size w w':=seconds_any c a w
theorem docE_lens {d:DocP} (h:docE d=0):d.tups.length<=16/\d.notes.length<=16:=by
 unfold docE docB at h
 split at h
 .next q =>
  simp only [Bool.and_eq_true,decide_eq_true_eq] at q
  exact ⟨q.1.1.1.1.2,q.1.1.1.2⟩
 .omega
theorem ToldPost.at_ {p:Nat} {c:Conf} {F:Nat->Prop} {r:DoR} {w w':World} {v:Value} {n x:Int} {s:ByteArray} {b:Bool} (h:ToldPost p c F r w (.returned (.agg #[.int .i64 n,.int .i64 x,.string s,.bool b])) w'):ToldPost p c F r w (.returned (.agg #[.int .i64 n,.int .i64 x,.string s,.bool b])) w':=h
set_option maxRecDepth 100000 in
set_option maxHeartbeats 8000000 in
theorem begin_any {w:World} {p B:Nat} {c:Conf} {last now:Int} {L:List Pub} {F:Nat->Prop} {a:AskP} {At An:Option Addr} {ct cn:Nat} (H:St w p c last L F) (hB:B<=w.heap.size) (hd:DocB w B a.doc (.slice At a.doc.tups.length ct) (.slice An a.doc.notes.length cn)) (h:argE L now a=false) (hm:a.mtch=[]) (hla:last<=1000000) (hFB:∀ k,F k->B<=k) :
 Calls Tryz.prog 48 #[.pointer (some ⟨p,0,none⟩),.int .i64 now,.agg #[.string (str a.who),.string (str a.mtch),.int .i64 a.exp,.bool a.has,.string (str a.doc.ent),.slice At a.doc.tups.length ct,.slice An a.doc.notes.length cn,.string (str a.tag)]] w (ToldPost p c F (doR c last L now a) w):=by
 have HS0:=hid H
 have HD0:=hid hd
 have HARG:=hid (argE_no h)
 have HN1:=hid (fun q=>doR_new1 (c:=c) (last:=last) h hm q)
 have HN2:=hid (fun q1 q2=>doR_new2 (c:=c) (last:=last) h hm q1 q2)
 have HN3:=hid (fun q1 q2 q3 q4=>doR_new3 (c:=c) (last:=last) h hm q1 q2 q3 q4)
 have HN4:=hid (fun q1 q2 q3 q4=>doR_new4 (c:=c) (last:=last) h hm q1 q2 q3 q4)
 obtain ⟨xs,l,bl,bt,pw,kl,kt,FW,rfl,HI,Q⟩:=H
 have HSI:=hid HI
 have HPB:Hid (B<=p):=hid (hFB p ((HI.ff p).2 (.inl rfl)))
 have HBB:=hid hB
 have HQ:=hid Q
 have R:=HI.raw
 obtain ⟨w0,hw0⟩:∃ w0,(w.alloc (.cells #[.string (str a.who),.string (str a.mtch),.int .i64 a.exp,.bool a.has,.string (str a.doc.ent),.slice At a.doc.tups.length ct,.slice An a.doc.notes.length cn,.string (str a.tag)] 86)).alloc (.cells #[.int .i64 0,.int .i64 0,.string ⟨#[]⟩,.bool false] 83)=w0:=⟨_,rfl⟩
 have hb0:Below w.heap.size w w0:=hw0▸((Below.refl _ _).alloc (Nat.le_refl _) _).alloc (by simp) _
 have hs0:w0.heap.size=w.heap.size+2:=hw0▸(by simp)
 have hka:Blk w0 w.heap.size 86 #[.string (str a.who),.string (str a.mtch),.int .i64 a.exp,.bool a.has,.string (str a.doc.ent),.slice At a.doc.tups.length ct,.slice An a.doc.notes.length cn,.string (str a.tag)]:=hw0▸(Blk.new w _ _).alloc _
 have hkb:Blk w0 (w.heap.size+1) 83 #[.int .i64 0,.int .i64 0,.string ⟨#[]⟩,.bool false]:=hw0▸Blk.new' _ _ _ (by simp)
 have HR:Hid (∀ W,Below w.heap.size w W->RawS W p c last bl bt pw kl kt l FW):=hid (fun W hW=>R.below hW)
 have HKA:Hid (∀ W,Below w0.heap.size w0 W->Blk W w.heap.size 86 #[.string (str a.who),.string (str a.mtch),.int .i64 a.exp,.bool a.has,.string (str a.doc.ent),.slice At a.doc.tups.length ct,.slice An a.doc.notes.length cn,.string (str a.tag)]):=hid (fun W hW=>hka.fr (Fr.of_below (F:=fun _=>False) hW) (fun h=>h))
 have HKB:Hid (∀ W,Below w0.heap.size w0 W->Blk W (w.heap.size+1) 83 #[.int .i64 0,.int .i64 0,.string ⟨#[]⟩,.bool false]):=hid (fun W hW=>hkb.fr (Fr.of_below (F:=fun _=>False) hW) (fun h=>h))
 have HB0:=hid hb0
 have HSZ:=hid hs0
 have HX0:Hid (Below w0.heap.size w0 w0.drew):=hid (Below.refl _ _).drew
 have HC:Hid (∀ W,Below w0.heap.size w0 W->W.cell? ⟨p,0,none⟩=some (.string (str c.host))/\W.cell? ⟨p,1,none⟩=some (.int .i64 c.calls)/\W.cell? ⟨p,2,none⟩=some (.int .i64 c.pubs)/\W.cell? ⟨p,3,none⟩=some (.int .i64 c.subs)/\W.cell? ⟨p,4,none⟩=some (.int .i64 c.least)/\W.cell? ⟨p,5,none⟩=some (.int .i64 c.most)/\W.cell? ⟨p,6,none⟩=some (.int .i64 c.usual)/\W.cell? ⟨w.heap.size,2,none⟩=some (.int .i64 a.exp)):=hid (fun W hW=>by
  have k:=(HR.out W (thenB_ HB0.out hW)).top
  have k2:=HKA.out W hW
  exact ⟨k.cell 0,k.cell 1,k.cell 2,k.cell 3,k.cell 4,k.cell 5,k.cell 6,k2.cell 2⟩)
 have HSEC:=hid (sec_call c a.exp)
 have HBR:Hid (∀ W,Below w0.heap.size w0 W->Calls Tryz.prog 49 #[.pointer (some ⟨p,0,none⟩)] W fun e w'=>e=.returned (.agg #[.int .i64 423,.int .i64 c.least,.string ⟨#[]⟩,.bool false])/\Below W.heap.size W w'):=hid (fun W hW=>brief_any (HR.out W (thenB_ HB0.out hW)).top)
 have HFIN:Hid (∀ W,Below w0.heap.size w0 W->∀ (n x:Int) (tg:T) (s:ByteArray) (b:Bool),str tg=s->doR c last (xs.map (·.p)) now a=⟨last,xs.map (·.p),⟨n,x,tg,b⟩,0⟩->((((W.setCell ⟨w.heap.size+1,0,none⟩ (.int .i64 n)).setCell ⟨w.heap.size+1,1,none⟩ (.int .i64 x)).setCell ⟨w.heap.size+1,2,none⟩ (.string s)).setCell ⟨w.heap.size+1,3,none⟩ (.bool b)).cell? ⟨w.heap.size+1,0,none⟩=some (.int .i64 n)/\((((W.setCell ⟨w.heap.size+1,0,none⟩ (.int .i64 n)).setCell ⟨w.heap.size+1,1,none⟩ (.int .i64 x)).setCell ⟨w.heap.size+1,2,none⟩ (.string s)).setCell ⟨w.heap.size+1,3,none⟩ (.bool b)).cell? ⟨w.heap.size+1,1,none⟩=some (.int .i64 x)/\((((W.setCell ⟨w.heap.size+1,0,none⟩ (.int .i64 n)).setCell ⟨w.heap.size+1,1,none⟩ (.int .i64 x)).setCell ⟨w.heap.size+1,2,none⟩ (.string s)).setCell ⟨w.heap.size+1,3,none⟩ (.bool b)).cell? ⟨w.heap.size+1,2,none⟩=some (.string s)/\((((W.setCell ⟨w.heap.size+1,0,none⟩ (.int .i64 n)).setCell ⟨w.heap.size+1,1,none⟩ (.int .i64 x)).setCell ⟨w.heap.size+1,2,none⟩ (.string s)).setCell ⟨w.heap.size+1,3,none⟩ (.bool b)).cell? ⟨w.heap.size+1,3,none⟩=some (.bool b)/\ToldPost p c F (doR c last (xs.map (·.p)) now a) w (.returned (.agg #[.int .i64 n,.int .i64 x,.string s,.bool b])) ((((W.setCell ⟨w.heap.size+1,0,none⟩ (.int .i64 n)).setCell ⟨w.heap.size+1,1,none⟩ (.int .i64 x)).setCell ⟨w.heap.size+1,2,none⟩ (.string s)).setCell ⟨w.heap.size+1,3,none⟩ (.bool b))):=hid (fun W hW n x tg s b hs ht=>by
  subst hs
  obtain ⟨q0,q1,q2,q3⟩:=four_c (HKB.out W hW) (.int .i64 n) (.int .i64 x) (.string (str tg)) (.bool b)
  exact ⟨q0,q1,q2,q3,told_same HS0.out ht (four_fr (thenB_ HB0.out hW) (by omega) _ _ _ _)⟩)
 obtain ⟨x0,x1,x2,x3,x4,x5,x6,y2⟩:=HC.out w0 (Below.refl _ _)
 clear h hm HI Q R hd hka hkb hb0 hs0
 generalize hDO:doR c last (xs.map (·.p)) now a=DO at *
 go_enter Tryz.func48,Tryz.ntmps48
 go_upto_region 1 with (fail)
 try rw [hw0]
 clear hw0
 generalize hN:secN c a.exp=N at *
 generalize hK:secK c a.exp=K at *
 have HNK:=hid (And.intro hN hK)
 have HDO:=hid hDO
 clear hN hK hDO
 go_region_held3 (fun w'=>w'.cell? ⟨p,0,none⟩=some (.string (str c.host))/\w'.cell? ⟨p,1,none⟩=some (.int .i64 c.calls)/\w'.cell? ⟨p,2,none⟩=some (.int .i64 c.pubs)/\w'.cell? ⟨p,3,none⟩=some (.int .i64 c.subs)/\w'.cell? ⟨p,4,none⟩=some (.int .i64 c.least)/\w'.cell? ⟨p,5,none⟩=some (.int .i64 c.most)/\w'.cell? ⟨p,6,none⟩=some (.int .i64 c.usual)/\w'.cell? ⟨w.heap.size,2,none⟩=some (.int .i64 a.exp))
  (first|exact HC.out _ HX3.out|exact HC.out _ HX0.out) (first|(go_at_call 30;(with_reducible refine (HSEC.out _).mono ?_);rintro e w3 ⟨rfl,hb3⟩;have HX3:Hid (Below w0.heap.size w0 w3):=hid (thenB_ HX0.out hb3);clear hb3))
 have HX3d:Hid (Below w0.heap.size w0 (w3.drewN 1)):=hid (below_drewN HX3.out 1)
 have kt3:=HKB.out w3 HX3.out
 have t0:=kt3.cell 0
 have t1:=kt3.cell 1
 have t2:=kt3.cell 2
 have t3:=kt3.cell 3
 have f0:=kt3.frozen 0
 have f1:=kt3.frozen 1
 have f2:=kt3.frozen 2
 have f3:=kt3.frozen 3
 have y3:=(HKA.out w3 HX3.out).cell 3
 clear kt3 x0 x1 x2 x3 x4 x5 x6 y2
 cases K with
 | false =>
   clear t0 t1 t2 t3 f0 f1 f2 f3
   go_wp2_with fail
   refine (HBR.out _ HX3.out).mono ?_
   rintro e w4 ⟨rfl,hb4⟩
   have HX4:=hid (thenB_ HX3.out hb4)
   have kt3:=HKB.out w4 HX4.out
   have t0:=kt3.cell 0
   have t1:=kt3.cell 1
   have t2:=kt3.cell 2
   have t3:=kt3.cell 3
   have f0:=kt3.frozen 0
   have f1:=kt3.frozen 1
   have f2:=kt3.frozen 2
   have f3:=kt3.frozen 3
   clear hb4 kt3
   go_wp2
   obtain ⟨q0,q1,q2,q3,HP⟩:=HFIN.out w4 HX4.out 423 c.least [] ⟨#[]⟩ false rfl (HN1.out (by simp))
   exact bodyPost_ret (v:=.agg #[.int .i64 423,.int .i64 c.least,.string ⟨#[]⟩,.bool false]) (by simp [results,Tryz.results48,go_sem,q0,q1,q2,q3]) rfl HP
 | true =>
   generalize hhas:a.has=hs at *
   have HHS:=hid hhas
   clear hhas
   cases hs with
   | false =>
     go_wp2
     obtain ⟨q0,q1,q2,q3,HP⟩:=HFIN.out w3 HX3.out 400 0 [] ⟨#[]⟩ false rfl (HN2.out (by simp) (.inl (by simp)))
     exact bodyPost_ret (v:=.agg #[.int .i64 400,.int .i64 0,.string ⟨#[]⟩,.bool false]) (by simp [results,Tryz.results48,go_sem,q0,q1,q2,q3]) rfl HP
   | true =>
     by_cases hn0:N=0
     .subst hn0
      go_wp2
      obtain ⟨q0,q1,q2,q3,HP⟩:=HFIN.out w3 HX3.out 400 0 [] ⟨#[]⟩ false rfl (HN2.out (by simp) (.inr (by simp)))
      exact bodyPost_ret (v:=.agg #[.int .i64 400,.int .i64 0,.string ⟨#[]⟩,.bool false]) (by simp [results,Tryz.results48,go_sem,q0,q1,q2,q3]) rfl HP
     .have hd:decide (N=0)=false:=decide_eq_false hn0
      have hd2:(N == 0)=false:=by simpa using hn0
      have HN0:=hid hn0
      clear hn0
      have r3:=HR.out w3 (thenB_ HB0.out HX3.out)
      have z8:=r3.top.cell 8
      have z2:=r3.top.cell 2
      have hlen:∀ n,(Builtin.len_ #[51] 3 #[.map (some bl)]).run Tryz.prog (w3.drewN n)=.ok (.int .i64 xs.length) (w3.drewN n):=fun n=>by
       have h9:=(r3.lm.drewN n).len Tryz.underlying51 (ty:=3)
       rw [HSI.out.lenl] at h9
       exact h9
      clear r3
      by_cases hfull:c.pubs<=(xs.length:Int)
      .have hx:((xs.length:Int)>=c.pubs):=hfull
       have HF:=hid hfull
       go_wp2_with fail
       go_quiet (fail)
       go_wp2
       obtain ⟨q0,q1,q2,q3,HP⟩:=HFIN.out (w3.drewN nq) (below_drewN HX3.out nq) 503 0 [] ⟨#[]⟩ false rfl (HN3.out (by simp) (by simp) HN0.out (by simpa using HF.out))
       exact bodyPost_ret (v:=.agg #[.int .i64 503,.int .i64 0,.string ⟨#[]⟩,.bool false]) (by simp [results,Tryz.results48,go_sem,q0,q1,q2,q3]) rfl HP
      .have hx:¬((xs.length:Int)>=c.pubs):=hfull
       have HF:=hid hfull
       have hla0:=HQ.out.last
       have z7:=(HR.out w3 (thenB_ HB0.out HX3.out)).top.cell 7
       have g7:=(HR.out w3 (thenB_ HB0.out HX3.out)).top.frozen 7
       have hwr:IntKind.i64.wrap (last+1)=last+1:=IntWalk.i64_in _ (by omega)
       clear t0 t1 t2 t3 f0 f1 f2 f3 hfull
       go_wp2_with fail
       go_quiet (fail)
       go_wp2_with fail
       have hx3n:=below_drewN HX3.out nq
       have r4:=(HR.out (w3.drewN nq) (thenB_ HB0.out hx3n)).setLast (last+1)
       have HB3:Hid (Below w.heap.size w (w3.drewN nq)):=hid (thenB_ HB0.out hx3n)
       have plt:p<w.heap.size:=HSI.out.top.lt
       have ka4:=(HKA.out (w3.drewN nq) hx3n).far (p:=⟨p,7,none⟩) (by show w.heap.size≠p;omega) (.int .i64 (last+1))
       have kb4:=(HKB.out (w3.drewN nq) hx3n).far (p:=⟨p,7,none⟩) (by show w.heap.size+1≠p;omega) (.int .i64 (last+1))
       have hs4:w0.heap.size<=((w3.drewN nq).setCell ⟨p,7,none⟩ (.int .i64 (last+1))).heap.size:=by
        have:=hx3n.size
        have:=((Fr.refl (fun k=>k=p) (w3.drewN nq)).set (p:=⟨p,7,none⟩) (fun _=>rfl) (.int .i64 (last+1))).size
        omega
       have hd4:DocB ((w3.drewN nq).setCell ⟨p,7,none⟩ (.int .i64 (last+1))) ((w3.drewN nq).setCell ⟨p,7,none⟩ (.int .i64 (last+1))).heap.size a.doc (.slice At a.doc.tups.length ct) (.slice An a.doc.notes.length cn):=by
        have hb9:Below B w ((w3.drewN nq).setCell ⟨p,7,none⟩ (.int .i64 (last+1))):=(HB3.out.mono HBB.out).setCell (p:=⟨p,7,none⟩) HPB.out _
        exact (HD0.out.below hb9).up (Nat.le_trans HBB.out (by have:=HB3.out.size;have h9:=((Fr.refl (fun k=>k=p) (w3.drewN nq)).set (p:=⟨p,7,none⟩) (fun _=>rfl) (.int .i64 (last+1))).size;omega))
       generalize hw3:w3.drewN nq=wd at *
       obtain ⟨w4,hw4⟩:∃ w4,wd.setCell ⟨p,7,none⟩ (.int .i64 (last+1))=w4:=⟨_,rfl⟩
       rw [hw4] at r4 ka4 kb4 hs4 hd4
       rw [hw4]
       have HW4:=hid hw4
       have HDE:=(HARG.out).2.2.2.2
       have HR4:=hid r4
       have HD4:=hid hd4
       have HKA4:Hid (∀ W,Below w4.heap.size w4 W->Blk W w.heap.size 86 #[.string (str a.who),.string (str a.mtch),.int .i64 a.exp,.bool true,.string (str a.doc.ent),.slice At a.doc.tups.length ct,.slice An a.doc.notes.length cn,.string (str a.tag)]):=hid (fun W hW=>ka4.fr (Fr.of_below (F:=fun _=>False) hW) (fun h=>h))
       have HKB4:Hid (∀ W,Below w4.heap.size w4 W->Blk W (w.heap.size+1) 83 #[.int .i64 0,.int .i64 0,.string ⟨#[]⟩,.bool false]):=hid (fun W hW=>kb4.fr (Fr.of_below (F:=fun _=>False) hW) (fun h=>h))
       have HC4:Hid (∀ W,Below w4.heap.size w4 W->W.cell? ⟨p,7,none⟩=some (.int .i64 (last+1))/\W.cell? ⟨w.heap.size,0,none⟩=some (.string (str a.who))/\W.cell? ⟨w.heap.size,4,none⟩=some (.string (str a.doc.ent))/\W.cell? ⟨w.heap.size,5,none⟩=some (.slice At a.doc.tups.length ct)/\W.cell? ⟨w.heap.size,6,none⟩=some (.slice An a.doc.notes.length cn)):=hid (fun W hW=>by
        have k:=(HR4.out.below hW).top
        have k2:=HKA4.out W hW
        exact ⟨k.cell 7,k2.cell 0,k2.cell 4,k2.cell 5,k2.cell 6⟩)
       have hdoc0:docE a.doc=0:=HDE (by simp)
       have hdl:=docE_lens hdoc0
       have HCP:Hid (∀ W,Below w4.heap.size w4 W->Calls Tryz.prog 38 #[.agg #[.string (str a.doc.ent),.slice At a.doc.tups.length ct,.slice An a.doc.notes.length cn]] W (CopPost a.doc W)):=hid (fun W hW=>copied_any (Nat.le_refl _) ((HD4.out.below hW).up hW.size) hdl.1 hdl.2)
       unfold CopPost at HCP
       have HX4d:Hid (Below w4.heap.size w4 w4.drew):=hid (Below.refl _ _).drew
       have HDOC:=hid hdoc0
       have HS4:=hid hs4
       have HPLT:=hid plt
       obtain ⟨x7,y0,y4,y5,y6⟩:=HC4.out w4 (Below.refl _ _)
       clear hw4 hw3 hx3n r4 ka4 kb4 hs4 hd4 HDE hdoc0 hdl plt y3 z2 z7 z8 g7 hlen hx
       go_region_held3 (fun w'=>w'.cell? ⟨p,7,none⟩=some (.int .i64 (last+1))/\w'.cell? ⟨w.heap.size,0,none⟩=some (.string (str a.who))/\w'.cell? ⟨w.heap.size,4,none⟩=some (.string (str a.doc.ent))/\w'.cell? ⟨w.heap.size,5,none⟩=some (.slice At a.doc.tups.length ct)/\w'.cell? ⟨w.heap.size,6,none⟩=some (.slice An a.doc.notes.length cn))
        (first|exact HC4.out _ HX5.out|exact HC4.out _ HX4d.out|exact HC4.out _ (HX5.out.alloc (by have:=HX5.out.size;omega) _)) (first|(go_at_call 38;(with_reducible refine (HCP.out _ HX4d.out).mono ?_);rintro e w5 ⟨A5,c5,A6,c6,rfl,hdm5,hb5⟩;have HX5:Hid (Below w4.heap.size w4 w5):=hid (thenB_ HX4d.out hb5);have HDM5:=hid hdm5;clear hb5 hdm5))
       obtain ⟨w6,hw6⟩:∃ w6,w5.alloc (.cells #[.int .i64 (last+1),.string (str a.who),.string ⟨#[]⟩,.int .i64 0,.string (str a.doc.ent),.slice A5 a.doc.tups.length c5,.slice A6 a.doc.notes.length c6] 66)=w6:=⟨_,rfl⟩
       rw [hw6]
       have hb6:Below w5.heap.size w5 w6:=hw6▸(Below.refl _ _).alloc (Nat.le_refl _) _
       have hx6:Below w4.heap.size w4 w6:=thenB_ HX5.out hb6
       have hk6:Blk w6 w5.heap.size 66 (pubL (last+1) a.who [] 0 a.doc.ent (.slice A5 a.doc.tups.length c5) (.slice A6 a.doc.notes.length c6)):=hw6▸Blk.new w5 _ _
       have r6:=HR4.out.below hx6
       have x8:=r6.top.cell 8
       have b0:w6.cell? ⟨w5.heap.size,0,none⟩=some (.int .i64 (last+1)):=hk6.cell 0
       have sz5:w0.heap.size<=w5.heap.size:=Nat.le_trans HS4.out HX5.out.size
       have hsz:=HSZ.out
       obtain ⟨w7,hu7,r7,f7⟩:=r6.live (last+1) (.pointer (some ⟨w5.heap.size,0,none⟩))
       have bllt:bl<w.heap.size:=HSI.out.lm.lt
       have btlt:bt<w.heap.size:=HSI.out.tm.lt
       have hk7:=hk6.fr f7 (by show ¬w5.heap.size=bl;omega)
       have ka7:=(HKA4.out w6 hx6).fr f7 (by show ¬w.heap.size=bl;omega)
       have kb7:=(HKB4.out w6 hx6).fr f7 (by show ¬w.heap.size+1=bl;omega)
       have y7:=ka7.cell 7
       obtain ⟨ha1,ha2,ha3,ha4,_⟩:=HARG.out
       have hsl:=sec_lo HQ.out.right a.exp
       rw [HNK.out.1] at hsl
       have HARM:=hid (arm_any (tag:=a.tag) (now:=now) (n:=N) r7.top hk7 r7.tm r7.wh r7.ft ha1 ha2 hsl.1 hsl.2)
       have HF8:Hid (∀ w8,ArmPost w5.heap.size bt pw (last+1) a.who a.doc.ent (.slice A5 a.doc.tups.length c5) (.slice A6 a.doc.notes.length c6) a.tag (now+10*N) kt l FW w7 (.returned (.tuple #[])) w8->Blk w8 w.heap.size 86 #[.string (str a.who),.string (str a.mtch),.int .i64 a.exp,.bool true,.string (str a.doc.ent),.slice At a.doc.tups.length ct,.slice An a.doc.notes.length cn,.string (str a.tag)]/\Blk w8 (w.heap.size+1) 83 #[.int .i64 0,.int .i64 0,.string ⟨#[]⟩,.bool false]/\∀ w9,Fr (fun k=>k=w.heap.size+1) w8 w9->ToldPost p c F DO w (.returned (.agg #[.int .i64 200,.int .i64 N,.string (str a.tag),.bool true])) w9):=hid (fun w8 hA=>by
        have hA':=hA
        obtain ⟨_,FW',_,_,_,f8,_⟩:=hA'
        have hfw:∀ k,w.heap.size<=k->¬FW k:=fun k hk q=>by have:=HSI.out.wh.lt q;omega
        have kb8:=kb7.fr f8 (by
         rintro (e|e|e)
         .omega
         .omega
         .exact hfw _ (by omega) e)
        refine ⟨ka7.fr f8 (by
         rintro (e|e|e)
         .omega
         .omega
         .exact hfw _ (Nat.le_refl _) e),kb8,fun w9 f9=>?_⟩
        have he:=beg_end (q:=newP last a now N) HSI.out HQ.out rfl ha4 ha3 (by have:=HF.out;simp only [List.length_map];omega) (by show 0<=now+10*N;omega) (by show now+10*N<=1099511627776;omega) HDOC.out HB3.out (HW4.out.symm▸HX5.out) HDM5.out rfl rfl r7 (hw6.symm▸f7) hA f9 (by omega) (by omega) ⟨_,kb8⟩
        have hdo:=HN4.out (by simp) (by simp) HN0.out (by simpa using HF.out)
        rw [hdo]
        exact ⟨rfl,he⟩)
       have HW6:=hid hw6
       clear hw6 hb6 hx6 hk6 r6 r7 f7 bllt btlt hk7 ka7 kb7 ha1 ha2 ha3 ha4 hsl sz5 hsz x7 y0 y4 y5 y6
       go_wp2_with fail
       go_still_tail 9,(by kernel_rfl)
       go_wp2_with fail
       refine (HARM.out).mono ?_
       rintro e w8 ⟨rfl,hA⟩
       obtain ⟨ka8,kb8,hfin⟩:=HF8.out w8 ⟨rfl,hA⟩
       have y7:=ka8.cell 7
       have t0:=kb8.cell 0
       have t1:=kb8.cell 1
       have t2:=kb8.cell 2
       have t3:=kb8.cell 3
       have f0:=kb8.frozen 0
       have f1:=kb8.frozen 1
       have f2:=kb8.frozen 2
       have f3:=kb8.frozen 3
       obtain ⟨q0,q1,q2,q3⟩:=four_c kb8 (.int .i64 200) (.int .i64 N) (.string (str a.tag)) (.bool true)
       have HP:=hid (hfin _ ((((Fr.refl (fun k=>k=w.heap.size+1) w8).set (p:=⟨w.heap.size+1,0,none⟩) (fun _=>rfl) (.int .i64 200)).set (p:=⟨w.heap.size+1,1,none⟩) (fun _=>rfl) (.int .i64 N)).set (p:=⟨w.heap.size+1,2,none⟩) (fun _=>rfl) (.string (str a.tag)) |>.set (p:=⟨w.heap.size+1,3,none⟩) (fun _=>rfl) (.bool true)))
       clear hA ka8 kb8 hfin
       go_wp2
       exact bodyPost_ret (v:=.agg #[.int .i64 200,.int .i64 N,.string (str a.tag),.bool true]) (by simp [results,Tryz.results48,go_sem,q0,q1,q2,q3]) rfl HP.out
end Go.Proofs.YthfmekdbcoaolaaGreatDoor
