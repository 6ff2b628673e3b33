/- Chapter 19: every method at a table that no call made. Chapter 19: SubsNobody. -/
import Derived.Test.YthkadehlclcggaaGreatDoorGy57
import Derived.Test.YthkadehlclcggaaGreatDoorGy66
namespace Go.Proofs.YthkadehlclcggaaGreatDoor
set_option linter.unusedSimpArgs false
set_option linter.unusedVariables false
open Go.RowKit
open Go.Lib (hid)
def NoTab (w:World) (t:Value):Prop:=∀ W,Below w.heap.size w W->Calls Tryz.prog 33 #[t] W fun e w'=>e=.returned (.bool false)/\W=w'
theorem noTab_nil (w:World):NoTab w (.pointer none):=fun W _=>smade_nil W
theorem noTab_zero {w:World} {p:Nat} {a0 a1 a2 a3 a4 a5 a6 a7 a8:Value} (h:Blk w p 85 #[a0,a1,a2,a3,a4,a5,a6,a7,a8,.pointer none]):NoTab w (.pointer (some ⟨p,0,none⟩)):=fun W hW=>smade_zero (h.fr (Fr.of_below (F:=fun _=>False) hW) (fun h=>h))
theorem NoTab.below {w w':World} {t:Value} (h:NoTab w t) (hb:Below w.heap.size w w'):NoTab w' t:=fun W hW=>h W (thenB_ hb hW)
section
variable {w:World} {t:Value}
theorem noSet_any (h:NoTab w t) (n s:Int) (x:ByteArray):Calls Tryz.prog 25 #[t,.int .i64 n,.int .i64 s,.string x] w fun e w'=>e=.returned (.int .i64 3)/\Below w.heap.size w w':=by
 have HM:=hid (h w (Below.refl _ _))
 clear h
 go_enter Tryz.func25,Tryz.ntmps25
 go_wp2_with fail
 refine (HM.out).mono ?_
 rintro e w' ⟨rfl,rfl⟩
 go_wp2
 go_ret
 exact ⟨rfl,Below.refl _ _⟩
theorem noSent_any (h:NoTab w t) (n s:Int):Calls Tryz.prog 26 #[t,.int .i64 n,.int .i64 s] w fun e w'=>e=.returned (.int .i64 3)/\Below w.heap.size w w':=by
 have HM:=hid (h w (Below.refl _ _))
 clear h
 go_enter Tryz.func26,Tryz.ntmps26
 go_wp2_with fail
 refine (HM.out).mono ?_
 rintro e w' ⟨rfl,rfl⟩
 go_wp2
 go_ret
 exact ⟨rfl,Below.refl _ _⟩
theorem noDrop_any (h:NoTab w t) (n:Int):Calls Tryz.prog 20 #[t,.int .i64 n] w fun e w'=>e=.returned (.bool false)/\Below w.heap.size w w':=by
 have HM:=hid (h w (Below.refl _ _))
 clear h
 go_enter Tryz.func20,Tryz.ntmps20
 go_wp2_with fail
 refine (HM.out).mono ?_
 rintro e w' ⟨rfl,rfl⟩
 go_wp2
 go_ret
 exact ⟨rfl,Below.refl _ _⟩
theorem noExpire_any (h:NoTab w t) (n:Int):Calls Tryz.prog 19 #[t,.int .i64 n] w fun e w'=>e=.returned (.slice none 0 0)/\Below w.heap.size w w':=by
 have HM:=hid (h w (Below.refl _ _))
 clear h
 go_enter Tryz.func19,Tryz.ntmps19
 go_wp2_with fail
 refine (HM.out).mono ?_
 rintro e w' ⟨rfl,rfl⟩
 go_wp2
 go_ret
 exact ⟨rfl,Below.refl _ _⟩
theorem noAll_any (h:NoTab w t) :Calls Tryz.prog 21 #[t] w fun e w'=>e=.returned (.slice none 0 0)/\Below w.heap.size w w':=by
 have HM:=hid (h w (Below.refl _ _))
 clear h
 go_enter Tryz.func21,Tryz.ntmps21
 go_wp2_with fail
 refine (HM.out).mono ?_
 rintro e w' ⟨rfl,rfl⟩
 go_wp2
 go_ret
 exact ⟨rfl,Below.refl _ _⟩
set_option maxRecDepth 100000 in
set_option maxHeartbeats 4000000 in
theorem noGet_any (h:NoTab w t) (n:Int):Calls Tryz.prog 15 #[t,.int .i64 n] w fun e w'=>e=.returned (.tuple #[.agg sub0,.bool false])/\Below w.heap.size w w':=by
 obtain ⟨w0,hw0⟩:∃ w0,w.alloc (.cells sub0 39)=w0:=⟨_,rfl⟩
 have hb0:Below w.heap.size w w0:=hw0▸(Below.refl _ _).alloc (Nat.le_refl _) _
 have HK:=hid (show Blk w0 w.heap.size 39 sub0 from hw0▸Blk.new w _ _)
 have HM:=hid (h w0 hb0)
 have HB0:=hid hb0
 clear h hb0
 unfold sub0 at hw0
 go_enter Tryz.func15,Tryz.ntmps15
 go_upto_region 1 with (fail)
 try rw [hw0]
 clear hw0
 go_wp2_with (first|(go_at_call 33;refine (HM.out).mono ?_;rintro e w' ⟨rfl,rfl⟩)|(refine wpl_store rfl 39 (.tmp 4) (.tmp 18) rfl w.heap.size 0 rfl sub0 rfl HK.out (Nat.le_refl 34) sub0 rfl (by kernel_rfl) sub0_one ?_;intro wz hkz hfz))
 exact ret_cell2 rfl rfl rfl rfl hkz _ Tryz.underlying39 rfl (by kernel_rfl) ⟨rfl,below_upfr HB0.out (Nat.le_refl _) hfz (fun k e=>by omega)⟩
set_option maxRecDepth 100000 in
set_option maxHeartbeats 4000000 in
theorem noBegin_any (h:NoTab w t) (now state:Int) (r:ReqP) (q:RqV) (x y z:ByteArray):Calls Tryz.prog 12 #[t,.int .i64 now,.agg (reqA r q),.string x,.string y,.int .i64 state,.string z] w fun e w'=>e=.returned (.tuple #[.agg sub0,.int .i64 3])/\Below w.heap.size w w':=by
 obtain ⟨w0,hw0⟩:∃ w0,(w.alloc (.cells (reqA r q) 45)).alloc (.cells sub0 39)=w0:=⟨_,rfl⟩
 have hb0:Below w.heap.size w w0:=hw0▸((Below.refl _ _).alloc (Nat.le_refl _) _).alloc (by simp) _
 have HK:=hid (show Blk w0 (w.heap.size+1) 39 sub0 from hw0▸Blk.new' _ _ _ (by simp))
 have HM:=hid (h w0 hb0)
 have HB0:=hid hb0
 clear h hb0
 unfold sub0 at hw0
 go_enter Tryz.func12,Tryz.ntmps12
 go_upto_region 1 with (fail)
 try rw [hw0]
 clear hw0
 generalize Value.agg (reqA r q)=q0
 go_wp2_with (first|(go_at_call 33;refine (HM.out).mono ?_;rintro e w' ⟨rfl,rfl⟩)|(refine wpl_store rfl 39 (.tmp 14) (.tmp 25) rfl (w.heap.size+1) 0 rfl sub0 rfl HK.out (Nat.le_refl 34) sub0 rfl (by kernel_rfl) sub0_one ?_;intro wz hkz hfz))
 exact ret_cell2 rfl rfl rfl rfl hkz _ Tryz.underlying39 rfl (by kernel_rfl) ⟨rfl,below_upfr HB0.out (Nat.le_refl _) hfz (fun k e=>by omega)⟩
set_option maxRecDepth 100000 in
set_option maxHeartbeats 4000000 in
theorem noAgain_any (h:NoTab w t) (now n:Int) (r:ReqP) (q:RqV):Calls Tryz.prog 14 #[t,.int .i64 now,.int .i64 n,.agg (reqA r q)] w fun e w'=>e=.returned (.tuple #[.agg sub0,.int .i64 3])/\Below w.heap.size w w':=by
 obtain ⟨w0,hw0⟩:∃ w0,(w.alloc (.cells (reqA r q) 45)).alloc (.cells sub0 39)=w0:=⟨_,rfl⟩
 have hb0:Below w.heap.size w w0:=hw0▸((Below.refl _ _).alloc (Nat.le_refl _) _).alloc (by simp) _
 have HK:=hid (show Blk w0 (w.heap.size+1) 39 sub0 from hw0▸Blk.new' _ _ _ (by simp))
 have HM:=hid (h w0 hb0)
 have HB0:=hid hb0
 clear h hb0
 unfold sub0 at hw0
 go_enter Tryz.func14,Tryz.ntmps14
 go_upto_region 1 with (fail)
 try rw [hw0]
 clear hw0
 generalize Value.agg (reqA r q)=q0
 go_wp2_with (first|(go_at_call 33;refine (HM.out).mono ?_;rintro e w' ⟨rfl,rfl⟩)|(refine wpl_store rfl 39 (.tmp 8) (.tmp 19) rfl (w.heap.size+1) 0 rfl sub0 rfl HK.out (Nat.le_refl 34) sub0 rfl (by kernel_rfl) sub0_one ?_;intro wz hkz hfz))
 exact ret_cell2 rfl rfl rfl rfl hkz _ Tryz.underlying39 rfl (by kernel_rfl) ⟨rfl,below_upfr HB0.out (Nat.le_refl _) hfz (fun k e=>by omega)⟩
theorem noFind_any (h:NoTab w t) (r:ReqP) (q:RqV):Calls Tryz.prog 29 #[t,.agg (reqA r q)] w fun e w'=>e=.returned (.tuple #[.int .i64 0,.bool false])/\Below w.heap.size w w':=by
 obtain ⟨w0,hw0⟩:∃ w0,w.alloc (.cells (reqA r q) 45)=w0:=⟨_,rfl⟩
 have hb0:Below w.heap.size w w0:=hw0▸(Below.refl _ _).alloc (Nat.le_refl _) _
 have HM:=hid (h w0 hb0)
 have HB0:=hid hb0
 clear h hb0
 go_enter Tryz.func29,Tryz.ntmps29
 go_upto_region 1 with (fail)
 try rw [hw0]
 clear hw0
 generalize Value.agg (reqA r q)=q0
 go_wp2_with fail
 refine (HM.out).mono ?_
 rintro e w' ⟨rfl,rfl⟩
 go_wp2
 go_ret2
 exact ⟨rfl,HB0.out⟩
end
structure ActN where
 kind:Int
 now:Int
 num:Int
 state:Int
 text:T
 r:ReqP
def actN (a:ActN) (v:RqV):Array Value:=#[.int .i64 a.kind,.int .i64 a.now,.int .i64 a.num,.int .i64 a.state,.string (str a.text),.string (str a.r.method),.string (str a.r.target.scheme),.string (str a.r.target.user),.string (str a.r.target.host),.int .i64 a.r.target.port,v.tp,v.th,.string (str a.r.branch),.string (str a.r.sentby),.string (str a.r.from_.display),.string (str a.r.from_.uri.scheme),.string (str a.r.from_.uri.user),.string (str a.r.from_.uri.host),.int .i64 a.r.from_.uri.port,v.fp,v.fh,v.fa,.string (str a.r.to_.display),.string (str a.r.to_.uri.scheme),.string (str a.r.to_.uri.user),.string (str a.r.to_.uri.host),.int .i64 a.r.to_.uri.port,v.op,v.oh,v.oa,.string (str a.r.ftag),.string (str a.r.ttag),.string (str a.r.callid),.int .i64 a.r.seq,.int .i64 a.r.exp,.string (str a.r.ev.name),v.ev,v.co,v.ro,v.ac,.string (str a.r.typ),.string (str a.r.mtch),.string (str a.r.body)]
def tab0:Array Value:=#[.string ⟨#[]⟩,.int .i64 0,.int .i64 0,.int .i64 0,.int .i64 0,.int .i64 0,.int .i64 0,.int .i64 0,.map none,.pointer none]
theorem actN_at (a:ActN) (v:RqV):((actN a v).toList.drop 5).take (reqA a.r v).toList.length=(reqA a.r v).toList:=rfl
theorem nob_at {w W:World} {gb z:Nat} {k:Nat} (hb:Below w.heap.size w W) (hk:Blk w gb 23 #[.pointer none,.pointer (some ⟨z,0,none⟩)]) (hz:Blk w z 85 tab0) (h:k<2):∃ tv,W.cell? ⟨gb,k,none⟩=some tv/\NoTab W tv:=by
 have hk':=hk.fr (Fr.of_below (F:=fun _=>False) hb) (fun h=>h)
 have hz':=hz.fr (Fr.of_below (F:=fun _=>False) hb) (fun h=>h)
 match k,h with
 | 0,_=>exact ⟨_,hk'.cell 0,noTab_nil W⟩
 | 1,_=>exact ⟨_,hk'.cell 1,noTab_zero hz'⟩
set_option maxRecDepth 100000 in
set_option maxHeartbeats 8000000 in
theorem subsNobody_any (a:ActN) (v:RqV) (w:World):Calls Tryz.prog 9 #[.agg (actN a v)] w (Awk19 w):=by
 have HAW:=hid awake19_any
 unfold Awk19 at HAW
 obtain ⟨w0,hw0⟩:∃ w0,((w.alloc (.cells (actN a v) 67)).alloc (.cells tab0 85)).alloc (.cells #[.pointer none,.pointer (some ⟨w.heap.size+1,0,none⟩)] 23)=w0:=⟨_,rfl⟩
 have hb0:Below w.heap.size w w0:=hw0▸(((Below.refl _ _).alloc (Nat.le_refl _) _).alloc (by simp) _).alloc (by simp;omega) _
 have hka:Blk w0 w.heap.size 67 (actN a v):=hw0▸((Blk.new w _ _).alloc _).alloc _
 have hkz:Blk w0 (w.heap.size+1) 85 tab0:=hw0▸(Blk.new' _ _ _ (by simp)).alloc _
 have hkb:Blk w0 (w.heap.size+1+1) 23 #[.pointer none,.pointer (some ⟨w.heap.size+1,0,none⟩)]:=hw0▸Blk.new' _ _ _ (by simp)
 have HB0:=hid hb0
 have HKA:Hid (∀ W,Below w0.heap.size w0 W->Blk W w.heap.size 67 (actN a v)):=hid (fun W hW=>hka.fr (Fr.of_below (F:=fun _=>False) hW) (fun h=>h))
 have HC:Hid (∀ W,Below w0.heap.size w0 W->W.cell? ⟨w.heap.size,1,none⟩=some (.int .i64 a.now)/\W.cell? ⟨w.heap.size,2,none⟩=some (.int .i64 a.num)/\W.cell? ⟨w.heap.size,3,none⟩=some (.int .i64 a.state)/\W.cell? ⟨w.heap.size,4,none⟩=some (.string (str a.text))):=hid (fun W hW=>⟨(HKA.out W hW).cell 1,(HKA.out W hW).cell 2,(HKA.out W hW).cell 3,(HKA.out W hW).cell 4⟩)
 have HKZ:=hid hkz
 have HKB:=hid hkb
 unfold tab0 at hw0
 have HW0:=hid hw0
 clear hb0 hka hkz hkb hw0
 go_enter Tryz.func9,Tryz.ntmps9
 go_upto_region 2 with (fail)
 rw [HW0.out]
 clear HW0
 go_loopw [17] (fun i wr=>∃ k:Nat,k<=2/\i=.int .i64 k/\Below w0.heap.size w0 wr) (fun i _=>2-(intOf i).toNat)
 case atStart=>exact ⟨0,by omega,rfl,Below.refl _ _⟩
 case round =>
  obtain ⟨k,hk,rfl,hbw⟩:=hrel
  have HB:=hid hbw
  by_cases hlt:k<2
  .obtain ⟨tv,ct,hnt⟩:=nob_at hbw HKB.out HKZ.out hlt
   have HNT:Hid (∀ W,Below w0.heap.size w0 W->wr.heap.size<=W.heap.size->Below wr.heap.size wr W->NoTab W tv):=hid (fun W _ _ h=>hnt.below h)
   have x1:(k:Int)<2:=by omega
   have HRR:Hid (Below wr.heap.size wr wr):=hid (Below.refl _ _)
   clear hbw hnt
   obtain ⟨c1,c2,c3,c4⟩:=HC.out _ HB.out
   have HKW:=hid (HKA.out _ HB.out)
   go_wp2_with (refine wpl_load rfl 45 (.tmp 25) rfl w.heap.size 5 rfl HKW.out (reqA a.r v).toList (actN_at a v) _ Tryz.underlying45 rfl (by kernel_rfl) ?_)
   refine (noBegin_any (HNT.out _ HB.out HRR.out.size HRR.out) a.now a.state a.r v ⟨#[97]⟩ ⟨#[98]⟩ (str a.text)).mono ?_
   rintro e w1 ⟨rfl,hb⟩
   have HBw1:Hid (Below w0.heap.size w0 w1):=hid (HB.out.trans (hb.mono HB.out.size))
   have HRw1:Hid (Below wr.heap.size wr w1):=hid (HRR.out.trans (hb.mono HRR.out.size))
   clear hb c1 c2 c3 c4 HKW
   obtain ⟨c1,c2,c3,c4⟩:=HC.out _ HBw1.out
   have HKW:=hid (HKA.out _ HBw1.out)
   go_upto_region 5 with (refine wpl_store rfl 39 (.tmp 5) (.tmp 32) rfl w1.heap.size 0 rfl sub0 rfl (sub_blk0 w1) (Nat.le_refl 34) sub0 rfl (by kernel_rfl) sub0_one ?_;intro w2 hk1 hf1)
   have hb:Below w1.heap.size w1 w2:=below_upfr ((Below.refl _ _).alloc (Nat.le_refl _) _) (Nat.le_refl _) hf1 (fun k e=>by omega)
   have HKs_0:=hid hk1
   obtain ⟨gHKs,hgHKs⟩:∃ g,w1.heap.size=g:=⟨_,rfl⟩
   clear hk1 hf1
   have HBw2:Hid (Below w0.heap.size w0 w2):=hid (HBw1.out.trans (hb.mono HBw1.out.size))
   have HRw2:Hid (Below wr.heap.size wr w2):=hid (HRw1.out.trans (hb.mono HRw1.out.size))
   clear hb c1 c2 c3 c4 HKW
   obtain ⟨c1,c2,c3,c4⟩:=HC.out _ HBw2.out
   have HKW:=hid (HKA.out _ HBw2.out)
   simp only [hgHKs] at HKs_0 ⊢
   clear hgHKs
   go_wp2_with (refine wpl_load rfl 45 (.tmp 40) rfl w.heap.size 5 rfl HKW.out (reqA a.r v).toList (actN_at a v) _ Tryz.underlying45 rfl (by kernel_rfl) ?_)
   refine (noAgain_any (HNT.out _ HBw2.out HRw2.out.size HRw2.out) a.now a.num a.r v).mono ?_
   rintro e w3 ⟨rfl,hb⟩
   have HBw3:Hid (Below w0.heap.size w0 w3):=hid (HBw2.out.trans (hb.mono HBw2.out.size))
   have HRw3:Hid (Below wr.heap.size wr w3):=hid (HRw2.out.trans (hb.mono HRw2.out.size))
   have HKs_w3:=hid (HKs_0.out.fr (Fr.of_below (F:=fun _=>False) hb) (fun h=>h))
   clear hb c1 c2 c3 c4 HKW
   obtain ⟨c1,c2,c3,c4⟩:=HC.out _ HBw3.out
   have HKW:=hid (HKA.out _ HBw3.out)
   go_upto_region 6 with (refine wpl_store rfl 39 (.tmp 7) (.tmp 43) rfl w3.heap.size 0 rfl sub0 rfl (sub_blk0 w3) (Nat.le_refl 34) sub0 rfl (by kernel_rfl) sub0_one ?_;intro w4 hk1 hf1)
   have hb:Below w3.heap.size w3 w4:=below_upfr ((Below.refl _ _).alloc (Nat.le_refl _) _) (Nat.le_refl _) hf1 (fun k e=>by omega)
   have HKu_0:=hid hk1
   obtain ⟨gHKu,hgHKu⟩:∃ g,w3.heap.size=g:=⟨_,rfl⟩
   clear hk1 hf1
   have HBw4:Hid (Below w0.heap.size w0 w4):=hid (HBw3.out.trans (hb.mono HBw3.out.size))
   have HRw4:Hid (Below wr.heap.size wr w4):=hid (HRw3.out.trans (hb.mono HRw3.out.size))
   have HKs_w4:=hid (HKs_w3.out.fr (Fr.of_below (F:=fun _=>False) hb) (fun h=>h))
   clear hb c1 c2 c3 c4 HKW
   obtain ⟨c1,c2,c3,c4⟩:=HC.out _ HBw4.out
   have HKW:=hid (HKA.out _ HBw4.out)
   simp only [hgHKu] at HKu_0 ⊢
   clear hgHKu
   go_wp2_with (refine wpl_load rfl 45 (.tmp 47) rfl w.heap.size 5 rfl HKW.out (reqA a.r v).toList (actN_at a v) _ Tryz.underlying45 rfl (by kernel_rfl) ?_)
   refine (noFind_any (HNT.out _ HBw4.out HRw4.out.size HRw4.out) a.r v).mono ?_
   rintro e w5 ⟨rfl,hb⟩
   have HBw5:Hid (Below w0.heap.size w0 w5):=hid (HBw4.out.trans (hb.mono HBw4.out.size))
   have HRw5:Hid (Below wr.heap.size wr w5):=hid (HRw4.out.trans (hb.mono HRw4.out.size))
   have HKs_w5:=hid (HKs_w4.out.fr (Fr.of_below (F:=fun _=>False) hb) (fun h=>h))
   have HKu_w5:=hid (HKu_0.out.fr (Fr.of_below (F:=fun _=>False) hb) (fun h=>h))
   clear hb c1 c2 c3 c4 HKW
   obtain ⟨c1,c2,c3,c4⟩:=HC.out _ HBw5.out
   have HKW:=hid (HKA.out _ HBw5.out)
   go_wp2_with fail
   refine (noGet_any (HNT.out _ HBw5.out HRw5.out.size HRw5.out) a.num).mono ?_
   rintro e w6 ⟨rfl,hb⟩
   have HBw6:Hid (Below w0.heap.size w0 w6):=hid (HBw5.out.trans (hb.mono HBw5.out.size))
   have HRw6:Hid (Below wr.heap.size wr w6):=hid (HRw5.out.trans (hb.mono HRw5.out.size))
   have HKs_w6:=hid (HKs_w5.out.fr (Fr.of_below (F:=fun _=>False) hb) (fun h=>h))
   have HKu_w6:=hid (HKu_w5.out.fr (Fr.of_below (F:=fun _=>False) hb) (fun h=>h))
   clear hb c1 c2 c3 c4 HKW
   obtain ⟨c1,c2,c3,c4⟩:=HC.out _ HBw6.out
   have HKW:=hid (HKA.out _ HBw6.out)
   go_wp2_with (refine wpl_store rfl 39 (.tmp 11) (.tmp 57) rfl w6.heap.size 0 rfl sub0 rfl (sub_blk0 w6) (Nat.le_refl 34) sub0 rfl (by kernel_rfl) sub0_one ?_;intro w7 hk1 hf1;have HK1:=hid hk1;have HF1:=hid hf1;have z1:w7.cell? ⟨gHKs,0,none⟩=some (.int .i64 0):=((HKs_w6.out.alloc (.cells sub0 39)).fr hf1 (fun e=>by have:=HKs_w6.out.lt;omega)).cell 0;have z2:w7.cell? ⟨gHKu,0,none⟩=some (.int .i64 0):=((HKu_w6.out.alloc (.cells sub0 39)).fr hf1 (fun e=>by have:=HKu_w6.out.lt;omega)).cell 0;have z3:w7.cell? ⟨w6.heap.size,0,none⟩=some (.int .i64 0):=hk1.cell 0;have k2:w7.cell? ⟨w.heap.size,2,none⟩=some (.int .i64 a.num):=(((HKW.out.alloc (.cells sub0 39)).fr hf1 (fun e=>by have:=HKW.out.lt;omega)).cell 2);have k3:w7.cell? ⟨w.heap.size,3,none⟩=some (.int .i64 a.state):=(((HKW.out.alloc (.cells sub0 39)).fr hf1 (fun e=>by have:=HKW.out.lt;omega)).cell 3);clear hk1 hf1)
   have hb:Below w6.heap.size w6 w7:=below_upfr ((Below.refl _ _).alloc (Nat.le_refl _) _) (Nat.le_refl _) HF1.out (fun k e=>by omega)
   have HBw7:Hid (Below w0.heap.size w0 w7):=hid (HBw6.out.trans (hb.mono HBw6.out.size))
   have HRw7:Hid (Below wr.heap.size wr w7):=hid (HRw6.out.trans (hb.mono HRw6.out.size))
   clear hb c1 c2 c3 c4 HKW
   obtain ⟨c1,c2,c3,c4⟩:=HC.out _ HBw7.out
   have HKW:=hid (HKA.out _ HBw7.out)
   clear z1 z2 z3 k2 k3
   go_wp2_with fail
   refine (noSet_any (HNT.out _ HBw7.out HRw7.out.size HRw7.out) a.num a.state ⟨#[]⟩).mono ?_
   rintro e w8 ⟨rfl,hb⟩
   have HBw8:Hid (Below w0.heap.size w0 w8):=hid (HBw7.out.trans (hb.mono HBw7.out.size))
   have HRw8:Hid (Below wr.heap.size wr w8):=hid (HRw7.out.trans (hb.mono HRw7.out.size))
   clear hb c1 c2 c3 c4 HKW
   obtain ⟨c1,c2,c3,c4⟩:=HC.out _ HBw8.out
   have HKW:=hid (HKA.out _ HBw8.out)
   go_wp2_with fail
   refine (noSent_any (HNT.out _ HBw8.out HRw8.out.size HRw8.out) a.num a.state).mono ?_
   rintro e w9 ⟨rfl,hb⟩
   have HBw9:Hid (Below w0.heap.size w0 w9):=hid (HBw8.out.trans (hb.mono HBw8.out.size))
   have HRw9:Hid (Below wr.heap.size wr w9):=hid (HRw8.out.trans (hb.mono HRw8.out.size))
   clear hb c1 c2 c3 c4 HKW
   obtain ⟨c1,c2,c3,c4⟩:=HC.out _ HBw9.out
   have HKW:=hid (HKA.out _ HBw9.out)
   go_wp2_with fail
   refine (noDrop_any (HNT.out _ HBw9.out HRw9.out.size HRw9.out) a.num).mono ?_
   rintro e wa ⟨rfl,hb⟩
   have HBwa:Hid (Below w0.heap.size w0 wa):=hid (HBw9.out.trans (hb.mono HBw9.out.size))
   have HRwa:Hid (Below wr.heap.size wr wa):=hid (HRw9.out.trans (hb.mono HRw9.out.size))
   clear hb c1 c2 c3 c4 HKW
   obtain ⟨c1,c2,c3,c4⟩:=HC.out _ HBwa.out
   have HKW:=hid (HKA.out _ HBwa.out)
   go_wp2_with fail
   refine (noExpire_any (HNT.out _ HBwa.out HRwa.out.size HRwa.out) a.now).mono ?_
   rintro e wb ⟨rfl,hb⟩
   have HBwb:Hid (Below w0.heap.size w0 wb):=hid (HBwa.out.trans (hb.mono HBwa.out.size))
   have HRwb:Hid (Below wr.heap.size wr wb):=hid (HRwa.out.trans (hb.mono HRwa.out.size))
   clear hb c1 c2 c3 c4 HKW
   obtain ⟨c1,c2,c3,c4⟩:=HC.out _ HBwb.out
   have HKW:=hid (HKA.out _ HBwb.out)
   go_wp2_with fail
   refine (noAll_any (HNT.out _ HBwb.out HRwb.out.size HRwb.out)).mono ?_
   rintro e wc ⟨rfl,hb⟩
   have HBwc:Hid (Below w0.heap.size w0 wc):=hid (HBwb.out.trans (hb.mono HBwb.out.size))
   have HRwc:Hid (Below wr.heap.size wr wc):=hid (HRwb.out.trans (hb.mono HRwb.out.size))
   clear hb c1 c2 c3 c4 HKW
   obtain ⟨c1,c2,c3,c4⟩:=HC.out _ HBwc.out
   have HKW:=hid (HKA.out _ HBwc.out)
   have HBZ:=HBwc
   go_wp2
   go_roundw
   case rel=>exact ⟨k+1,by omega,by go_num,HBZ.out⟩
   case measure=>simp [intOf] <;> omega
  .obtain rfl:k=2:=by omega
   go_wp2_with fail
   refine (HAW.out _).mono ?_
   rintro e w9 ⟨rfl,hb9⟩
   have HB9:=hid (HB0.out.trans ((HB.out.trans (hb9.mono HB.out.size)).mono HB0.out.size))
   clear hb9
   go_wp2
   go_ret
   exact ⟨rfl,HB9.out⟩
end Go.Proofs.YthkadehlclcggaaGreatDoor
