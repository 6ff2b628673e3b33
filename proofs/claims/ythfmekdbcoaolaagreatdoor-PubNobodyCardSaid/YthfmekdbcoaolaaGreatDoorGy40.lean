/- Chapter 16: what no call made keeps no publications. Chapter 16: PubNobody. -/
import Derived.Test.YthfmekdbcoaolaaGreatDoorGy39
namespace Go.Proofs.YthfmekdbcoaolaaGreatDoor
set_option linter.unusedSimpArgs false
set_option linter.unusedVariables false
open Go.RowKit
open Go.Lib (hid)
abbrev zStore:Array Value:=#[.string ⟨#[]⟩,.int .i64 0,.int .i64 0,.int .i64 0,.int .i64 0,.int .i64 0,.int .i64 0,.int .i64 0,.map none,.map none,.pointer none]
def NoS (w:World) (v:Value):Prop:=v=.pointer none\/∃ p,v=.pointer (some ⟨p,0,none⟩)/\Blk w p 55 zStore
theorem NoS.below {w w':World} {v:Value} (h:NoS w v) (hb:Below w.heap.size w w'):NoS w' v:=by
 rcases h with h|⟨p,h,hB⟩
 .exact .inl h
 .exact .inr ⟨p,h,hB.fr (Fr.of_below (F:=fun _=>False) hb) (fun h=>h)⟩
theorem smade_no {w:World} {v:Value} (h:NoS w v):Calls Tryz.prog 33 #[v] w fun e w'=>e=.returned (.bool false)/\w=w':=by
 rcases h with rfl|⟨p,rfl,hB⟩
 .go_enter Tryz.func33,Tryz.ntmps33
  go_wp2
  go_ret
  exact ⟨rfl,rfl⟩
 .have hc:=hB.cell 10
  go_enter Tryz.func33,Tryz.ntmps33
  go_wp2
  go_ret
  exact ⟨rfl,rfl⟩
theorem sexpire_no {w:World} {v:Value} (h:NoS w v) (now:Int):Calls Tryz.prog 16 #[v,.int .i64 now] w fun e w'=>e=.returned (.slice none 0 0)/\w=w':=by
 have hm:=hid (smade_no h)
 go_enter Tryz.func16,Tryz.ntmps16
 go_wp2_with fail
 refine (hm.out).mono ?_
 rintro e w' ⟨rfl,rfl⟩
 go_wp2
 go_ret
 exact ⟨rfl,rfl⟩
theorem slive_no {w:World} {v:Value} (h:NoS w v) (who:ByteArray):Calls Tryz.prog 18 #[v,.string who] w fun e w'=>e=.returned (.slice none 0 0)/\w=w':=by
 have hm:=hid (smade_no h)
 go_enter Tryz.func18,Tryz.ntmps18
 go_wp2_with fail
 refine (hm.out).mono ?_
 rintro e w' ⟨rfl,rfl⟩
 go_wp2
 go_ret
 exact ⟨rfl,rfl⟩
theorem slen_no {w:World} {v:Value} (h:NoS w v):Calls Tryz.prog 17 #[v] w fun e w'=>e=.returned (.int .i64 0)/\w=w':=by
 have hm:=hid (smade_no h)
 go_enter Tryz.func17,Tryz.ntmps17
 go_wp2_with fail
 refine (hm.out).mono ?_
 rintro e w' ⟨rfl,rfl⟩
 go_wp2
 go_ret
 exact ⟨rfl,rfl⟩
def NoDoPost (w:World) (e:Ending) (w':World):Prop:=e=.returned (.tuple #[.agg #[.int .i64 0,.int .i64 0,.string ⟨#[]⟩,.bool false],.int .i64 3])/\Below w.heap.size w w'
set_option maxRecDepth 100000 in
set_option maxHeartbeats 4000000 in
theorem sdo_no {w:World} {v:Value} (h:NoS w v) (now x2:Int) (s0 s1 s4 s7:ByteArray) (b3:Bool) (v5 v6:Value):Calls Tryz.prog 32 #[v,.int .i64 now,.agg #[.string s0,.string s1,.int .i64 x2,.bool b3,.string s4,v5,v6,.string s7]] w (NoDoPost w):=by
 obtain ⟨w0,hw0⟩:∃ w0,(w.alloc (.cells #[.string s0,.string s1,.int .i64 x2,.bool b3,.string s4,v5,v6,.string s7] 86)).alloc (.cells #[.int .i64 0,.int .i64 0,.string ⟨#[]⟩,.bool false] 83)=w0:=⟨_,rfl⟩
 have hb0:Below w.heap.size w w0:=hw0▸((Below.refl _ _).alloc (Nat.le_refl _) _).alloc (by simp) _
 have hkb:Blk w0 (w.heap.size+1) 83 #[.int .i64 0,.int .i64 0,.string ⟨#[]⟩,.bool false]:=hw0▸Blk.new' _ _ _ (by simp)
 have HM:=hid (smade_no (h.below hb0))
 have t0:=hkb.cell 0
 have t1:=hkb.cell 1
 have t2:=hkb.cell 2
 have t3:=hkb.cell 3
 have f0:=hkb.frozen 0
 have f1:=hkb.frozen 1
 have f2:=hkb.frozen 2
 have f3:=hkb.frozen 3
 obtain ⟨q0,q1,q2,q3⟩:=four_c hkb (.int .i64 0) (.int .i64 0) (.string ⟨#[]⟩) (.bool false)
 have HP:=hid (four_fr (g:=w.heap.size+1) hb0 (by omega) (.int .i64 0) (.int .i64 0) (.string ⟨#[]⟩) (.bool false))
 clear h hb0 hkb
 go_enter Tryz.func32,Tryz.ntmps32
 go_upto_region 1 with (fail)
 try rw [hw0]
 clear hw0
 go_wp2_with fail
 refine (HM.out).mono ?_
 rintro e w' ⟨rfl,rfl⟩
 go_wp2
 exact bodyPost_ret (v:=.tuple #[.agg #[.int .i64 0,.int .i64 0,.string ⟨#[]⟩,.bool false],.int .i64 3]) (by simp [results,Tryz.results32,go_sem,q0,q1,q2,q3]) rfl ⟨rfl,HP.out⟩
set_option maxRecDepth 100000 in
set_option maxHeartbeats 4000000 in
theorem does_no {w:World} {v:Value} (h:NoS w v) (now x2:Int) (s0 s1 s4 s7:ByteArray) (b3:Bool) (A5 A6:Option Addr) (n5 c5 n6 c6:Nat):Calls Tryz.prog 14 #[v,.int .i64 now,.agg #[.string s0,.string s1,.int .i64 x2,.bool b3,.string s4,.slice A5 n5 c5,.slice A6 n6 c6,.string s7]] w (NoDoPost w):=by
 obtain ⟨w0,hw0⟩:∃ w0,(w.alloc (.cells #[.string s0,.string s1,.int .i64 x2,.bool b3,.string s4,.slice A5 n5 c5,.slice A6 n6 c6,.string s7] 42)).alloc (.cells #[.int .i64 0,.int .i64 0,.string ⟨#[]⟩,.bool false] 33)=w0:=⟨_,rfl⟩
 have hb0:Below w.heap.size w w0:=hw0▸((Below.refl _ _).alloc (Nat.le_refl _) _).alloc (by simp) _
 have hka:Blk w0 w.heap.size 42 #[.string s0,.string s1,.int .i64 x2,.bool b3,.string s4,.slice A5 n5 c5,.slice A6 n6 c6,.string s7]:=hw0▸(Blk.new w _ _).alloc _
 have hkb:Blk w0 (w.heap.size+1) 33 #[.int .i64 0,.int .i64 0,.string ⟨#[]⟩,.bool false]:=hw0▸Blk.new' _ _ _ (by simp)
 have HDO:=hid (sdo_no (h.below hb0) now x2 s0 s1 s4 s7 b3 (.slice A5 n5 c5) (.slice A6 n6 c6))
 unfold NoDoPost at HDO
 have HKB:=hid hkb
 have HB0:=hid hb0
 have c0:=hka.cell 0
 have c1:=hka.cell 1
 have c2:=hka.cell 2
 have c3:=hka.cell 3
 have c4:=hka.cell 4
 have c5':=hka.cell 5
 have c6':=hka.cell 6
 have c7:=hka.cell 7
 clear h hb0 hka hkb
 go_enter Tryz.func14,Tryz.ntmps14
 go_upto_region 1 with (fail)
 try rw [hw0]
 clear hw0
 go_wp2_with fail
 refine (HDO.out).mono ?_
 rintro e w1 ⟨rfl,hb1⟩
 go_upto_region 2 with (fail)
 have kb1:=HKB.out.fr (Fr.of_below (F:=fun _=>False) hb1) (fun h=>h)
 obtain ⟨w2,hw2⟩:∃ w2,w1.alloc (.cells #[.int .i64 0,.int .i64 0,.string ⟨#[]⟩,.bool false] 83)=w2:=⟨_,rfl⟩
 have hb2:Below w1.heap.size w1 w2:=hw2▸(Below.refl _ _).alloc (Nat.le_refl _) _
 have hk2:Blk w2 w1.heap.size 83 #[.int .i64 0,.int .i64 0,.string ⟨#[]⟩,.bool false]:=hw2▸Blk.new w1 _ _
 have kb2:=kb1.fr (Fr.of_below (F:=fun _=>False) hb2) (fun h=>h)
 have d0:=hk2.cell 0
 have d1:=hk2.cell 1
 have d2:=hk2.cell 2
 have d3:=hk2.cell 3
 have t0:=kb2.cell 0
 have t1:=kb2.cell 1
 have t2:=kb2.cell 2
 have t3:=kb2.cell 3
 have f0:=kb2.frozen 0
 have f1:=kb2.frozen 1
 have f2:=kb2.frozen 2
 have f3:=kb2.frozen 3
 obtain ⟨q0,q1,q2,q3⟩:=four_c kb2 (.int .i64 0) (.int .i64 0) (.string ⟨#[]⟩) (.bool false)
 have HP:=hid (four_fr (g:=w.heap.size+1) (thenB_ (thenB_ HB0.out hb1) hb2) (by omega) (.int .i64 0) (.int .i64 0) (.string ⟨#[]⟩) (.bool false))
 clear hb1 hb2 kb1 hk2 kb2
 rw [hw2]
 clear hw2
 go_wp2
 exact bodyPost_ret (v:=.tuple #[.agg #[.int .i64 0,.int .i64 0,.string ⟨#[]⟩,.bool false],.int .i64 3]) (by simp [results,Tryz.results14,go_sem,q0,q1,q2,q3]) rfl ⟨rfl,HP.out⟩
def NobRel (w:World) (ab lb zb:Nat) (ac:Array Value) (t:Value) (wr:World):Prop :=
 ∃ j:Nat,j<=2/\t=.int .i64 j/\Blk wr ab 50 ac/\Blk wr zb 55 zStore/\Blk wr lb 24 #[.pointer none,.pointer (some ⟨zb,0,none⟩)]/\Below w.heap.size w wr
theorem neq_zero (W:World):(binOp .neq 33 (.agg #[.int .i64 0,.int .i64 0,.string ⟨#[]⟩,.bool false]) (.agg #[.int .i64 0,.int .i64 0,.string ⟨#[]⟩,.bool false])).run Tryz.prog W=.ok (.bool false) W:=neq_told 0 0 0 0 ⟨#[]⟩ ⟨#[]⟩ false false W
set_option maxRecDepth 100000 in
set_option maxHeartbeats 4000000 in
theorem pubNobody_any (ex b3:Bool) (now x2:Int) (s0 s1 s4 s7:ByteArray) (A5 A6:Option Addr) (n5 c5 n6 c6:Nat) (w:World):Calls Tryz.prog 4 #[.agg #[.bool ex,.int .i64 now,.string s0,.string s1,.int .i64 x2,.bool b3,.string s4,.slice A5 n5 c5,.slice A6 n6 c6,.string s7]] w (TruePost w):=by
 obtain ⟨ac,hac⟩:∃ ac:Array Value,#[.bool ex,.int .i64 now,.string s0,.string s1,.int .i64 x2,.bool b3,.string s4,.slice A5 n5 c5,.slice A6 n6 c6,.string s7]=ac:=⟨_,rfl⟩
 have HST:Hid (NobRel w w.heap.size (w.heap.size+1+1) (w.heap.size+1) ac (.int .i64 0) (((w.alloc (.cells #[.bool ex,.int .i64 now,.string s0,.string s1,.int .i64 x2,.bool b3,.string s4,.slice A5 n5 c5,.slice A6 n6 c6,.string s7] 50)).alloc (.cells #[.string ⟨#[]⟩,.int .i64 0,.int .i64 0,.int .i64 0,.int .i64 0,.int .i64 0,.int .i64 0,.int .i64 0,.map none,.map none,.pointer none] 55)).alloc (.cells #[.pointer none,.pointer (some ⟨w.heap.size+1,0,none⟩)] 24))):=hid
  ⟨0,by omega,rfl,hac▸((Blk.new w _ _).alloc _).alloc _,(Blk.new' (w.alloc _) _ _ (by simp)).alloc _,Blk.new' ((w.alloc _).alloc _) _ _ (by simp),(((Below.refl _ _).alloc (Nat.le_refl _) _).alloc (by simp) _).alloc (by simp;omega) _⟩
 have HAC:=hid hac
 clear hac
 have HAW:=hid awake16_any
 unfold AwkPost at HAW
 have hnz:=neq_zero
 go_enter Tryz.func4,Tryz.ntmps4
 go_wp2_with fail
 go_loopg [11] 2 (fun k t wr=>NobRel w w.heap.size (w.heap.size+1+1) (w.heap.size+1) ac t wr/\∃ j:Nat,t=.int .i64 j/\j+k=2)
 case atStart=>exact ⟨HST.out,0,rfl,rfl⟩
 case round =>
  clear HST
  obtain ⟨⟨j,hj,rfl,ha,hz,hB,hbw⟩,j',hj1,hj2⟩:=hrel
  obtain rfl:j=j':=by injection hj1 with _ h;omega
  have hbs:=hbw.size
  by_cases hlt:j<2
  .have hv:∃ v,wr.cell? ⟨w.heap.size+1+1,j,none⟩=some v/\NoS wr v:=by
    rw [hB.cell]
    match j,hlt with
    | 0,_=>exact ⟨_,rfl,.inl rfl⟩
    | 1,_=>exact ⟨_,rfl,.inr ⟨_,rfl,hz⟩⟩
   obtain ⟨v,hc,hno⟩:=hv
   have HZ:=hid hz
   have HA:=hid ha
   have HB:=hid hB
   have HW:=hid hbw
   have HN:=hid hno
   have ha':=HAC.out▸ha
   have a1:=ha'.cell 1
   have a2:=ha'.cell 2
   have a3:=ha'.cell 3
   have a4:=ha'.cell 4
   have a5:=ha'.cell 5
   have a6:=ha'.cell 6
   have a7:=ha'.cell 7
   have a8:=ha'.cell 8
   have a9:=ha'.cell 9
   have HDN:=hid (does_no hno now x2 s0 s1 s4 s7 b3 A5 A6 n5 c5 n6 c6)
   unfold NoDoPost at HDN
   clear hz hB hbw hno ha ha'
   go_wp2_with fail
   refine (HDN.out).mono ?_
   rintro e w0 ⟨rfl,hb0⟩
   go_upto_region 5 with (fail)
   obtain ⟨w1,hw1⟩:∃ w1,w0.alloc (.cells #[.int .i64 0,.int .i64 0,.string ⟨#[]⟩,.bool false] 33)=w1:=⟨_,rfl⟩
   rw [hw1]
   have hb1:Below wr.heap.size wr w1:=thenB_ hb0 (hw1▸(Below.refl _ _).alloc (Nat.le_refl _) _)
   have hk1:Blk w1 w0.heap.size 33 #[.int .i64 0,.int .i64 0,.string ⟨#[]⟩,.bool false]:=hw1▸Blk.new w0 _ _
   have HB1:=hid hb1
   have HN2:=hid (HN.out.below hb1)
   have hA2:Blk w1 w.heap.size 50 #[.bool ex,.int .i64 now,.string s0,.string s1,.int .i64 x2,.bool b3,.string s4,.slice A5 n5 c5,.slice A6 n6 c6,.string s7]:=HAC.out▸HA.out.fr (Fr.of_below (F:=fun _=>False) hb1) (fun h=>h)
   have b1:=hA2.cell 1
   have b2:=hA2.cell 2
   have t0:=hk1.cell 0
   have t1:=hk1.cell 1
   have t2:=hk1.cell 2
   have t3:=hk1.cell 3
   clear hb0 hb1 a1 a2 a3 a4 a5 a6 a7 a8 a9 hA2 hk1 hw1
   go_wp2_with fail
   refine (sexpire_no HN2.out _).mono ?_
   rintro e w2 ⟨rfl,rfl⟩
   go_wp2_with fail
   refine (slive_no HN2.out _).mono ?_
   rintro e w2 ⟨rfl,rfl⟩
   go_wp2_with fail
   refine (slen_no HN2.out).mono ?_
   rintro e w2 ⟨rfl,rfl⟩
   have HP:Hid (NobRel w w.heap.size (w.heap.size+1+1) (w.heap.size+1) ac (.int .i64 ((j+1:Nat):Int)) w1):=hid (by
    have hf:=Fr.of_below (F:=fun _=>False) HB1.out
    exact ⟨j+1,by omega,rfl,HA.out.fr hf (fun h=>h),HZ.out.fr hf (fun h=>h),HB.out.fr hf (fun h=>h),HW.out.trans (HB1.out.mono hbs)⟩)
   go_wp2
   go_roundg (1-j)
   case measure=>omega
   case rel=>exact ⟨HP.out,j+1,by go_num,by omega⟩
  .have HW:=hid hbw
   clear hz hB hbw ha
   go_wp2_with fail
   refine (HAW.out _).mono ?_
   rintro e w1 ⟨rfl,hb⟩
   have HX:=hid (thenB_ HW.out hb)
   clear hb
   go_wp2
   go_ret
   exact ⟨rfl,HX.out⟩
end Go.Proofs.YthfmekdbcoaolaaGreatDoor
