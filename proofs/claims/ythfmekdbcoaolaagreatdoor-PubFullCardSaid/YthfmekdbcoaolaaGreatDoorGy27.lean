/- Chapter 16: New, made, Len. -/
import Derived.Test.YthfmekdbcoaolaaGreatDoorGy03
import Derived.Test.YthfmekdbcoaolaaGreatDoorGy07
import Derived.Deep.RegionWith
import Derived.Deep.RegionHeld3
import Derived.Deep.Cut
namespace Go.Proofs.YthfmekdbcoaolaaGreatDoor
set_option linter.unusedSimpArgs false
set_option linter.unusedVariables false
open Go.RowKit
open Go.Lib (hid)
theorem thenB_ {a b c:World} (h:Below a.heap.size a b) (k:Below b.heap.size b c):Below a.heap.size a c:=h.trans (k.mono h.size)
theorem bmade_any {w:World} {p pw:Nat} {a0 a1 a2 a3 a4 a5 a6 a7 a8 a9:Value} (h:Blk w p 55 #[a0,a1,a2,a3,a4,a5,a6,a7,a8,a9,.pointer (some ⟨pw,0,none⟩)]) :
 Calls Tryz.prog 33 #[.pointer (some ⟨p,0,none⟩)] w fun e w'=>e=.returned (.bool true)/\w=w':=by
 have hc:=h.cell 10
 go_enter Tryz.func33,Tryz.ntmps33
 go_wp2
 go_ret
 exact ⟨rfl,rfl⟩
def StNewPost (c:Conf) (w:World) (e:Ending) (w':World):Prop:=∃ p F,e=.returned (.tuple #[.pointer (some ⟨p,0,none⟩),.int .i64 0])/\St w' p c 0 [] F/\Below w.heap.size w w'/\∀ k,F k->w.heap.size<=k
theorem stnew_no {c:Conf} (h:rightB c=false) (w:World):Calls Tryz.prog 31 #[.agg #[.string (str c.host),.int .i64 c.calls,.int .i64 c.pubs,.int .i64 c.subs,.int .i64 c.least,.int .i64 c.most,.int .i64 c.usual]] w fun e w'=>e=.returned (.tuple #[.pointer none,.int .i64 1])/\Below w.heap.size w w':=by
 obtain ⟨w0,hw0⟩:∃ w0,w.alloc (.cells #[.string (str c.host),.int .i64 c.calls,.int .i64 c.pubs,.int .i64 c.subs,.int .i64 c.least,.int .i64 c.most,.int .i64 c.usual] 27)=w0:=⟨_,rfl⟩
 obtain ⟨hb,hk⟩:=conf_box hw0
 have HB:=hid hb
 have c0:=hk.cell 0
 have c1:=hk.cell 1
 have c2:=hk.cell 2
 have c3:=hk.cell 3
 have c4:=hk.cell 4
 have c5:=hk.cell 5
 have c6:=hk.cell 6
 have HR:=hid (right_any c)
 rw [h] at HR
 clear hb hk h
 go_enter Tryz.func31,Tryz.ntmps31
 go_wp2_with fail
 refine (HR.out _).mono ?_
 rintro e w1 ⟨rfl,hb1⟩
 have HB1:=hid (thenB_ HB.out hb1)
 clear hb1
 go_wp2
 go_ret2
 exact ⟨rfl,HB1.out⟩
def MapZ (w:World) (b:Nat):Prop:=w.heap[b]?=some (.map #[] 0)
theorem MapZ.is {w:World} {b:Nat} {κ:Type} (key:κ->Value) (h:MapZ w b):MapIs w b key []:=⟨#[],0,h,rfl⟩
theorem MapZ.born {w:World} {b:Nat} (h:MapZ w b):Born w b:=⟨#[],0,h,by simp,by simp⟩
theorem MapZ.lt {w:World} {b:Nat} (h:MapZ w b):b<w.heap.size:=(h.is (κ:=Int) intKey).lt
theorem MapZ.fr {w w':World} {b:Nat} {F:Nat->Prop} (h:MapZ w b) (hf:Fr F w w') (hb:¬F b):MapZ w' b:=(hf.block b h.lt hb).trans h
theorem MapZ.made (w:World):MapZ (w.alloc (.map #[] 0)) w.heap.size:=by
 show (w.heap.push _)[w.heap.size]?=_
 simp
theorem MapZ.alloc {w:World} {b:Nat} (h:MapZ w b) (x:Obj):MapZ (w.alloc x) b:=h.fr ((Fr.refl (fun _=>False) _).alloc x) (fun h=>h)
theorem MapZ.below {w w':World} {b:Nat} (h:MapZ w b) (hb:Below w.heap.size w w'):MapZ w' b:=h.fr (Fr.of_below (F:=fun _=>False) hb) (fun h=>h)
structure NewG (w1 W:World) (bl bt pw:Nat) (FW:Nat->Prop):Prop where
 below:Below w1.heap.size w1 W
 hl:MapZ W bl
 ht:MapZ W bt
 hd:bl≠bt
 h1:w1.heap.size<=bl
 h2:w1.heap.size<=bt
 wh:Wh W pw [] FW
 f1:¬FW bl
 f2:¬FW bt
 hF:∀ k,FW k->w1.heap.size<=k
theorem NewG.swap {w1 W:World} {bl bt pw:Nat} {FW:Nat->Prop} (h:NewG w1 W bl bt pw FW):NewG w1 W bt bl pw FW :=
 ⟨h.below,h.ht,h.hl,h.hd.symm,h.h2,h.h1,h.wh,h.f2,h.f1,h.hF⟩
theorem NewG.a {w1 w3:World} {pw:Nat} {FW:Nat->Prop} (hW:Wh w3 pw [] FW) (hb:Below ((w1.alloc (.map #[] 0)).alloc (.map #[] 0)).heap.size ((w1.alloc (.map #[] 0)).alloc (.map #[] 0)) w3) (hF:∀ k,FW k->((w1.alloc (.map #[] 0)).alloc (.map #[] 0)).heap.size<=k) :
 NewG w1 w3 w1.heap.size (w1.heap.size+1) pw FW:=by
 have hF':∀ k,FW k->w1.heap.size+2<=k:=fun k hk=>by have:=hF k hk;simp at this;omega
 have m2:=MapZ.made (w1.alloc (.map #[] 0))
 rw [show (w1.alloc (.map #[] 0)).heap.size=w1.heap.size+1 by simp] at m2
 exact ⟨(((Below.refl _ _).alloc (Nat.le_refl _) _).alloc (by simp) _).trans (hb.mono (by simp;omega)),((MapZ.made w1).alloc _).below hb,m2.below hb,by omega,by omega,by omega,hW,fun h=>by have:=hF' _ h;omega,fun h=>by have:=hF' _ h;omega,fun k hk=>by have:=hF' _ hk;omega⟩
theorem NewG.b {w1 w3:World} {pw:Nat} {FW:Nat->Prop} (hW:Wh w3 pw [] FW) (hb:Below (w1.alloc (.map #[] 0)).heap.size (w1.alloc (.map #[] 0)) w3) (hF:∀ k,FW k->(w1.alloc (.map #[] 0)).heap.size<=k) :
 NewG w1 (w3.alloc (.map #[] 0)) w1.heap.size w3.heap.size pw FW:=by
 have hF':∀ k,FW k->w1.heap.size+1<=k:=fun k hk=>by have:=hF k hk;simp at this;omega
 have hs:=hb.size
 simp at hs
 exact ⟨(((Below.refl _ _).alloc (Nat.le_refl _) _).trans (hb.mono (by simp))).alloc (by omega) _,((MapZ.made w1).below hb).alloc _,MapZ.made w3,by omega,by omega,by omega,hW.fr ((Fr.refl (fun _=>False) _).alloc _) (fun _ _ h=>h),fun h=>by have:=hF' _ h;omega,fun h=>by have:=hW.lt h;omega,fun k hk=>by have:=hF' _ hk;omega⟩
theorem NewG.c {w1 w3:World} {pw:Nat} {FW:Nat->Prop} (hW:Wh w3 pw [] FW) (hb:Below w1.heap.size w1 w3) (hF:∀ k,FW k->w1.heap.size<=k) :
 NewG w1 ((w3.alloc (.map #[] 0)).alloc (.map #[] 0)) w3.heap.size (w3.heap.size+1) pw FW:=by
 have hs:=hb.size
 have m2:=MapZ.made (w3.alloc (.map #[] 0))
 rw [show (w3.alloc (.map #[] 0)).heap.size=w3.heap.size+1 by simp] at m2
 exact ⟨(hb.alloc (by omega) _).alloc (by simp;omega) _,(MapZ.made w3).alloc _,m2,by omega,by omega,by omega,hW.fr (((Fr.refl (fun _=>False) _).alloc _).alloc _) (fun _ _ h=>h),fun h=>by have:=hW.lt h;omega,fun h=>by have:=hW.lt h;omega,hF⟩
theorem st_new {c:Conf} {w w1 W:World} {bl bt pw:Nat} {FW:Nat->Prop} (hr:rightB c=true) (hb1:Below w.heap.size w w1) (H:NewG w1 W bl bt pw FW) :
 StNewPost c w (.returned (.tuple #[.pointer (some ⟨W.heap.size,0,none⟩),.int .i64 0])) (W.alloc (.cells #[.string (str c.host),.int .i64 c.calls,.int .i64 c.pubs,.int .i64 c.subs,.int .i64 c.least,.int .i64 c.most,.int .i64 c.usual,.int .i64 0,.map (some bl),.map (some bt),.pointer (some ⟨pw,0,none⟩)] 55)):=by
 have hs1:=hb1.size
 have hs:=H.below.size
 have g1:=H.h1
 have g2:=H.h2
 refine ⟨W.heap.size,PF W.heap.size bl bt [] FW,rfl,⟨[],[],bl,bt,pw,[],[],FW,rfl,⟨Blk.new _ _ _,(H.hl.alloc _).is _,(H.hl.alloc _).born,(H.ht.alloc _).is _,H.wh.fr ((Fr.refl (fun _=>False) _).alloc _) (fun _ _ h=>h),fun x hx=>by simp at hx,fun x hx=>by simp at hx,by simp,List.Perm.refl _,List.Perm.refl _,H.hd,H.f1,H.f2,fun k=>Iff.rfl⟩,StQ.nil hr (by omega)⟩,?_,fun k hk=>?_⟩
 .exact (hb1.trans (H.below.mono hs1)).alloc (by omega) _
 .rcases hk with rfl|rfl|rfl|hk|hk
  .omega
  .omega
  .omega
  .simp at hk
  .have:=H.hF k hk;omega
set_option maxRecDepth 100000 in
set_option maxHeartbeats 4000000 in
theorem stnew_any {c:Conf} (h:rightB c=true) (w:World):Calls Tryz.prog 31 #[.agg #[.string (str c.host),.int .i64 c.calls,.int .i64 c.pubs,.int .i64 c.subs,.int .i64 c.least,.int .i64 c.most,.int .i64 c.usual]] w (StNewPost c w):=by
 have hmm:=@run_makeMap Tryz.prog
 obtain ⟨w0,hw0⟩:∃ w0,w.alloc (.cells #[.string (str c.host),.int .i64 c.calls,.int .i64 c.pubs,.int .i64 c.subs,.int .i64 c.least,.int .i64 c.most,.int .i64 c.usual] 27)=w0:=⟨_,rfl⟩
 obtain ⟨hb,hk⟩:=conf_box hw0
 have HB:=hid hb
 have HK:=hid hk
 have HRT:=hid h
 have c0:=hk.cell 0
 have c1:=hk.cell 1
 have c2:=hk.cell 2
 have c3:=hk.cell 3
 have c4:=hk.cell 4
 have c5:=hk.cell 5
 have c6:=hk.cell 6
 have HR:=hid (right_any c)
 rw [h] at HR
 clear hb hk h
 go_enter Tryz.func31,Tryz.ntmps31
 go_wp2_with fail
 refine (HR.out _).mono ?_
 rintro e w1 ⟨rfl,hb1⟩
 have HB1:=hid (thenB_ HB.out hb1)
 have hk1:=HK.out.fr (Fr.of_below (F:=fun _=>False) hb1) (fun h=>h)
 clear hb1 c0 c1 c2 c3 c4 c5 c6
 have c0:=hk1.cell 0
 have c1:=hk1.cell 1
 have c2:=hk1.cell 2
 have c3:=hk1.cell 3
 have c4:=hk1.cell 4
 have c5:=hk1.cell 5
 have c6:=hk1.cell 6
 have HK1:=hid hk1
 clear hk1
 go_upto_region 3 with (fail)
 have HC:Hid (∀ W,Below w1.heap.size w1 W->W.cell? ⟨w.heap.size,0,none⟩=some (.string (str c.host))/\W.cell? ⟨w.heap.size,1,none⟩=some (.int .i64 c.calls)/\W.cell? ⟨w.heap.size,2,none⟩=some (.int .i64 c.pubs)/\W.cell? ⟨w.heap.size,3,none⟩=some (.int .i64 c.subs)/\W.cell? ⟨w.heap.size,4,none⟩=some (.int .i64 c.least)/\W.cell? ⟨w.heap.size,5,none⟩=some (.int .i64 c.most)/\W.cell? ⟨w.heap.size,6,none⟩=some (.int .i64 c.usual)):=hid (fun W h=>by
  have kk:=HK1.out.fr (Fr.of_below (F:=fun _=>False) h) (fun h=>h)
  exact ⟨kk.cell 0,kk.cell 1,kk.cell 2,kk.cell 3,kk.cell 4,kk.cell 5,kk.cell 6⟩)
 go_region_held3 (fun w'=>w'.cell? ⟨w.heap.size,0,none⟩=some (.string (str c.host))/\w'.cell? ⟨w.heap.size,1,none⟩=some (.int .i64 c.calls)/\w'.cell? ⟨w.heap.size,2,none⟩=some (.int .i64 c.pubs)/\w'.cell? ⟨w.heap.size,3,none⟩=some (.int .i64 c.subs)/\w'.cell? ⟨w.heap.size,4,none⟩=some (.int .i64 c.least)/\w'.cell? ⟨w.heap.size,5,none⟩=some (.int .i64 c.most)/\w'.cell? ⟨w.heap.size,6,none⟩=some (.int .i64 c.usual))
  (first|exact HC.out _ HX3.out|exact HC.out _ (HX3.out.alloc (by have:=HX3.out.size;simp;omega) _)|exact HC.out _ ((HX3.out.alloc (by have:=HX3.out.size;simp;omega) _).alloc (by have:=HX3.out.size;simp;omega) _)|exact HC.out _ (((HX3.out.alloc (by have:=HX3.out.size;simp;omega) _).alloc (by have:=HX3.out.size;simp;omega) _).alloc (by have:=HX3.out.size;simp;omega) _)|exact HC.out _ (Below.refl _ _)|exact HC.out _ ((Below.refl _ _).drew)|exact HC.out _ ((Below.refl _ _).drew.alloc (Nat.le_refl _) _)|exact HC.out _ (((Below.refl _ _).drew.alloc (Nat.le_refl _) _).alloc (by simp) _)) (first|(go_at_call 45;(with_reducible refine (new_any _).mono ?_);rintro e w3 ⟨pw,FW,rfl,hW,hb3,hF⟩;have HX3:Hid (Below w1.heap.size w1 w3):=hid (by first|exact thenB_ ((Below.refl _ _).drew) hb3|exact thenB_ ((Below.refl _ _).drew.alloc (Nat.le_refl _) _) hb3|exact thenB_ (((Below.refl _ _).drew.alloc (Nat.le_refl _) _).alloc (by simp) _) hb3);have HW3:=hid hW;have HB3:=hid hb3;have HF3:=hid hF;clear hW hb3 hF))
 all_goals
  go_wp2
  go_ret2
  first
  | exact st_new HRT.out HB1.out.drew (NewG.a (w1:=w1.drew) HW3.out HB3.out HF3.out)
  | (have q:=st_new HRT.out HB1.out.drew (NewG.a (w1:=w1.drew) HW3.out HB3.out HF3.out)
     simpa using q)
  | exact st_new HRT.out HB1.out.drew (NewG.a (w1:=w1.drew) HW3.out HB3.out HF3.out).swap
  | (have q:=st_new HRT.out HB1.out.drew (NewG.a (w1:=w1.drew) HW3.out HB3.out HF3.out).swap
     simpa using q)
  | exact st_new HRT.out HB1.out.drew (NewG.b (w1:=w1.drew) HW3.out HB3.out HF3.out)
  | (have q:=st_new HRT.out HB1.out.drew (NewG.b (w1:=w1.drew) HW3.out HB3.out HF3.out)
     simpa using q)
  | exact st_new HRT.out HB1.out.drew (NewG.b (w1:=w1.drew) HW3.out HB3.out HF3.out).swap
  | (have q:=st_new HRT.out HB1.out.drew (NewG.b (w1:=w1.drew) HW3.out HB3.out HF3.out).swap
     simpa using q)
  | exact st_new HRT.out HB1.out.drew (NewG.c (w1:=w1.drew) HW3.out HB3.out HF3.out)
  | (have q:=st_new HRT.out HB1.out.drew (NewG.c (w1:=w1.drew) HW3.out HB3.out HF3.out)
     simpa using q)
  | exact st_new HRT.out HB1.out.drew (NewG.c (w1:=w1.drew) HW3.out HB3.out HF3.out).swap
  | (have q:=st_new HRT.out HB1.out.drew (NewG.c (w1:=w1.drew) HW3.out HB3.out HF3.out).swap
     simpa using q)
theorem stlen_any {w:World} {p:Nat} {c:Conf} {last:Int} {L:List Pub} {F:Nat->Prop} (H:St w p c last L F) :
 Calls Tryz.prog 17 #[.pointer (some ⟨p,0,none⟩)] w fun e w'=>e=.returned (.int .i64 L.length)/\w=w':=by
 obtain ⟨xs,l,bl,bt,pw,kl,kt,FW,rfl,H,Q⟩:=H
 have hm:=hid (bmade_any H.top)
 have hc:=H.top.cell 8
 have hl:=H.lm.len Tryz.underlying51
 have HL:=hid H.lenl
 clear H Q
 go_enter Tryz.func17,Tryz.ntmps17
 go_wp2_with fail
 refine (hm.out).mono ?_
 rintro e w' ⟨rfl,rfl⟩
 go_wp2
 go_ret
 exact ⟨ret_int (by rw [HL.out,List.length_map]),rfl⟩
end Go.Proofs.YthfmekdbcoaolaaGreatDoor
