/- Chapter 19: dialog.Begin. -/
import Derived.Test.YthkadehlclcggaaGreatDoorGx52
namespace Go.Proofs.YthkadehlclcggaaGreatDoor
set_option linter.unusedSimpArgs false
set_option linter.unusedVariables false
open Go.RowKit
open Go.Lib (hid)
def BegPost (r:ReqP) (tag:T) (w:World) (e:Ending) (w':World):Prop:=∃ v,e=.returned (.tuple #[.agg (dlgA ((begR r tag).dlg.getD noDlg) v),.int .i64 (begR r tag).err])/\DlgM w' ((begR r tag).dlg.getD noDlg) v/\Below w.heap.size w w'
theorem beg_ways (r:ReqP) (tag:T):(r.ttag≠[]/\begR r tag=⟨none,1⟩)\/(r.ttag=[]/\r.ftag=[]/\begR r tag=⟨none,1⟩)\/(r.ttag=[]/\r.ftag≠[]/\tokB tag=false/\begR r tag=⟨none,1⟩) \/
 (r.ttag=[]/\r.ftag≠[]/\tokB tag=true/\r.contact.length≠1/\begR r tag=⟨none,100⟩) \/
 (r.ttag=[]/\r.ftag≠[]/\tokB tag=true/\∃ k,r.contact=[k]/\begR r tag=if addrE (tagged r.to_ tag)≠0 then ⟨none,addrE (tagged r.to_ tag)⟩ else ⟨some ⟨r.callid,tagged r.to_ tag,r.from_,k.uri,r.routes,r.seq,0⟩,0⟩):=by
 by_cases h1:r.ttag=[]
 .refine .inr ?_
  by_cases h2:r.ftag=[]
  .exact .inl ⟨h1,h2,if_pos (.inr (.inl h2))⟩
  .refine .inr ?_
   cases h3:tokB tag
   .exact .inl ⟨h1,h2,rfl,if_pos (.inr (.inr h3))⟩
   .refine .inr ?_
    have e1:begR r tag=match r.contact with
     | [k]=>if addrE (tagged r.to_ tag)≠0 then ⟨none,addrE (tagged r.to_ tag)⟩ else ⟨some ⟨r.callid,tagged r.to_ tag,r.from_,k.uri,r.routes,r.seq,0⟩,0⟩
     | _=>⟨none,100⟩:=if_neg (by simp [h1,h2,h3])
    rw [e1]
    match hc:r.contact with
    | []=>exact .inl ⟨h1,h2,rfl,by simp,rfl⟩
    | a::b::l=>exact .inl ⟨h1,h2,rfl,by simp,rfl⟩
    | [k] =>
      exact .inr ⟨h1,h2,rfl,k,rfl,rfl⟩
 .exact .inl ⟨h1,if_pos (.inl h1)⟩
theorem tagged_lit {a:AddrP} {tag:T} {vp vh va:Value} {B:Nat} {w:World} (hB:B<=w.heap.size) (h:AdB w B a vp vh va) (hl:AdL a) :
 Calls Tryz.prog 64 #[.agg #[.string (str a.display),.string (str a.uri.scheme),.string (str a.uri.user),.string (str a.uri.host),.int .i64 a.uri.port,vp,vh,va],.string (str tag)] w fun e w'=>∃ v5 v6 v7,e=.returned (.agg #[.string (str a.display),.string (str a.uri.scheme),.string (str a.uri.user),.string (str a.uri.host),.int .i64 a.uri.port,v5,v6,v7])/\AdM w' (tagged a tag) v5 v6 v7/\Below w.heap.size w w':=tagged_any hB h hl
theorem own_lit {a:AddrP} {vp vh va:Value} {B:Nat} {w:World} (hB:B<=w.heap.size) (h:AdB w B a vp vh va) (hl:AdL a) :
 Calls Tryz.prog 65 #[.agg #[.string (str a.display),.string (str a.uri.scheme),.string (str a.uri.user),.string (str a.uri.host),.int .i64 a.uri.port,vp,vh,va]] w fun e w'=>∃ v5 v6 v7,e=.returned (.agg #[.string (str a.display),.string (str a.uri.scheme),.string (str a.uri.user),.string (str a.uri.host),.int .i64 a.uri.port,v5,v6,v7])/\AdM w' a v5 v6 v7/\Below w.heap.size w w':=own_any hB h hl
theorem below_dd {a b:World} (h:Below a.heap.size a b):Below a.drew.heap.size a.drew b.drew:=⟨h.os,h.tape,h.output,h.size,h.block⟩
theorem below_sc {B g:Nat} {a w:World} {off:Nat} {l:List Value} (h:Below B a w) (hB:B<=a.heap.size) (hg:B<=g):Below B a (w.setCells g off l):=below_upfr h hB (fr_setCells g l off w) (fun k e=>by omega)
theorem cx_cells {W:World} {B gb off:Nat} {x:CX} (h:RdB W B 8 1 (some ⟨gb,off,none⟩) (rows cxC [x])):W.cell? ⟨gb,off+1,none⟩=some (.string (str x.a.uri.scheme))/\W.cell? ⟨gb,off+2,none⟩=some (.string (str x.a.uri.user))/\W.cell? ⟨gb,off+3,none⟩=some (.string (str x.a.uri.host))/\W.cell? ⟨gb,off+4,none⟩=some (.int .i64 x.a.uri.port)/\W.cell? ⟨gb,off+5,none⟩=some x.vp/\W.cell? ⟨gb,off+6,none⟩=some x.vh:=by
 obtain ⟨gb',off',e,_,hc⟩:=h.2 (Nat.zero_lt_one)
 injection e with e
 injection e with e1 e2 _
 subst e1 e2
 exact ⟨hc 1 _ rfl,hc 2 _ rfl,hc 3 _ rfl,hc 4 _ rfl,hc 5 _ rfl,hc 6 _ rfl⟩
abbrev begD (r:ReqP) (tag:T) (k:AddrP):Dlg:=⟨r.callid,tagged r.to_ tag,r.from_,k.uri,r.routes,r.seq,0⟩
def BegMid (r:ReqP) (tag:T) (k:AddrP) (w:World) (p:Value) (wx:World):Prop:=∃ g v,p=.pointer (some ⟨g,0,none⟩)/\w.heap.size+2<=g/\Blk wx g 37 (dlgA (begD r tag k) v)/\DlgM wx (begD r tag k) v/\Blk wx (w.heap.size+1) 37 dlg0/\Below w.heap.size w wx
theorem beg_end {r:ReqP} {tag:T} {k:AddrP} {w W:World} {gd:Nat} {v:SlV} (hz:Blk W gd 37 dlg0) (hm:DlgM W (begD r tag k) v) (hg:w.heap.size+2<=gd) (hkb:Blk W (w.heap.size+1) 37 dlg0) (hb:Below w.heap.size w W) :
 BegMid r tag k w (.pointer (some ⟨gd,0,none⟩)) (W.setCells gd 0 (dlgA (begD r tag k) v).toList):=by
 have hf:=fr_setCells gd (dlgA (begD r tag k) v).toList 0 W
 have hn:Blk (W.setCells gd 0 (dlgA (begD r tag k) v).toList) gd 37 (dlgA (begD r tag k) v):=blk_setCells (dlgA (begD r tag k) v).toList (off:=0) hz (Nat.le_refl 26)
 exact ⟨gd,v,rfl,hg,hn,hm.fr hf (keepP_blk hz (by decide) (by decide)),hkb.fr hf (by omega),below_upfr hb (Nat.le_refl _) hf (fun k e=>by omega)⟩
theorem beg_end2 {r:ReqP} {tag:T} {k:AddrP} {w W:World} {v:SlV} (hm:DlgM W (begD r tag k) v) (hkb:Blk W (w.heap.size+1) 37 dlg0) (hb:Below w.heap.size w W) :
 BegMid r tag k w (.pointer (some ⟨W.heap.size,0,none⟩)) (W.alloc (.cells (dlgA (begD r tag k) v) 37)):=by
 have hl:=hkb.lt
 exact ⟨W.heap.size,v,rfl,by omega,Blk.new _ _ _,hm.below ((Below.refl _ _).alloc (Nat.le_refl _) _),hkb.alloc _,hb.alloc hb.size _⟩
set_option maxRecDepth 100000 in
set_option maxHeartbeats 16000000 in
theorem Begin_any {r:ReqP} {tag:T} {v:RqV} {B:Nat} {w:World} (hB:B<=w.heap.size) (h:ReqB w B r v) (hz:ReqZ r) (ht:tag.length<=9223372036854775807) :
 Calls Tryz.prog 35 #[.agg (reqA r v),.string (str tag)] w (BegPost r tag w):=by
 obtain ⟨w0,hw0⟩:∃ w0,(w.alloc (.cells (reqA r v) 45)).alloc (.cells dlg0 37)=w0:=⟨_,rfl⟩
 have hb0:Below w.heap.size w w0:=hw0▸((Below.refl _ _).alloc (Nat.le_refl _) _).alloc (by simp) _
 have hka:Blk w0 w.heap.size 45 (reqA r v):=hw0▸(Blk.new w _ _).alloc _
 have hkb:Blk w0 (w.heap.size+1) 37 dlg0:=hw0▸Blk.new' _ _ _ (by simp)
 have HBO:Hid (∀ W,Below w0.heap.size w0 W->ReqB W B r v/\B<=W.heap.size):=hid (fun W hW=>⟨h.below ((hb0.mono hB).trans (hW.mono (Nat.le_trans hB hb0.size))),Nat.le_trans hB (Nat.le_trans hb0.size hW.size)⟩)
 have HBL:Hid (∀ W,Below w0.heap.size w0 W->Below B w W):=hid (fun W hW=>(hb0.mono hB).trans (hW.mono (Nat.le_trans hB hb0.size)))
 have HTK:Hid (∀ W,Calls Tryz.prog 63 #[.string (str tag)] W fun e w'=>e=.returned (.bool (tokB tag))/\W=w'):=hid (fun W=>token_any tag W ht)
 have HRC:Hid (∀ W,Below w0.heap.size w0 W->RqC W w.heap.size r v):=hid (fun W hW=>req_c (hka.fr (Fr.of_below (F:=fun _=>False) hW) (fun h=>h)))
 have HKB:Hid (∀ W,Below w0.heap.size w0 W->Blk W (w.heap.size+1) 37 dlg0):=hid (fun W hW=>hkb.fr (Fr.of_below (F:=fun _=>False) hW) (fun h=>h))
 have HB0:=hid hb0
 have HW:=hid (beg_ways r tag)
 have HZ:=hid hz
 obtain ⟨xs,hxs,⟨A,cc,hco,hcl,_,hcr⟩,hcx⟩:=h.co
 have HCR:=hid hcr
 have HCX:=hid hcx
 have HXS:=hid hxs
 have HCO:=hid hco
 have hl0:=hkb.lt
 have HLT:Hid (w.heap.size+2<=w0.heap.size):=hid (by omega)
 have c25:=(HRC.out _ (Below.refl _ _)).c25
 have c26:=(HRC.out _ (Below.refl _ _)).c26
 have c32:=(HRC.out _ (Below.refl _ _)).c32
 rw [hco] at c32
 clear hb0 hka hkb hB h hz ht hcr hcx hxs hco hl0
 unfold dlg0 at hw0
 go_enter Tryz.func35,Tryz.ntmps35
 go_upto_region 1 with (fail)
 try rw [hw0]
 clear hw0
 generalize Value.agg (reqA r v)=q0
 rcases HW.out with ⟨h1,hx⟩|⟨h1,h2,hx⟩|⟨h1,h2,h3,hx⟩|⟨h1,h2,h3,h4,hx⟩|⟨h1,h2,h3,k,h4,hx⟩
 .have q1:=emp_not h1
  have HE:=hid hx
  clear hx h1
  go_wp2_with (refine wpl_store rfl 37 (.tmp 4) (.tmp 21) rfl (w.heap.size+1) 0 rfl dlg0 rfl (HKB.out _ (Below.refl _ _)) (Nat.le_refl 26) dlg0 rfl (by kernel_rfl) dlg0_one ?_;intro wz hkz hfz)
  refine ret_cell2 rfl rfl rfl rfl hkz _ Tryz.underlying37 rfl (by kernel_rfl) ⟨nilV,by rw [HE.out];rfl,by rw [HE.out];exact dlg_none _,?_⟩
  exact below_upfr HB0.out (Nat.le_refl _) hfz (fun k e=>by omega)
 .have q1:=emp_is h1
  have q2:=emp_is h2
  have HE:=hid hx
  clear hx h1 h2
  go_wp2_with (refine wpl_store rfl 37 (.tmp 4) (.tmp 21) rfl (w.heap.size+1) 0 rfl dlg0 rfl (HKB.out _ (Below.refl _ _)) (Nat.le_refl 26) dlg0 rfl (by kernel_rfl) dlg0_one ?_;intro wz hkz hfz)
  refine ret_cell2 rfl rfl rfl rfl hkz _ Tryz.underlying37 rfl (by kernel_rfl) ⟨nilV,by rw [HE.out];rfl,by rw [HE.out];exact dlg_none _,?_⟩
  exact below_upfr HB0.out (Nat.le_refl _) hfz (fun k e=>by omega)
 .have q1:=emp_is h1
  have q2:=emp_not h2
  rw [h3] at HTK
  have HE:=hid hx
  clear hx h1 h2 h3
  go_wp2_with (first|(go_at_call 63;refine (HTK.out _).mono ?_;rintro e w1 ⟨rfl,rfl⟩)|(refine wpl_store rfl 37 (.tmp 4) (.tmp 21) rfl (w.heap.size+1) 0 rfl dlg0 rfl (HKB.out _ (Below.refl _ _)) (Nat.le_refl 26) dlg0 rfl (by kernel_rfl) dlg0_one ?_;intro wz hkz hfz))
  refine ret_cell2 rfl rfl rfl rfl hkz _ Tryz.underlying37 rfl (by kernel_rfl) ⟨nilV,by rw [HE.out];rfl,by rw [HE.out];exact dlg_none _,?_⟩
  exact below_upfr HB0.out (Nat.le_refl _) hfz (fun k e=>by omega)
 .have q1:=emp_is h1
  have q2:=emp_not h2
  rw [h3] at HTK
  have HE:=hid hx
  have hxl:xs.length≠1:=by rw [<-HXS.out,List.length_map] at h4;exact h4
  have q3:((xs.length:Int) != 1)=true:=by simp;omega
  clear hx h1 h2 h3 h4 hxl
  go_wp2_with (first|(go_at_call 63;refine (HTK.out _).mono ?_;rintro e w1 ⟨rfl,rfl⟩)|(refine wpl_store rfl 37 (.tmp 4) (.tmp 26) rfl (w.heap.size+1) 0 rfl dlg0 rfl (HKB.out _ (Below.refl _ _)) (Nat.le_refl 26) dlg0 rfl (by kernel_rfl) dlg0_one ?_;intro wz hkz hfz))
  refine ret_cell2 rfl rfl rfl rfl hkz _ Tryz.underlying37 rfl (by kernel_rfl) ⟨nilV,by rw [HE.out];rfl,by rw [HE.out];exact dlg_none _,?_⟩
  exact below_upfr HB0.out (Nat.le_refl _) hfz (fun k e=>by omega)
 .have q1:=emp_is h1
  have q2:=emp_not h2
  rw [h3] at HTK
  have HE:=hid hx
  obtain ⟨x,rfl,rfl⟩:∃ x,xs=[x]/\x.a=k:=by
   have h9:=HXS.out
   rw [h4] at h9
   match xs,h9 with
   | [x],h9=>exact ⟨x,rfl,by simpa using h9⟩
  have HTL:Hid (tag.length<=64):=hid (by unfold tokB at h3;simp only [Bool.and_eq_true,decide_eq_true_eq] at h3;exact h3.1.2)
  obtain ⟨gb,off,rfl,hgb,_⟩:=id (HCR.out.2 (Nat.zero_lt_one))
  have HS:Hid (∀ W,Below w0.heap.size w0 W->W.cell? ⟨w.heap.size,9,none⟩=some (.string (str r.from_.display))/\W.cell? ⟨w.heap.size,10,none⟩=some (.string (str r.from_.uri.scheme))/\W.cell? ⟨w.heap.size,11,none⟩=some (.string (str r.from_.uri.user))/\W.cell? ⟨w.heap.size,12,none⟩=some (.string (str r.from_.uri.host))/\W.cell? ⟨w.heap.size,13,none⟩=some (.int .i64 r.from_.uri.port)/\W.cell? ⟨w.heap.size,14,none⟩=some (v.fp)/\W.cell? ⟨w.heap.size,15,none⟩=some (v.fh)/\W.cell? ⟨w.heap.size,16,none⟩=some (v.fa)/\W.cell? ⟨w.heap.size,17,none⟩=some (.string (str r.to_.display))/\W.cell? ⟨w.heap.size,18,none⟩=some (.string (str r.to_.uri.scheme))/\W.cell? ⟨w.heap.size,19,none⟩=some (.string (str r.to_.uri.user))/\W.cell? ⟨w.heap.size,20,none⟩=some (.string (str r.to_.uri.host))/\W.cell? ⟨w.heap.size,21,none⟩=some (.int .i64 r.to_.uri.port)/\W.cell? ⟨w.heap.size,22,none⟩=some (v.op)/\W.cell? ⟨w.heap.size,23,none⟩=some (v.oh)/\W.cell? ⟨w.heap.size,24,none⟩=some (v.oa)/\W.cell? ⟨w.heap.size,27,none⟩=some (.string (str r.callid))/\W.cell? ⟨w.heap.size,28,none⟩=some (.int .i64 r.seq)/\W.cell? ⟨w.heap.size,32,none⟩=some (.slice (some ⟨gb,off,none⟩) 1 cc)/\W.cell? ⟨w.heap.size,33,none⟩=some v.ro/\W.cell? ⟨gb,off+1,none⟩=some (.string (str x.a.uri.scheme))/\W.cell? ⟨gb,off+2,none⟩=some (.string (str x.a.uri.user))/\W.cell? ⟨gb,off+3,none⟩=some (.string (str x.a.uri.host))/\W.cell? ⟨gb,off+4,none⟩=some (.int .i64 x.a.uri.port)/\W.cell? ⟨gb,off+5,none⟩=some (x.vp)/\W.cell? ⟨gb,off+6,none⟩=some (x.vh)):=hid (fun W hW=>by
   obtain ⟨c9,c10,c11,c12,c13,c14,c15,c16,c17,c18,c19,c20,c21,c22,c23,c24,c25,c26,c27,c28,c30,c31,c32,c33⟩:=HRC.out W hW
   obtain ⟨k1,k2,k3,k4,k5,k6⟩:=cx_cells (HCR.out.below (HBL.out W hW))
   rw [HCO.out] at c32
   exact ⟨c9,c10,c11,c12,c13,c14,c15,c16,c17,c18,c19,c20,c21,c22,c23,c24,c27,c28,c32,c33,k1,k2,k3,k4,k5,k6⟩)
  have HT:=hid (fun W hW=>tagged_lit (tag:=tag) (HBO.out W hW).2 (HBO.out W hW).1.to_ HZ.out.to_)
  have HO:=hid (fun W hW=>own_lit (HBO.out W hW).2 (HBO.out W hW).1.from_ HZ.out.from_)
  have HC:Hid (∀ W,Below w0.heap.size w0 W->_):=hid (fun W hW=>cloned_lit (u:=x.a.uri) (HBO.out W hW).2 ((HCX.out x (by simp)).1.below (HBL.out W hW)) ((HCX.out x (by simp)).2.below (HBL.out W hW)) (HZ.out.co x.a (by rw [h4];simp)).1 (HZ.out.co x.a (by rw [h4];simp)).2)
  have HR:=hid (fun W hW=>clone_rts (HBO.out W hW).1.ro (HBO.out W hW).2 HZ.out.ro)
  have HEND:Hid (∀ W gd v,Blk W gd 37 dlg0->DlgM W (begD r tag x.a) v->w0.heap.size<=gd->Below w0.heap.size w0 W->BegMid r tag x.a w (.pointer (some ⟨gd,0,none⟩)) (W.setCells gd 0 (dlgA (begD r tag x.a) v).toList)):=hid (fun W gd v a b c d=>beg_end a b (Nat.le_trans HLT.out c) (HKB.out W d) (HB0.out.trans (d.mono HB0.out.size)))
  have HEND2:Hid (∀ W v,DlgM W (begD r tag x.a) v->Below w0.heap.size w0 W->BegMid r tag x.a w (.pointer (some ⟨W.heap.size,0,none⟩)) (W.alloc (.cells (dlgA (begD r tag x.a) v) 37))):=hid (fun W v b d=>beg_end2 b (HKB.out W d) (HB0.out.trans (d.mono HB0.out.size)))
  have HX0:Hid (Below w0.heap.size w0 w0.drew):=hid (Below.refl _ _).drew
  clear hx h1 h2 h3 h4 hcl
  go_upto_region 5 with (go_at_call 63;refine (HTK.out _).mono ?_;rintro e w1 ⟨rfl,rfl⟩)
  clear c25 c26 c32
  go_cut [6] (fun p wx=>BegMid r tag x.a w p wx)
  case first =>
   refine wp_region_noPanic (rgn HS.out HX0.out fun hHeld=>?_)
   refine tk 0 ?_
   refine tk 1 ?_
   refine tk 2 ?_
   refine tk 3 ?_
   refine tk 4 ?_
   refine tk 6 ?_
   refine tk 7 ?_
   refine tk 9 ?_
   refine tk 10 ?_
   refine tk 11 ?_
   refine tk 12 ?_
   refine tk 13 ?_
   refine tk 15 ?_
   refine tk 16 ?_
   refine tk 18 ?_
   refine tk 19 ?_
   refine wpAnyH_ready (rs:=[5,21]) (by kernel_rfl) (by simp) ?_
   refine rdc (fun K hK=>?_) ?_
   .go_simp
    refine (HT.out _ HX0.out).mono ?_
    rintro e w3 ⟨v1,v2,v3,rfl,m1,hb1⟩
    obtain ⟨⟨A1,c1,rfl,_⟩,⟨A2,c2,rfl,_⟩,⟨A3,c3,rfl,_⟩⟩:=id m1
    have HMa:=hid m1
    have HX3:Hid (Below w0.heap.size w0 w3):=hid (thenB_ HX0.out hb1)
    clear hb1
    clear m1
    go_wp2_with fail
    refine bk hK (HS.out _ HX3.out) fun hHeld=>?_
    clear hK K
    refine wpAnyH_ready (rs:=[8,21]) (by kernel_rfl) (by simp) ?_
    refine rdc (fun K hK=>?_) ?_
    .go_simp
     refine (HO.out _ HX3.out).mono ?_
     rintro e w4 ⟨v4,v5,v6,rfl,m1,hb1⟩
     obtain ⟨⟨A4,c4,rfl,_⟩,⟨A5,c5,rfl,_⟩,⟨A6,c6,rfl,_⟩⟩:=id m1
     have HMb:=hid m1
     have HMa:=hid (HMa.out.below hb1)
     have HX4:Hid (Below w0.heap.size w0 w4):=hid (thenB_ HX3.out hb1)
     clear hb1
     clear m1
     go_wp2_with fail
     refine bk hK (HS.out _ HX4.out) fun hHeld=>?_
     clear hK K
     refine wpAnyH_ready (rs:=[14,21]) (by kernel_rfl) (by simp) ?_
     refine rdc (fun K hK=>?_) ?_
     .go_simp
      refine (HC.out _ HX4.out).mono ?_
      rintro e w5 ⟨A7,c7,A8,c8,rfl,m1,m2,hb1⟩
      have HMc:=hid m1
      have HMd:=hid m2
      have HMa:=hid (HMa.out.below hb1)
      have HMb:=hid (HMb.out.below hb1)
      have HX5:Hid (Below w0.heap.size w0 w5):=hid (thenB_ HX4.out hb1)
      clear hb1
      clear m1 m2
      go_wp2_with fail
      refine bk hK (HS.out _ HX5.out) fun hHeld=>?_
      clear hK K
      refine wpAnyH_ready (rs:=[17,21]) (by kernel_rfl) (by simp) ?_
      refine rdc (fun K hK=>?_) ?_
      .go_simp
       refine (HR.out _ HX5.out).mono ?_
       rintro e w6 ⟨A9,c9,rfl,m1,hb1⟩
       have HMe:=hid m1
       have HMa:=hid (HMa.out.below hb1)
       have HMb:=hid (HMb.out.below hb1)
       have HMc:=hid (HMc.out.below hb1)
       have HMd:=hid (HMd.out.below hb1)
       have HX6:Hid (Below w0.heap.size w0 w6):=hid (thenB_ HX5.out hb1)
       clear hb1
       clear m1
       go_wp2_with fail
       refine bk hK (HS.out _ HX6.out) fun hHeld=>?_
       clear hK K
       refine tk 20 ?_
       refine wpAnyH_ready (rs:=[21]) (by kernel_rfl) (by simp) ?_
       refine rdc (fun K hK=>?_) ?_
       .go_simp
        have hb1:Below w6.heap.size w6 (w6.alloc (.cells #[.string ⟨#[]⟩,.string ⟨#[]⟩,.string ⟨#[]⟩,.string ⟨#[]⟩,.string ⟨#[]⟩,.int .i64 0,.slice none 0 0,.slice none 0 0,.slice none 0 0,.string ⟨#[]⟩,.string ⟨#[]⟩,.string ⟨#[]⟩,.string ⟨#[]⟩,.int .i64 0,.slice none 0 0,.slice none 0 0,.slice none 0 0,.string ⟨#[]⟩,.string ⟨#[]⟩,.string ⟨#[]⟩,.int .i64 0,.slice none 0 0,.slice none 0 0,.slice none 0 0,.int .i64 0,.int .i64 0] 37)):=(Below.refl _ _).alloc (Nat.le_refl _) _
        have hz:Blk (w6.alloc (.cells #[.string ⟨#[]⟩,.string ⟨#[]⟩,.string ⟨#[]⟩,.string ⟨#[]⟩,.string ⟨#[]⟩,.int .i64 0,.slice none 0 0,.slice none 0 0,.slice none 0 0,.string ⟨#[]⟩,.string ⟨#[]⟩,.string ⟨#[]⟩,.string ⟨#[]⟩,.int .i64 0,.slice none 0 0,.slice none 0 0,.slice none 0 0,.string ⟨#[]⟩,.string ⟨#[]⟩,.string ⟨#[]⟩,.int .i64 0,.slice none 0 0,.slice none 0 0,.slice none 0 0,.int .i64 0,.int .i64 0] 37)) w6.heap.size 37 dlg0:=Blk.new _ 37 dlg0
        have HGD:Hid (w0.heap.size<=w6.heap.size):=hid HX6.out.size
        obtain ⟨u4,hu⟩:∃ u,w6.alloc (.cells #[.string ⟨#[]⟩,.string ⟨#[]⟩,.string ⟨#[]⟩,.string ⟨#[]⟩,.string ⟨#[]⟩,.int .i64 0,.slice none 0 0,.slice none 0 0,.slice none 0 0,.string ⟨#[]⟩,.string ⟨#[]⟩,.string ⟨#[]⟩,.string ⟨#[]⟩,.int .i64 0,.slice none 0 0,.slice none 0 0,.slice none 0 0,.string ⟨#[]⟩,.string ⟨#[]⟩,.string ⟨#[]⟩,.int .i64 0,.slice none 0 0,.slice none 0 0,.slice none 0 0,.int .i64 0,.int .i64 0] 37)=u:=⟨_,rfl⟩
        rw [hu] at hb1 hz ⊢
        clear hu
        have HZ:=hid hz
        have HMa:=hid (HMa.out.below hb1)
        have HMb:=hid (HMb.out.below hb1)
        have HMc:=hid (HMc.out.below hb1)
        have HMd:=hid (HMd.out.below hb1)
        have HMe:=hid (HMe.out.below hb1)
        have HXu:Hid (Below w0.heap.size w0 u4):=hid (thenB_ HX6.out hb1)
        clear hb1 hz
        refine bk hK (HS.out _ HXu.out) fun hHeld=>?_
        clear hK K
        refine wpAnyH_ready (rs:=[22]) (by kernel_rfl) (by simp) ?_
        refine rdc (fun K hK=>?_) ?_
        .rw [if_pos (by rfl)]
         refine wp_store_mid 37 (.tmp 6) (.tmp 47) rfl (w6.heap.size) 0 (dlgA (begD r tag x.a) ⟨.slice none 0 0,.slice A1 (tagged r.to_ tag).uri.params.length c1,.slice A2 (tagged r.to_ tag).uri.headers.length c2,.slice A3 (tagged r.to_ tag).params.length c3,.slice A4 r.from_.uri.params.length c4,.slice A5 r.from_.uri.headers.length c5,.slice A6 r.from_.params.length c6,.slice A7 x.a.uri.params.length c7,.slice A8 x.a.uri.headers.length c8,.slice A9 r.routes.length c9⟩) rfl rfl (blk_there HZ.out (Nat.le_refl 26)) (by kernel_rfl) (dlgA_one ⟨rfl,rfl,rfl,rfl,rfl,rfl,rfl,rfl,rfl⟩) ?_
         have HFIN:=hid (HEND.out _ _ ⟨.slice none 0 0,.slice A1 (tagged r.to_ tag).uri.params.length c1,.slice A2 (tagged r.to_ tag).uri.headers.length c2,.slice A3 (tagged r.to_ tag).params.length c3,.slice A4 r.from_.uri.params.length c4,.slice A5 r.from_.uri.headers.length c5,.slice A6 r.from_.params.length c6,.slice A7 x.a.uri.params.length c7,.slice A8 x.a.uri.headers.length c8,.slice A9 r.routes.length c9⟩ HZ.out ⟨HMa.out,HMb.out,HMc.out,HMd.out,HMe.out⟩ HGD.out HXu.out)
         have HXF:=hid (below_sc (off:=0) (l:=(dlgA (begD r tag x.a) ⟨.slice none 0 0,.slice A1 (tagged r.to_ tag).uri.params.length c1,.slice A2 (tagged r.to_ tag).uri.headers.length c2,.slice A3 (tagged r.to_ tag).params.length c3,.slice A4 r.from_.uri.params.length c4,.slice A5 r.from_.uri.headers.length c5,.slice A6 r.from_.params.length c6,.slice A7 x.a.uri.params.length c7,.slice A8 x.a.uri.headers.length c8,.slice A9 r.routes.length c9⟩).toList) HXu.out (Nat.le_refl _) HGD.out)
         obtain ⟨u,hu⟩:∃ u,World.setCells u4 (w6.heap.size) 0 (dlgA (begD r tag x.a) ⟨.slice none 0 0,.slice A1 (tagged r.to_ tag).uri.params.length c1,.slice A2 (tagged r.to_ tag).uri.headers.length c2,.slice A3 (tagged r.to_ tag).params.length c3,.slice A4 r.from_.uri.params.length c4,.slice A5 r.from_.uri.headers.length c5,.slice A6 r.from_.params.length c6,.slice A7 x.a.uri.params.length c7,.slice A8 x.a.uri.headers.length c8,.slice A9 r.routes.length c9⟩).toList=u:=⟨_,rfl⟩
         rw [hu] at HFIN HXF ⊢
         clear hu
         refine bk hK (HS.out _ HXF.out) fun hHeld=>?_
         clear hK K
         refine dn9 (NoPanic.normal ?_)
         go_wp2_with fail
         go_meet
         exact HFIN.out
        exact AllReadyH.nil
       exact AllReadyH.nil
      refine rdc (fun K hK=>?_) ?_
      .go_simp
       have hb1:Below w5.heap.size w5 (w5.alloc (.cells #[.string ⟨#[]⟩,.string ⟨#[]⟩,.string ⟨#[]⟩,.string ⟨#[]⟩,.string ⟨#[]⟩,.int .i64 0,.slice none 0 0,.slice none 0 0,.slice none 0 0,.string ⟨#[]⟩,.string ⟨#[]⟩,.string ⟨#[]⟩,.string ⟨#[]⟩,.int .i64 0,.slice none 0 0,.slice none 0 0,.slice none 0 0,.string ⟨#[]⟩,.string ⟨#[]⟩,.string ⟨#[]⟩,.int .i64 0,.slice none 0 0,.slice none 0 0,.slice none 0 0,.int .i64 0,.int .i64 0] 37)):=(Below.refl _ _).alloc (Nat.le_refl _) _
       have hz:Blk (w5.alloc (.cells #[.string ⟨#[]⟩,.string ⟨#[]⟩,.string ⟨#[]⟩,.string ⟨#[]⟩,.string ⟨#[]⟩,.int .i64 0,.slice none 0 0,.slice none 0 0,.slice none 0 0,.string ⟨#[]⟩,.string ⟨#[]⟩,.string ⟨#[]⟩,.string ⟨#[]⟩,.int .i64 0,.slice none 0 0,.slice none 0 0,.slice none 0 0,.string ⟨#[]⟩,.string ⟨#[]⟩,.string ⟨#[]⟩,.int .i64 0,.slice none 0 0,.slice none 0 0,.slice none 0 0,.int .i64 0,.int .i64 0] 37)) w5.heap.size 37 dlg0:=Blk.new _ 37 dlg0
       have HGD:Hid (w0.heap.size<=w5.heap.size):=hid HX5.out.size
       obtain ⟨u3,hu⟩:∃ u,w5.alloc (.cells #[.string ⟨#[]⟩,.string ⟨#[]⟩,.string ⟨#[]⟩,.string ⟨#[]⟩,.string ⟨#[]⟩,.int .i64 0,.slice none 0 0,.slice none 0 0,.slice none 0 0,.string ⟨#[]⟩,.string ⟨#[]⟩,.string ⟨#[]⟩,.string ⟨#[]⟩,.int .i64 0,.slice none 0 0,.slice none 0 0,.slice none 0 0,.string ⟨#[]⟩,.string ⟨#[]⟩,.string ⟨#[]⟩,.int .i64 0,.slice none 0 0,.slice none 0 0,.slice none 0 0,.int .i64 0,.int .i64 0] 37)=u:=⟨_,rfl⟩
       rw [hu] at hb1 hz ⊢
       clear hu
       have HZ:=hid hz
       have HMa:=hid (HMa.out.below hb1)
       have HMb:=hid (HMb.out.below hb1)
       have HMc:=hid (HMc.out.below hb1)
       have HMd:=hid (HMd.out.below hb1)
       have HXu:Hid (Below w0.heap.size w0 u3):=hid (thenB_ HX5.out hb1)
       clear hb1 hz
       refine bk hK (HS.out _ HXu.out) fun hHeld=>?_
       clear hK K
       refine wpAnyH_ready (rs:=[17]) (by kernel_rfl) (by simp) ?_
       refine rdc (fun K hK=>?_) ?_
       .go_simp
        refine (HR.out _ HXu.out).mono ?_
        rintro e w6 ⟨A9,c9,rfl,m1,hb1⟩
        have HMe:=hid m1
        have HMa:=hid (HMa.out.below hb1)
        have HMb:=hid (HMb.out.below hb1)
        have HMc:=hid (HMc.out.below hb1)
        have HMd:=hid (HMd.out.below hb1)
        have HX6:Hid (Below w0.heap.size w0 w6):=hid (thenB_ HXu.out hb1)
        have HZ:=hid (HZ.out.fr (Fr.of_below (F:=fun _=>False) hb1) (fun h=>h))
        clear hb1
        clear m1
        go_wp2_with fail
        refine bk hK (HS.out _ HX6.out) fun hHeld=>?_
        clear hK K
        refine tk 20 ?_
        refine wpAnyH_ready (rs:=[22]) (by kernel_rfl) (by simp) ?_
        refine rdc (fun K hK=>?_) ?_
        .rw [if_pos (by rfl)]
         refine wp_store_mid 37 (.tmp 6) (.tmp 47) rfl (w5.heap.size) 0 (dlgA (begD r tag x.a) ⟨.slice none 0 0,.slice A1 (tagged r.to_ tag).uri.params.length c1,.slice A2 (tagged r.to_ tag).uri.headers.length c2,.slice A3 (tagged r.to_ tag).params.length c3,.slice A4 r.from_.uri.params.length c4,.slice A5 r.from_.uri.headers.length c5,.slice A6 r.from_.params.length c6,.slice A7 x.a.uri.params.length c7,.slice A8 x.a.uri.headers.length c8,.slice A9 r.routes.length c9⟩) rfl rfl (blk_there HZ.out (Nat.le_refl 26)) (by kernel_rfl) (dlgA_one ⟨rfl,rfl,rfl,rfl,rfl,rfl,rfl,rfl,rfl⟩) ?_
         have HFIN:=hid (HEND.out _ _ ⟨.slice none 0 0,.slice A1 (tagged r.to_ tag).uri.params.length c1,.slice A2 (tagged r.to_ tag).uri.headers.length c2,.slice A3 (tagged r.to_ tag).params.length c3,.slice A4 r.from_.uri.params.length c4,.slice A5 r.from_.uri.headers.length c5,.slice A6 r.from_.params.length c6,.slice A7 x.a.uri.params.length c7,.slice A8 x.a.uri.headers.length c8,.slice A9 r.routes.length c9⟩ HZ.out ⟨HMa.out,HMb.out,HMc.out,HMd.out,HMe.out⟩ HGD.out HX6.out)
         have HXF:=hid (below_sc (off:=0) (l:=(dlgA (begD r tag x.a) ⟨.slice none 0 0,.slice A1 (tagged r.to_ tag).uri.params.length c1,.slice A2 (tagged r.to_ tag).uri.headers.length c2,.slice A3 (tagged r.to_ tag).params.length c3,.slice A4 r.from_.uri.params.length c4,.slice A5 r.from_.uri.headers.length c5,.slice A6 r.from_.params.length c6,.slice A7 x.a.uri.params.length c7,.slice A8 x.a.uri.headers.length c8,.slice A9 r.routes.length c9⟩).toList) HX6.out (Nat.le_refl _) HGD.out)
         obtain ⟨u,hu⟩:∃ u,World.setCells w6 (w5.heap.size) 0 (dlgA (begD r tag x.a) ⟨.slice none 0 0,.slice A1 (tagged r.to_ tag).uri.params.length c1,.slice A2 (tagged r.to_ tag).uri.headers.length c2,.slice A3 (tagged r.to_ tag).params.length c3,.slice A4 r.from_.uri.params.length c4,.slice A5 r.from_.uri.headers.length c5,.slice A6 r.from_.params.length c6,.slice A7 x.a.uri.params.length c7,.slice A8 x.a.uri.headers.length c8,.slice A9 r.routes.length c9⟩).toList=u:=⟨_,rfl⟩
         rw [hu] at HFIN HXF ⊢
         clear hu
         refine bk hK (HS.out _ HXF.out) fun hHeld=>?_
         clear hK K
         refine dn9 (NoPanic.normal ?_)
         go_wp2_with fail
         go_meet
         exact HFIN.out
        exact AllReadyH.nil
       exact AllReadyH.nil
      exact AllReadyH.nil
     refine rdc (fun K hK=>?_) ?_
     .go_simp
      have hb1:Below w4.heap.size w4 (w4.alloc (.cells #[.string ⟨#[]⟩,.string ⟨#[]⟩,.string ⟨#[]⟩,.string ⟨#[]⟩,.string ⟨#[]⟩,.int .i64 0,.slice none 0 0,.slice none 0 0,.slice none 0 0,.string ⟨#[]⟩,.string ⟨#[]⟩,.string ⟨#[]⟩,.string ⟨#[]⟩,.int .i64 0,.slice none 0 0,.slice none 0 0,.slice none 0 0,.string ⟨#[]⟩,.string ⟨#[]⟩,.string ⟨#[]⟩,.int .i64 0,.slice none 0 0,.slice none 0 0,.slice none 0 0,.int .i64 0,.int .i64 0] 37)):=(Below.refl _ _).alloc (Nat.le_refl _) _
      have hz:Blk (w4.alloc (.cells #[.string ⟨#[]⟩,.string ⟨#[]⟩,.string ⟨#[]⟩,.string ⟨#[]⟩,.string ⟨#[]⟩,.int .i64 0,.slice none 0 0,.slice none 0 0,.slice none 0 0,.string ⟨#[]⟩,.string ⟨#[]⟩,.string ⟨#[]⟩,.string ⟨#[]⟩,.int .i64 0,.slice none 0 0,.slice none 0 0,.slice none 0 0,.string ⟨#[]⟩,.string ⟨#[]⟩,.string ⟨#[]⟩,.int .i64 0,.slice none 0 0,.slice none 0 0,.slice none 0 0,.int .i64 0,.int .i64 0] 37)) w4.heap.size 37 dlg0:=Blk.new _ 37 dlg0
      have HGD:Hid (w0.heap.size<=w4.heap.size):=hid HX4.out.size
      obtain ⟨u2,hu⟩:∃ u,w4.alloc (.cells #[.string ⟨#[]⟩,.string ⟨#[]⟩,.string ⟨#[]⟩,.string ⟨#[]⟩,.string ⟨#[]⟩,.int .i64 0,.slice none 0 0,.slice none 0 0,.slice none 0 0,.string ⟨#[]⟩,.string ⟨#[]⟩,.string ⟨#[]⟩,.string ⟨#[]⟩,.int .i64 0,.slice none 0 0,.slice none 0 0,.slice none 0 0,.string ⟨#[]⟩,.string ⟨#[]⟩,.string ⟨#[]⟩,.int .i64 0,.slice none 0 0,.slice none 0 0,.slice none 0 0,.int .i64 0,.int .i64 0] 37)=u:=⟨_,rfl⟩
      rw [hu] at hb1 hz ⊢
      clear hu
      have HZ:=hid hz
      have HMa:=hid (HMa.out.below hb1)
      have HMb:=hid (HMb.out.below hb1)
      have HXu:Hid (Below w0.heap.size w0 u2):=hid (thenB_ HX4.out hb1)
      clear hb1 hz
      refine bk hK (HS.out _ HXu.out) fun hHeld=>?_
      clear hK K
      refine wpAnyH_ready (rs:=[14]) (by kernel_rfl) (by simp) ?_
      refine rdc (fun K hK=>?_) ?_
      .go_simp
       refine (HC.out _ HXu.out).mono ?_
       rintro e w5 ⟨A7,c7,A8,c8,rfl,m1,m2,hb1⟩
       have HMc:=hid m1
       have HMd:=hid m2
       have HMa:=hid (HMa.out.below hb1)
       have HMb:=hid (HMb.out.below hb1)
       have HX5:Hid (Below w0.heap.size w0 w5):=hid (thenB_ HXu.out hb1)
       have HZ:=hid (HZ.out.fr (Fr.of_below (F:=fun _=>False) hb1) (fun h=>h))
       clear hb1
       clear m1 m2
       go_wp2_with fail
       refine bk hK (HS.out _ HX5.out) fun hHeld=>?_
       clear hK K
       refine wpAnyH_ready (rs:=[17]) (by kernel_rfl) (by simp) ?_
       refine rdc (fun K hK=>?_) ?_
       .go_simp
        refine (HR.out _ HX5.out).mono ?_
        rintro e w6 ⟨A9,c9,rfl,m1,hb1⟩
        have HMe:=hid m1
        have HMa:=hid (HMa.out.below hb1)
        have HMb:=hid (HMb.out.below hb1)
        have HMc:=hid (HMc.out.below hb1)
        have HMd:=hid (HMd.out.below hb1)
        have HX6:Hid (Below w0.heap.size w0 w6):=hid (thenB_ HX5.out hb1)
        have HZ:=hid (HZ.out.fr (Fr.of_below (F:=fun _=>False) hb1) (fun h=>h))
        clear hb1
        clear m1
        go_wp2_with fail
        refine bk hK (HS.out _ HX6.out) fun hHeld=>?_
        clear hK K
        refine tk 20 ?_
        refine wpAnyH_ready (rs:=[22]) (by kernel_rfl) (by simp) ?_
        refine rdc (fun K hK=>?_) ?_
        .rw [if_pos (by rfl)]
         refine wp_store_mid 37 (.tmp 6) (.tmp 47) rfl (w4.heap.size) 0 (dlgA (begD r tag x.a) ⟨.slice none 0 0,.slice A1 (tagged r.to_ tag).uri.params.length c1,.slice A2 (tagged r.to_ tag).uri.headers.length c2,.slice A3 (tagged r.to_ tag).params.length c3,.slice A4 r.from_.uri.params.length c4,.slice A5 r.from_.uri.headers.length c5,.slice A6 r.from_.params.length c6,.slice A7 x.a.uri.params.length c7,.slice A8 x.a.uri.headers.length c8,.slice A9 r.routes.length c9⟩) rfl rfl (blk_there HZ.out (Nat.le_refl 26)) (by kernel_rfl) (dlgA_one ⟨rfl,rfl,rfl,rfl,rfl,rfl,rfl,rfl,rfl⟩) ?_
         have HFIN:=hid (HEND.out _ _ ⟨.slice none 0 0,.slice A1 (tagged r.to_ tag).uri.params.length c1,.slice A2 (tagged r.to_ tag).uri.headers.length c2,.slice A3 (tagged r.to_ tag).params.length c3,.slice A4 r.from_.uri.params.length c4,.slice A5 r.from_.uri.headers.length c5,.slice A6 r.from_.params.length c6,.slice A7 x.a.uri.params.length c7,.slice A8 x.a.uri.headers.length c8,.slice A9 r.routes.length c9⟩ HZ.out ⟨HMa.out,HMb.out,HMc.out,HMd.out,HMe.out⟩ HGD.out HX6.out)
         have HXF:=hid (below_sc (off:=0) (l:=(dlgA (begD r tag x.a) ⟨.slice none 0 0,.slice A1 (tagged r.to_ tag).uri.params.length c1,.slice A2 (tagged r.to_ tag).uri.headers.length c2,.slice A3 (tagged r.to_ tag).params.length c3,.slice A4 r.from_.uri.params.length c4,.slice A5 r.from_.uri.headers.length c5,.slice A6 r.from_.params.length c6,.slice A7 x.a.uri.params.length c7,.slice A8 x.a.uri.headers.length c8,.slice A9 r.routes.length c9⟩).toList) HX6.out (Nat.le_refl _) HGD.out)
         obtain ⟨u,hu⟩:∃ u,World.setCells w6 (w4.heap.size) 0 (dlgA (begD r tag x.a) ⟨.slice none 0 0,.slice A1 (tagged r.to_ tag).uri.params.length c1,.slice A2 (tagged r.to_ tag).uri.headers.length c2,.slice A3 (tagged r.to_ tag).params.length c3,.slice A4 r.from_.uri.params.length c4,.slice A5 r.from_.uri.headers.length c5,.slice A6 r.from_.params.length c6,.slice A7 x.a.uri.params.length c7,.slice A8 x.a.uri.headers.length c8,.slice A9 r.routes.length c9⟩).toList=u:=⟨_,rfl⟩
         rw [hu] at HFIN HXF ⊢
         clear hu
         refine bk hK (HS.out _ HXF.out) fun hHeld=>?_
         clear hK K
         refine dn9 (NoPanic.normal ?_)
         go_wp2_with fail
         go_meet
         exact HFIN.out
        exact AllReadyH.nil
       exact AllReadyH.nil
      exact AllReadyH.nil
     exact AllReadyH.nil
    refine rdc (fun K hK=>?_) ?_
    .go_simp
     have hb1:Below w3.heap.size w3 (w3.alloc (.cells #[.string ⟨#[]⟩,.string ⟨#[]⟩,.string ⟨#[]⟩,.string ⟨#[]⟩,.string ⟨#[]⟩,.int .i64 0,.slice none 0 0,.slice none 0 0,.slice none 0 0,.string ⟨#[]⟩,.string ⟨#[]⟩,.string ⟨#[]⟩,.string ⟨#[]⟩,.int .i64 0,.slice none 0 0,.slice none 0 0,.slice none 0 0,.string ⟨#[]⟩,.string ⟨#[]⟩,.string ⟨#[]⟩,.int .i64 0,.slice none 0 0,.slice none 0 0,.slice none 0 0,.int .i64 0,.int .i64 0] 37)):=(Below.refl _ _).alloc (Nat.le_refl _) _
     have hz:Blk (w3.alloc (.cells #[.string ⟨#[]⟩,.string ⟨#[]⟩,.string ⟨#[]⟩,.string ⟨#[]⟩,.string ⟨#[]⟩,.int .i64 0,.slice none 0 0,.slice none 0 0,.slice none 0 0,.string ⟨#[]⟩,.string ⟨#[]⟩,.string ⟨#[]⟩,.string ⟨#[]⟩,.int .i64 0,.slice none 0 0,.slice none 0 0,.slice none 0 0,.string ⟨#[]⟩,.string ⟨#[]⟩,.string ⟨#[]⟩,.int .i64 0,.slice none 0 0,.slice none 0 0,.slice none 0 0,.int .i64 0,.int .i64 0] 37)) w3.heap.size 37 dlg0:=Blk.new _ 37 dlg0
     have HGD:Hid (w0.heap.size<=w3.heap.size):=hid HX3.out.size
     obtain ⟨u1,hu⟩:∃ u,w3.alloc (.cells #[.string ⟨#[]⟩,.string ⟨#[]⟩,.string ⟨#[]⟩,.string ⟨#[]⟩,.string ⟨#[]⟩,.int .i64 0,.slice none 0 0,.slice none 0 0,.slice none 0 0,.string ⟨#[]⟩,.string ⟨#[]⟩,.string ⟨#[]⟩,.string ⟨#[]⟩,.int .i64 0,.slice none 0 0,.slice none 0 0,.slice none 0 0,.string ⟨#[]⟩,.string ⟨#[]⟩,.string ⟨#[]⟩,.int .i64 0,.slice none 0 0,.slice none 0 0,.slice none 0 0,.int .i64 0,.int .i64 0] 37)=u:=⟨_,rfl⟩
     rw [hu] at hb1 hz ⊢
     clear hu
     have HZ:=hid hz
     have HMa:=hid (HMa.out.below hb1)
     have HXu:Hid (Below w0.heap.size w0 u1):=hid (thenB_ HX3.out hb1)
     clear hb1 hz
     refine bk hK (HS.out _ HXu.out) fun hHeld=>?_
     clear hK K
     refine wpAnyH_ready (rs:=[8]) (by kernel_rfl) (by simp) ?_
     refine rdc (fun K hK=>?_) ?_
     .go_simp
      refine (HO.out _ HXu.out).mono ?_
      rintro e w4 ⟨v4,v5,v6,rfl,m1,hb1⟩
      obtain ⟨⟨A4,c4,rfl,_⟩,⟨A5,c5,rfl,_⟩,⟨A6,c6,rfl,_⟩⟩:=id m1
      have HMb:=hid m1
      have HMa:=hid (HMa.out.below hb1)
      have HX4:Hid (Below w0.heap.size w0 w4):=hid (thenB_ HXu.out hb1)
      have HZ:=hid (HZ.out.fr (Fr.of_below (F:=fun _=>False) hb1) (fun h=>h))
      clear hb1
      clear m1
      go_wp2_with fail
      refine bk hK (HS.out _ HX4.out) fun hHeld=>?_
      clear hK K
      refine wpAnyH_ready (rs:=[14]) (by kernel_rfl) (by simp) ?_
      refine rdc (fun K hK=>?_) ?_
      .go_simp
       refine (HC.out _ HX4.out).mono ?_
       rintro e w5 ⟨A7,c7,A8,c8,rfl,m1,m2,hb1⟩
       have HMc:=hid m1
       have HMd:=hid m2
       have HMa:=hid (HMa.out.below hb1)
       have HMb:=hid (HMb.out.below hb1)
       have HX5:Hid (Below w0.heap.size w0 w5):=hid (thenB_ HX4.out hb1)
       have HZ:=hid (HZ.out.fr (Fr.of_below (F:=fun _=>False) hb1) (fun h=>h))
       clear hb1
       clear m1 m2
       go_wp2_with fail
       refine bk hK (HS.out _ HX5.out) fun hHeld=>?_
       clear hK K
       refine wpAnyH_ready (rs:=[17]) (by kernel_rfl) (by simp) ?_
       refine rdc (fun K hK=>?_) ?_
       .go_simp
        refine (HR.out _ HX5.out).mono ?_
        rintro e w6 ⟨A9,c9,rfl,m1,hb1⟩
        have HMe:=hid m1
        have HMa:=hid (HMa.out.below hb1)
        have HMb:=hid (HMb.out.below hb1)
        have HMc:=hid (HMc.out.below hb1)
        have HMd:=hid (HMd.out.below hb1)
        have HX6:Hid (Below w0.heap.size w0 w6):=hid (thenB_ HX5.out hb1)
        have HZ:=hid (HZ.out.fr (Fr.of_below (F:=fun _=>False) hb1) (fun h=>h))
        clear hb1
        clear m1
        go_wp2_with fail
        refine bk hK (HS.out _ HX6.out) fun hHeld=>?_
        clear hK K
        refine tk 20 ?_
        refine wpAnyH_ready (rs:=[22]) (by kernel_rfl) (by simp) ?_
        refine rdc (fun K hK=>?_) ?_
        .rw [if_pos (by rfl)]
         refine wp_store_mid 37 (.tmp 6) (.tmp 47) rfl (w3.heap.size) 0 (dlgA (begD r tag x.a) ⟨.slice none 0 0,.slice A1 (tagged r.to_ tag).uri.params.length c1,.slice A2 (tagged r.to_ tag).uri.headers.length c2,.slice A3 (tagged r.to_ tag).params.length c3,.slice A4 r.from_.uri.params.length c4,.slice A5 r.from_.uri.headers.length c5,.slice A6 r.from_.params.length c6,.slice A7 x.a.uri.params.length c7,.slice A8 x.a.uri.headers.length c8,.slice A9 r.routes.length c9⟩) rfl rfl (blk_there HZ.out (Nat.le_refl 26)) (by kernel_rfl) (dlgA_one ⟨rfl,rfl,rfl,rfl,rfl,rfl,rfl,rfl,rfl⟩) ?_
         have HFIN:=hid (HEND.out _ _ ⟨.slice none 0 0,.slice A1 (tagged r.to_ tag).uri.params.length c1,.slice A2 (tagged r.to_ tag).uri.headers.length c2,.slice A3 (tagged r.to_ tag).params.length c3,.slice A4 r.from_.uri.params.length c4,.slice A5 r.from_.uri.headers.length c5,.slice A6 r.from_.params.length c6,.slice A7 x.a.uri.params.length c7,.slice A8 x.a.uri.headers.length c8,.slice A9 r.routes.length c9⟩ HZ.out ⟨HMa.out,HMb.out,HMc.out,HMd.out,HMe.out⟩ HGD.out HX6.out)
         have HXF:=hid (below_sc (off:=0) (l:=(dlgA (begD r tag x.a) ⟨.slice none 0 0,.slice A1 (tagged r.to_ tag).uri.params.length c1,.slice A2 (tagged r.to_ tag).uri.headers.length c2,.slice A3 (tagged r.to_ tag).params.length c3,.slice A4 r.from_.uri.params.length c4,.slice A5 r.from_.uri.headers.length c5,.slice A6 r.from_.params.length c6,.slice A7 x.a.uri.params.length c7,.slice A8 x.a.uri.headers.length c8,.slice A9 r.routes.length c9⟩).toList) HX6.out (Nat.le_refl _) HGD.out)
         obtain ⟨u,hu⟩:∃ u,World.setCells w6 (w3.heap.size) 0 (dlgA (begD r tag x.a) ⟨.slice none 0 0,.slice A1 (tagged r.to_ tag).uri.params.length c1,.slice A2 (tagged r.to_ tag).uri.headers.length c2,.slice A3 (tagged r.to_ tag).params.length c3,.slice A4 r.from_.uri.params.length c4,.slice A5 r.from_.uri.headers.length c5,.slice A6 r.from_.params.length c6,.slice A7 x.a.uri.params.length c7,.slice A8 x.a.uri.headers.length c8,.slice A9 r.routes.length c9⟩).toList=u:=⟨_,rfl⟩
         rw [hu] at HFIN HXF ⊢
         clear hu
         refine bk hK (HS.out _ HXF.out) fun hHeld=>?_
         clear hK K
         refine dn9 (NoPanic.normal ?_)
         go_wp2_with fail
         go_meet
         exact HFIN.out
        exact AllReadyH.nil
       exact AllReadyH.nil
      exact AllReadyH.nil
     exact AllReadyH.nil
    exact AllReadyH.nil
   refine rdc (fun K hK=>?_) ?_
   .go_simp
    have hb1:Below w0.drew.heap.size w0.drew ((w0.alloc (.cells #[.string ⟨#[]⟩,.string ⟨#[]⟩,.string ⟨#[]⟩,.string ⟨#[]⟩,.string ⟨#[]⟩,.int .i64 0,.slice none 0 0,.slice none 0 0,.slice none 0 0,.string ⟨#[]⟩,.string ⟨#[]⟩,.string ⟨#[]⟩,.string ⟨#[]⟩,.int .i64 0,.slice none 0 0,.slice none 0 0,.slice none 0 0,.string ⟨#[]⟩,.string ⟨#[]⟩,.string ⟨#[]⟩,.int .i64 0,.slice none 0 0,.slice none 0 0,.slice none 0 0,.int .i64 0,.int .i64 0] 37)).drew):=below_dd ((Below.refl w0.heap.size w0).alloc (Nat.le_refl _) _)
    have hz:Blk ((w0.alloc (.cells #[.string ⟨#[]⟩,.string ⟨#[]⟩,.string ⟨#[]⟩,.string ⟨#[]⟩,.string ⟨#[]⟩,.int .i64 0,.slice none 0 0,.slice none 0 0,.slice none 0 0,.string ⟨#[]⟩,.string ⟨#[]⟩,.string ⟨#[]⟩,.string ⟨#[]⟩,.int .i64 0,.slice none 0 0,.slice none 0 0,.slice none 0 0,.string ⟨#[]⟩,.string ⟨#[]⟩,.string ⟨#[]⟩,.int .i64 0,.slice none 0 0,.slice none 0 0,.slice none 0 0,.int .i64 0,.int .i64 0] 37)).drew) w0.heap.size 37 dlg0:=(Blk.new w0 37 dlg0).drewN 1
    have HGD:Hid (w0.heap.size<=w0.heap.size):=hid (Nat.le_refl _)
    obtain ⟨u0,hu⟩:∃ u,(w0.alloc (.cells #[.string ⟨#[]⟩,.string ⟨#[]⟩,.string ⟨#[]⟩,.string ⟨#[]⟩,.string ⟨#[]⟩,.int .i64 0,.slice none 0 0,.slice none 0 0,.slice none 0 0,.string ⟨#[]⟩,.string ⟨#[]⟩,.string ⟨#[]⟩,.string ⟨#[]⟩,.int .i64 0,.slice none 0 0,.slice none 0 0,.slice none 0 0,.string ⟨#[]⟩,.string ⟨#[]⟩,.string ⟨#[]⟩,.int .i64 0,.slice none 0 0,.slice none 0 0,.slice none 0 0,.int .i64 0,.int .i64 0] 37)).drew=u:=⟨_,rfl⟩
    rw [hu] at hb1 hz ⊢
    clear hu
    have HZ:=hid hz
    have HXu:Hid (Below w0.heap.size w0 u0):=hid (thenB_ HX0.out hb1)
    clear hb1 hz
    refine bk hK (HS.out _ HXu.out) fun hHeld=>?_
    clear hK K
    refine wpAnyH_ready (rs:=[5]) (by kernel_rfl) (by simp) ?_
    refine rdc (fun K hK=>?_) ?_
    .go_simp
     refine (HT.out _ HXu.out).mono ?_
     rintro e w3 ⟨v1,v2,v3,rfl,m1,hb1⟩
     obtain ⟨⟨A1,c1,rfl,_⟩,⟨A2,c2,rfl,_⟩,⟨A3,c3,rfl,_⟩⟩:=id m1
     have HMa:=hid m1
     have HX3:Hid (Below w0.heap.size w0 w3):=hid (thenB_ HXu.out hb1)
     have HZ:=hid (HZ.out.fr (Fr.of_below (F:=fun _=>False) hb1) (fun h=>h))
     clear hb1
     clear m1
     go_wp2_with fail
     refine bk hK (HS.out _ HX3.out) fun hHeld=>?_
     clear hK K
     refine wpAnyH_ready (rs:=[8]) (by kernel_rfl) (by simp) ?_
     refine rdc (fun K hK=>?_) ?_
     .go_simp
      refine (HO.out _ HX3.out).mono ?_
      rintro e w4 ⟨v4,v5,v6,rfl,m1,hb1⟩
      obtain ⟨⟨A4,c4,rfl,_⟩,⟨A5,c5,rfl,_⟩,⟨A6,c6,rfl,_⟩⟩:=id m1
      have HMb:=hid m1
      have HMa:=hid (HMa.out.below hb1)
      have HX4:Hid (Below w0.heap.size w0 w4):=hid (thenB_ HX3.out hb1)
      have HZ:=hid (HZ.out.fr (Fr.of_below (F:=fun _=>False) hb1) (fun h=>h))
      clear hb1
      clear m1
      go_wp2_with fail
      refine bk hK (HS.out _ HX4.out) fun hHeld=>?_
      clear hK K
      refine wpAnyH_ready (rs:=[14]) (by kernel_rfl) (by simp) ?_
      refine rdc (fun K hK=>?_) ?_
      .go_simp
       refine (HC.out _ HX4.out).mono ?_
       rintro e w5 ⟨A7,c7,A8,c8,rfl,m1,m2,hb1⟩
       have HMc:=hid m1
       have HMd:=hid m2
       have HMa:=hid (HMa.out.below hb1)
       have HMb:=hid (HMb.out.below hb1)
       have HX5:Hid (Below w0.heap.size w0 w5):=hid (thenB_ HX4.out hb1)
       have HZ:=hid (HZ.out.fr (Fr.of_below (F:=fun _=>False) hb1) (fun h=>h))
       clear hb1
       clear m1 m2
       go_wp2_with fail
       refine bk hK (HS.out _ HX5.out) fun hHeld=>?_
       clear hK K
       refine wpAnyH_ready (rs:=[17]) (by kernel_rfl) (by simp) ?_
       refine rdc (fun K hK=>?_) ?_
       .go_simp
        refine (HR.out _ HX5.out).mono ?_
        rintro e w6 ⟨A9,c9,rfl,m1,hb1⟩
        have HMe:=hid m1
        have HMa:=hid (HMa.out.below hb1)
        have HMb:=hid (HMb.out.below hb1)
        have HMc:=hid (HMc.out.below hb1)
        have HMd:=hid (HMd.out.below hb1)
        have HX6:Hid (Below w0.heap.size w0 w6):=hid (thenB_ HX5.out hb1)
        have HZ:=hid (HZ.out.fr (Fr.of_below (F:=fun _=>False) hb1) (fun h=>h))
        clear hb1
        clear m1
        go_wp2_with fail
        refine bk hK (HS.out _ HX6.out) fun hHeld=>?_
        clear hK K
        refine tk 20 ?_
        refine wpAnyH_ready (rs:=[22]) (by kernel_rfl) (by simp) ?_
        refine rdc (fun K hK=>?_) ?_
        .rw [if_pos (by rfl)]
         refine wp_store_mid 37 (.tmp 6) (.tmp 47) rfl (w0.heap.size) 0 (dlgA (begD r tag x.a) ⟨.slice none 0 0,.slice A1 (tagged r.to_ tag).uri.params.length c1,.slice A2 (tagged r.to_ tag).uri.headers.length c2,.slice A3 (tagged r.to_ tag).params.length c3,.slice A4 r.from_.uri.params.length c4,.slice A5 r.from_.uri.headers.length c5,.slice A6 r.from_.params.length c6,.slice A7 x.a.uri.params.length c7,.slice A8 x.a.uri.headers.length c8,.slice A9 r.routes.length c9⟩) rfl rfl (blk_there HZ.out (Nat.le_refl 26)) (by kernel_rfl) (dlgA_one ⟨rfl,rfl,rfl,rfl,rfl,rfl,rfl,rfl,rfl⟩) ?_
         have HFIN:=hid (HEND.out _ _ ⟨.slice none 0 0,.slice A1 (tagged r.to_ tag).uri.params.length c1,.slice A2 (tagged r.to_ tag).uri.headers.length c2,.slice A3 (tagged r.to_ tag).params.length c3,.slice A4 r.from_.uri.params.length c4,.slice A5 r.from_.uri.headers.length c5,.slice A6 r.from_.params.length c6,.slice A7 x.a.uri.params.length c7,.slice A8 x.a.uri.headers.length c8,.slice A9 r.routes.length c9⟩ HZ.out ⟨HMa.out,HMb.out,HMc.out,HMd.out,HMe.out⟩ HGD.out HX6.out)
         have HXF:=hid (below_sc (off:=0) (l:=(dlgA (begD r tag x.a) ⟨.slice none 0 0,.slice A1 (tagged r.to_ tag).uri.params.length c1,.slice A2 (tagged r.to_ tag).uri.headers.length c2,.slice A3 (tagged r.to_ tag).params.length c3,.slice A4 r.from_.uri.params.length c4,.slice A5 r.from_.uri.headers.length c5,.slice A6 r.from_.params.length c6,.slice A7 x.a.uri.params.length c7,.slice A8 x.a.uri.headers.length c8,.slice A9 r.routes.length c9⟩).toList) HX6.out (Nat.le_refl _) HGD.out)
         obtain ⟨u,hu⟩:∃ u,World.setCells w6 (w0.heap.size) 0 (dlgA (begD r tag x.a) ⟨.slice none 0 0,.slice A1 (tagged r.to_ tag).uri.params.length c1,.slice A2 (tagged r.to_ tag).uri.headers.length c2,.slice A3 (tagged r.to_ tag).params.length c3,.slice A4 r.from_.uri.params.length c4,.slice A5 r.from_.uri.headers.length c5,.slice A6 r.from_.params.length c6,.slice A7 x.a.uri.params.length c7,.slice A8 x.a.uri.headers.length c8,.slice A9 r.routes.length c9⟩).toList=u:=⟨_,rfl⟩
         rw [hu] at HFIN HXF ⊢
         clear hu
         refine bk hK (HS.out _ HXF.out) fun hHeld=>?_
         clear hK K
         refine dn9 (NoPanic.normal ?_)
         go_wp2_with fail
         go_meet
         exact HFIN.out
        exact AllReadyH.nil
       exact AllReadyH.nil
      exact AllReadyH.nil
     exact AllReadyH.nil
    exact AllReadyH.nil
   exact AllReadyH.nil
  case rest =>
   obtain ⟨g,v2,rfl,hg2,hk,hm,hkb,hbx⟩:=hcut
   have HK:=hid hk
   have HM:=hid hm
   have HKR:=hid hkb
   have HBX:=hid hbx
   have HCH:=hid (ACheck_any (Nat.le_refl _) hm.loc.adB ⟨HZ.out.toZ.d,HZ.out.toZ.u,fun q hq=>by
    rcases List.mem_append.1 hq with hq|hq
    .exact HZ.out.toZ.p q hq
    .simp only [List.mem_singleton] at hq
     subst hq
     exact ⟨by show 3<=_;omega,by have:=HTL.out;show tag.length<=_;omega⟩⟩)
   clear hk hm hkb hbx HT HO HC HR HS HEND HEND2 HX0 HBO HBL HRC HKB HCR HCX HXS HCO
   unfold AckPost at HCH
   by_cases hE:addrE (tagged r.to_ tag)=0
   .have HE2:Hid (begR r tag=⟨some (begD r tag x.a),0⟩):=hid (HE.out.trans (if_neg (by simp [hE])))
    rw [hE] at HCH
    clear hE
    go_wp2_with (first|(refine wpl_load rfl 34 (.tmp 48) rfl g 1 rfl HK.out (addrA (tagged r.to_ tag) v2.lp v2.lh v2.la).toList rfl _ Tryz.underlying34 rfl (by kernel_rfl) ?_)|(go_at_call 68;refine (HCH.out).mono ?_;rintro e wy ⟨rfl,hby⟩;have HKY:=hid (HK.out.fr (Fr.of_below (F:=fun _=>False) hby) (fun h=>h));have HKRY:=hid (HKR.out.fr (Fr.of_below (F:=fun _=>False) hby) (fun h=>h));have HMY:=hid (HM.out.below hby);have HBY:=hid (HBX.out.trans (hby.mono HBX.out.size));clear hby)|(refine wpl_load rfl 37 (.tmp 6) rfl g 0 rfl HKY.out (dlgA (begD r tag x.a) v2).toList rfl _ Tryz.underlying37 rfl (by kernel_rfl) ?_)|(refine wpl_store rfl 37 (.tmp 4) (.tmp 55) rfl (w.heap.size+1) 0 rfl (dlgA (begD r tag x.a) v2) rfl HKRY.out (Nat.le_refl 26) (dlgA (begD r tag x.a) v2) rfl (by kernel_rfl) (dlgA_one HMY.out.one) ?_;intro wz hkz hfz))
    refine ret_cell2 rfl rfl rfl rfl hkz _ Tryz.underlying37 rfl (by kernel_rfl) ⟨v2,by rw [HE2.out];rfl,by rw [HE2.out];exact HMY.out.fr hfz (keepP_blk HKRY.out (by decide) (by decide)),?_⟩
    exact below_upfr HBY.out (Nat.le_refl _) hfz (fun k e=>by omega)
   .have HE2:Hid (begR r tag=⟨none,addrE (tagged r.to_ tag)⟩):=hid (HE.out.trans (if_pos hE))
    generalize addrE (tagged r.to_ tag)=ae at *
    have dE:(ae != 0)=true:=by simpa using hE
    clear hE
    go_wp2_with (first|(refine wpl_load rfl 34 (.tmp 48) rfl g 1 rfl HK.out (addrA (tagged r.to_ tag) v2.lp v2.lh v2.la).toList rfl _ Tryz.underlying34 rfl (by kernel_rfl) ?_)|(go_at_call 68;refine (HCH.out).mono ?_;rintro e wy ⟨rfl,hby⟩;have HKRY:=hid (HKR.out.fr (Fr.of_below (F:=fun _=>False) hby) (fun h=>h));have HBY:=hid (HBX.out.trans (hby.mono HBX.out.size));clear hby)|(refine wpl_store rfl 37 (.tmp 4) (.tmp 53) rfl (w.heap.size+1) 0 rfl dlg0 rfl HKRY.out (Nat.le_refl 26) dlg0 rfl (by kernel_rfl) dlg0_one ?_;intro wz hkz hfz))
    refine ret_cell2 rfl rfl rfl rfl hkz _ Tryz.underlying37 rfl (by kernel_rfl) ⟨nilV,by rw [HE2.out];rfl,by rw [HE2.out];exact dlg_none _,?_⟩
    exact below_upfr HBY.out (Nat.le_refl _) hfz (fun k e=>by omega)
end Go.Proofs.YthkadehlclcggaaGreatDoor
