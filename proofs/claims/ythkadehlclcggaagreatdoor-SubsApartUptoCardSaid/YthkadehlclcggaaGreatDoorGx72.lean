/- Chapter 19: dialog.Take. -/
import Derived.Test.YthkadehlclcggaaGreatDoorGx55
import Derived.Test.YthkadehlclcggaaGreatDoorGx56
namespace Go.Proofs.YthkadehlclcggaaGreatDoor
set_option linter.unusedSimpArgs false
set_option linter.unusedVariables false
open Go.RowKit
open Go.Lib (hid)
theorem tak_ways (d:Dlg) (r:ReqP):(matchB d r=false/\takR d r=⟨d,6⟩)\/(matchB d r=true/\r.seq<=d.lastIn/\takR d r=⟨d,180⟩)\/(matchB d r=true/\d.lastIn<r.seq/\(∃ k,r.contact=[k]/\takR d r=⟨{ d with lastIn:=r.seq,tgt:=k.uri },0⟩))\/(matchB d r=true/\d.lastIn<r.seq/\r.contact.length≠1/\takR d r=⟨{ d with lastIn:=r.seq },0⟩):=by
 by_cases h1:matchB d r=false
 .exact .inl ⟨h1,if_pos h1⟩
 .have h1':matchB d r=true:=by simpa using h1
  refine .inr ?_
  by_cases h2:r.seq<=d.lastIn
  .refine .inl ⟨h1',h2,?_⟩
   unfold takR
   rw [if_neg h1,if_pos h2]
  .refine .inr ?_
   rcases hcc:r.contact with _|⟨k,_|⟨b,l⟩⟩
   .refine .inr ⟨h1',by omega,by simp,?_⟩
    unfold takR
    rw [if_neg h1,if_neg h2,hcc]
   .refine .inl ⟨h1',by omega,k,rfl,?_⟩
    unfold takR
    rw [if_neg h1,if_neg h2,hcc]
   .refine .inr ⟨h1',by omega,by simp,?_⟩
    unfold takR
    rw [if_neg h1,if_neg h2,hcc]
def TakPost (d:Dlg) (r:ReqP) (w:World) (e:Ending) (w':World):Prop:=∃ v',e=.returned (.tuple #[.agg (dlgA (takR d r).dlg v'),.int .i64 (takR d r).err])/\DlgM w' (takR d r).dlg v'/\Below w.heap.size w w'
set_option maxRecDepth 100000 in
set_option maxHeartbeats 16000000 in
theorem Take_any {d:Dlg} {v:SlV} {r:ReqP} {q:RqV} {B:Nat} {w:World} (hB:B<=w.heap.size) (hm:DlgM w d v) (hr:ReqB w B r q) (s1:∀ p∈d.loc.params,parS p) (s2:∀ p∈d.rem.params,parS p) (hz:∀ a∈r.contact,a.uri.params.length<=2000000/\a.uri.headers.length<=2000000) :
 Calls Tryz.prog 42 #[.agg (dlgA d v),.agg (reqA r q)] w (TakPost d r w):=by
 obtain ⟨w0,hw0⟩:∃ w0,((w.alloc (.cells (dlgA d v) 37)).alloc (.cells (reqA r q) 45)).alloc (.cells dlg0 37)=w0:=⟨_,rfl⟩
 have hb0:Below w.heap.size w w0:=hw0▸(((Below.refl _ _).alloc (Nat.le_refl _) _).alloc (by simp) _).alloc (by simp;omega) _
 have hka:Blk w0 w.heap.size 37 (dlgA d v):=hw0▸((Blk.new w _ _).alloc _).alloc _
 have hkb:Blk w0 (w.heap.size+1) 45 (reqA r q):=hw0▸(Blk.new' _ _ _ (by simp)).alloc _
 have hkc:Blk w0 (w.heap.size+1+1) 37 dlg0:=hw0▸Blk.new' _ _ _ (by simp)
 have HM0:=hid (hm.below hb0)
 have HMA:=hid (Match_any (v:=v) (q:=q) (d:=d) (r:=r) (w:=w0) (Nat.le_refl _) ((hm.below hb0).loc.a.prB) ((hm.below hb0).rem.a.prB) s1 s2)
 have HRB:Hid (∀ W,Below w.heap.size w W->ReqB W B r q/\B<=W.heap.size):=hid (fun W hW=>⟨hr.below (hW.mono hB),Nat.le_trans hB hW.size⟩)
 have HKA:Hid (∀ W,Below w0.heap.size w0 W->Blk W w.heap.size 37 (dlgA d v)):=hid (fun W hW=>hka.fr (Fr.of_below (F:=fun _=>False) hW) (fun h=>h))
 have HKB:Hid (∀ W,Below w0.heap.size w0 W->Blk W (w.heap.size+1) 45 (reqA r q)):=hid (fun W hW=>hkb.fr (Fr.of_below (F:=fun _=>False) hW) (fun h=>h))
 have HKC:Hid (∀ W,Below w0.heap.size w0 W->Blk W (w.heap.size+1+1) 37 dlg0):=hid (fun W hW=>hkc.fr (Fr.of_below (F:=fun _=>False) hW) (fun h=>h))
 have HB0:=hid hb0
 have HW:=hid (tak_ways d r)
 have HZ:=hid hz
 have HONE:=hid hm.one
 unfold MatPost at HMA
 clear hb0 hka hkb hkc hB hm hr s1 s2 hz
 unfold dlg0 at hw0
 go_enter Tryz.func42,Tryz.ntmps42
 go_upto_region 1 with (fail)
 try rw [hw0]
 clear hw0
 generalize hq0:Value.agg (dlgA d v)=q0
 generalize hq1:Value.agg (reqA r q)=q1
 rw [hq0,hq1] at HMA
 go_wp2_with (first|(refine wpl_load rfl 37 (.tmp 2) rfl w.heap.size 0 rfl (HKA.out _ (Below.refl _ _)) (dlgA d v).toList rfl _ Tryz.underlying37 rfl (by kernel_rfl) ?_)|(refine wpl_load rfl 45 (.tmp 3) rfl (w.heap.size+1) 0 rfl (HKB.out _ (Below.refl _ _)) (reqA r q).toList rfl _ Tryz.underlying45 rfl (by kernel_rfl) ?_)|fail)
 refine (HMA.out).mono ?_
 rintro e w1 ⟨rfl,hb1⟩
 have HK1:=hid (HKA.out _ hb1)
 have HK2:=hid (HKB.out _ hb1)
 have HK3:=hid (HKC.out _ hb1)
 have HM1:=hid (HM0.out.below hb1)
 have HB1:=hid (HB0.out.trans (hb1.mono HB0.out.size))
 clear hb1 HMA HM0 HKA HKB HKC
 have c24:w1.cell? ⟨w.heap.size,24,none⟩=some (.int .i64 d.lastIn):=HK1.out.cell 24
 have c28:w1.cell? ⟨w.heap.size+1,28,none⟩=some (.int .i64 r.seq):=HK2.out.cell 28
 have j24:=HK1.out.frozen 24
 rcases HW.out with ⟨h1,hx⟩|⟨h1,h2,hx⟩|⟨h1,h2,k,h3,hx⟩|⟨h1,h2,h3,hx⟩
 .have HE:=hid hx
  rw [h1]
  clear hx h1
  go_wp2_with (first|(refine wpl_load rfl 37 (.tmp 2) rfl w.heap.size 0 rfl HK1.out (dlgA d v).toList rfl _ Tryz.underlying37 rfl (by kernel_rfl) ?_)|(refine wpl_store rfl 37 (.tmp 4) (.tmp 11) rfl (w.heap.size+1+1) 0 rfl (dlgA d v) rfl HK3.out (Nat.le_refl 26) (dlgA d v) rfl (by kernel_rfl) (dlgA_one HONE.out) ?_;intro wz hkz hfz))
  refine ret_cell2 rfl rfl rfl rfl hkz _ Tryz.underlying37 rfl (by kernel_rfl) ⟨v,by rw [HE.out];rfl,by rw [HE.out];exact HM1.out.fr hfz (keepP_blk HK3.out (by decide) (by decide)),?_⟩
  exact below_upfr HB1.out (Nat.le_refl _) hfz (fun k e=>by omega)
 .have HE:=hid hx
  rw [h1]
  have d2:decide (r.seq<=d.lastIn)=true:=decide_eq_true h2
  clear hx h1
  go_wp2_with (first|(refine wpl_load rfl 37 (.tmp 2) rfl w.heap.size 0 rfl HK1.out (dlgA d v).toList rfl _ Tryz.underlying37 rfl (by kernel_rfl) ?_)|(refine wpl_store rfl 37 (.tmp 4) (.tmp 18) rfl (w.heap.size+1+1) 0 rfl (dlgA d v) rfl HK3.out (Nat.le_refl 26) (dlgA d v) rfl (by kernel_rfl) (dlgA_one HONE.out) ?_;intro wz hkz hfz))
  refine ret_cell2 rfl rfl rfl rfl hkz _ Tryz.underlying37 rfl (by kernel_rfl) ⟨v,by rw [HE.out];rfl,by rw [HE.out];exact HM1.out.fr hfz (keepP_blk HK3.out (by decide) (by decide)),?_⟩
  exact below_upfr HB1.out (Nat.le_refl _) hfz (fun k e=>by omega)
 .have HE:=hid hx
  rw [h1]
  have d2:decide (r.seq<=d.lastIn)=false:=decide_eq_false (by omega)
  have q2:¬r.seq<=d.lastIn:=by omega
  obtain ⟨w2,hw2⟩:∃ w2,w1.setCell ⟨w.heap.size,24,none⟩ (.int .i64 r.seq)=w2:=⟨_,rfl⟩
  have hf:Fr (fun k=>k=w.heap.size) w1 w2:=hw2▸(Fr.refl (fun k=>k=w.heap.size) w1).set (p:=⟨w.heap.size,24,none⟩) (fun _=>rfl) _
  have HD:Hid (Blk w2 w.heap.size 37 (dlgA { d with lastIn:=r.seq } v)):=hid (hw2▸blk_setCells [.int .i64 r.seq] (off:=24) HK1.out (show 25<=26 by omega))
  have HM2:=hid (HM1.out.fr hf (keepP_blk HK1.out (by decide) (by decide)))
  have HR2:=hid (HK3.out.fr hf (by omega))
  have HB2:=hid (below_upfr HB1.out (Nat.le_refl _) hf (fun k e=>by omega))
  obtain ⟨xs,hxs,⟨A,cc,hco,_,_,hcr⟩,hcx⟩:=(HRB.out _ HB2.out).1.co
  obtain ⟨x,rfl,rfl⟩:∃ x,xs=[x]/\x.a=k:=by
   rw [h3] at hxs
   match xs,hxs with
   | [x],h9=>exact ⟨x,rfl,by simpa using h9⟩
  obtain ⟨gb,off,rfl,hgb,_⟩:=id (hcr.2 (Nat.zero_lt_one))
  obtain ⟨k1,k2,k3,k4,k5,k6⟩:=cx_cells hcr
  have c32:w2.cell? ⟨w.heap.size+1,32,none⟩=some (.slice (some ⟨gb,off,none⟩) 1 cc):=by
   have h9:=(HK2.out.fr hf (by omega)).cell 32
   exact h9.trans (congrArg some hco)
  have HC:=hid (cloned_lit (u:=x.a.uri) (HRB.out _ HB2.out).2 (hcx x (by simp)).1 (hcx x (by simp)).2 (HZ.out x.a (by rw [h3];simp)).1 (HZ.out x.a (by rw [h3];simp)).2)
  clear hx h1 h2 h3 hxs hco hf hcr hcx
  go_upto_region 7 with (fail)
  try rw [hw2]
  clear hw2 c24 c28 j24
  go_wp2_with fail
  refine (HC.out).mono ?_
  rintro e w3 ⟨A5,c5,A6,c6,rfl,m1,m2,hb3⟩
  have HD3:=hid (HD.out.fr (Fr.of_below (F:=fun _=>False) hb3) (fun h=>h))
  have HR3:=hid (HR2.out.fr (Fr.of_below (F:=fun _=>False) hb3) (fun h=>h))
  have HM3:=hid (HM2.out.below hb3)
  have HP1:=hid m1
  have HP2:=hid m2
  have HB3:=hid (HB2.out.trans (hb3.mono HB2.out.size))
  clear hb3 m1 m2 c32 k1 k2 k3 k4 k5 k6
  go_upto_region 8 with (refine wpl_store rfl 32 (.tmp 32) (.tmp 31) rfl w.heap.size 17 rfl #[.string (str x.a.uri.scheme),.string (str x.a.uri.user),.string (str x.a.uri.host),.int .i64 x.a.uri.port,.slice A5 x.a.uri.params.length c5,.slice A6 x.a.uri.headers.length c6] rfl HD3.out (show 23<=26 by omega) (dlgA { d with lastIn:=r.seq,tgt:=x.a.uri } { v with tp:=.slice A5 x.a.uri.params.length c5,th:=.slice A6 x.a.uri.headers.length c6 }) rfl (by kernel_rfl) (uriA_one (u:=x.a.uri) rfl rfl) ?_;intro wy hky hfy)
  have HKY:=hid hky
  have HRY:=hid (HR3.out.fr hfy (by omega))
  have hkp:=keepP_blk HD3.out (by decide) (by decide)
  have HMY:Hid (DlgM wy { d with lastIn:=r.seq,tgt:=x.a.uri } { v with tp:=.slice A5 x.a.uri.params.length c5,th:=.slice A6 x.a.uri.headers.length c6 }):=hid (by
   have h9:=HM3.out.fr hfy hkp
   exact ⟨h9.loc,h9.rem,HP1.out.fr hfy hkp,HP2.out.fr hfy hkp,h9.ro⟩)
  have HBY:=hid (below_upfr HB3.out (Nat.le_refl _) hfy (fun k e=>by omega))
  clear hky hfy hkp
  go_wp2_with (first|(refine wpl_load rfl 37 (.tmp 2) rfl w.heap.size 0 rfl HKY.out (dlgA { d with lastIn:=r.seq,tgt:=x.a.uri } { v with tp:=.slice A5 x.a.uri.params.length c5,th:=.slice A6 x.a.uri.headers.length c6 }).toList rfl _ Tryz.underlying37 rfl (by kernel_rfl) ?_)|(refine wpl_store rfl 37 (.tmp 4) (.tmp 33) rfl (w.heap.size+1+1) 0 rfl (dlgA { d with lastIn:=r.seq,tgt:=x.a.uri } { v with tp:=.slice A5 x.a.uri.params.length c5,th:=.slice A6 x.a.uri.headers.length c6 }) rfl HRY.out (Nat.le_refl 26) (dlgA { d with lastIn:=r.seq,tgt:=x.a.uri } { v with tp:=.slice A5 x.a.uri.params.length c5,th:=.slice A6 x.a.uri.headers.length c6 }) rfl (by kernel_rfl) (dlgA_one HMY.out.one) ?_;intro wz hkz hfz))
  refine ret_cell2 rfl rfl rfl rfl hkz _ Tryz.underlying37 rfl (by kernel_rfl) ⟨{ v with tp:=.slice A5 x.a.uri.params.length c5,th:=.slice A6 x.a.uri.headers.length c6 },by rw [HE.out];rfl,by rw [HE.out];exact HMY.out.fr hfz (keepP_blk HRY.out (by decide) (by decide)),?_⟩
  exact below_upfr HBY.out (Nat.le_refl _) hfz (fun k e=>by omega)
 .have HE:=hid hx
  rw [h1]
  have d2:decide (r.seq<=d.lastIn)=false:=decide_eq_false (by omega)
  have q2:¬r.seq<=d.lastIn:=by omega
  obtain ⟨xs,hxs,⟨A,cc,hco,_,_,_⟩,_⟩:=(HRB.out _ HB1.out).1.co
  have hxl:xs.length≠1:=by rw [<-hxs,List.length_map] at h3;exact h3
  have q3:((xs.length:Int) == 1)=false:=by simp;omega
  have c32:w1.cell? ⟨w.heap.size+1,32,none⟩=some (.slice A xs.length cc):=by rw [<-hco];exact HK2.out.cell 32
  have HD:Hid (Blk (w1.setCell ⟨w.heap.size,24,none⟩ (.int .i64 r.seq)) w.heap.size 37 (dlgA { d with lastIn:=r.seq } v)):=hid (blk_setCells [.int .i64 r.seq] (off:=24) HK1.out (show 25<=26 by omega))
  have hf:Fr (fun k=>k=w.heap.size) w1 (w1.setCell ⟨w.heap.size,24,none⟩ (.int .i64 r.seq)):=(Fr.refl (fun k=>k=w.heap.size) w1).set (p:=⟨w.heap.size,24,none⟩) (fun _=>rfl) _
  have HM2:Hid (DlgM (w1.setCell ⟨w.heap.size,24,none⟩ (.int .i64 r.seq)) { d with lastIn:=r.seq } v):=hid (by
   have h9:=HM1.out.fr hf (keepP_blk HK1.out (by decide) (by decide))
   exact ⟨h9.loc,h9.rem,h9.tp,h9.th,h9.ro⟩)
  have HR2:=hid (HK3.out.fr hf (by omega))
  have HB2:=hid (below_upfr HB1.out (Nat.le_refl _) hf (fun k e=>by omega))
  clear hx h1 h2 h3 hxl hxs hco hf
  go_wp2_with (first|(refine wpl_load rfl 37 (.tmp 2) rfl w.heap.size 0 rfl HD.out (dlgA { d with lastIn:=r.seq } v).toList rfl _ Tryz.underlying37 rfl (by kernel_rfl) ?_)|(refine wpl_store rfl 37 (.tmp 4) (.tmp 33) rfl (w.heap.size+1+1) 0 rfl (dlgA { d with lastIn:=r.seq } v) rfl HR2.out (Nat.le_refl 26) (dlgA { d with lastIn:=r.seq } v) rfl (by kernel_rfl) (dlgA_one HONE.out) ?_;intro wz hkz hfz))
  refine ret_cell2 rfl rfl rfl rfl hkz _ Tryz.underlying37 rfl (by kernel_rfl) ⟨v,by rw [HE.out];rfl,by rw [HE.out];exact HM2.out.fr hfz (keepP_blk HR2.out (by decide) (by decide)),?_⟩
  exact below_upfr HB2.out (Nat.le_refl _) hfz (fun k e=>by omega)
end Go.Proofs.YthkadehlclcggaaGreatDoor
