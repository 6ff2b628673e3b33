/- Chapter 19: Get. Chapter 19: addr.Tag, head.Is. -/
import Derived.Test.YthkadehlclcggaaGreatDoorGx52
import Derived.Test.YthkadehlclcggaaGreatDoorGx53
namespace Go.Proofs.YthkadehlclcggaaGreatDoor
set_option linter.unusedSimpArgs false
set_option linter.unusedVariables false
open Go.RowKit
open Go.Lib (hid)
theorem sub0_one:sub0.all (·.oneCell')=true:=by
 have e1:∀ s,(Value.string s).oneCell'=true:=fun _=>rfl
 have e2:∀ k n,(Value.int k n).oneCell'=true:=fun _ _=>rfl
 have e3:∀ a n c,(Value.slice a n c).oneCell'=true:=fun _ _ _=>rfl
 simp [sub0,e1,e2,e3]
theorem valueV_is (l:List Par) (n:T):valueV (findP n l)=.tuple #[.string (str (valP l n).1),.bool (valP l n).2]:=by
 unfold valP valueV
 cases findP n l <;> rfl
theorem val_any {l:List Par} {n:T} {v:Value} {B:Nat} {w:World} (hB:B<=w.heap.size) (h:PrB w B l v) (hs:∀ p∈l,parS p) (hn:n.length<=140737488351232) :
 Calls Tryz.prog 84 #[v,.string (str n)] w fun e w'=>e=.returned (.tuple #[.string (str (valP l n).1),.bool (valP l n).2])/\Below w.heap.size w w':=by
 obtain ⟨A,c,rfl,hl,hc,hr⟩:=h
 have:=Value_any (c:=c) hB hr (Nat.le_trans hl hc) hs hn
 rw [valueV_is] at this
 exact this
def TagPost (a:AddrP) (w:World) (e:Ending) (w':World):Prop:=e=.returned (.string (str (tagA a)))/\Below w.heap.size w w'
set_option maxHeartbeats 2000000 in
theorem Tag_any {a:AddrP} {vp vh va:Value} {B:Nat} {w:World} (hB:B<=w.heap.size) (h:PrB w B a.params va) (hs:∀ p∈a.params,parS p) :
 Calls Tryz.prog 100 #[.agg (addrA a vp vh va)] w (TagPost a w):=by
 obtain ⟨w0,hw0⟩:∃ w0,w.alloc (.cells (addrA a vp vh va) 34)=w0:=⟨_,rfl⟩
 have hb0:Below w.heap.size w w0:=hw0▸(Below.refl _ _).alloc (Nat.le_refl _) _
 have hk0:Blk w0 w.heap.size 34 (addrA a vp vh va):=hw0▸Blk.new w _ _
 have HV:Hid (Calls Tryz.prog 84 #[va,.string ⟨#[116,97,103]⟩] w0 _):=hid (val_any (n:=tagN) (Nat.le_trans hB hb0.size) (h.below (hb0.mono hB)) hs (by show 3<=_;omega))
 have HB0:=hid hb0
 have c7:w0.cell? ⟨w.heap.size,7,none⟩=some va:=hk0.cell 7
 unfold TagPost tagA
 generalize (valP a.params tagN).1=T1 at *
 generalize (valP a.params tagN).2=T2 at *
 clear hb0 hk0 h hs hB
 go_enter Tryz.func100,Tryz.ntmps100
 go_upto_region 1 with (fail)
 try rw [hw0]
 clear hw0
 generalize Value.agg (addrA a vp vh va)=q0
 go_wp2_with fail
 refine (HV.out).mono ?_
 rintro e w1 ⟨rfl,hb1⟩
 have HB1:=hid (HB0.out.trans (hb1.mono HB0.out.size))
 clear hb1 c7
 go_wp2
 go_ret
 exact ⟨rfl,HB1.out⟩
theorem is_ways (a b:EvP):(a.name≠b.name/\evIs a b=false)\/(a.name=b.name/\(valP a.params idN).2≠(valP b.params idN).2/\evIs a b=false)\/(a.name=b.name/\(valP a.params idN).2=(valP b.params idN).2/\(valP a.params idN).1≠(valP b.params idN).1/\evIs a b=false)\/(a.name=b.name/\(valP a.params idN).2=(valP b.params idN).2/\(valP a.params idN).1=(valP b.params idN).1/\evIs a b=true):=by
 unfold evIs
 by_cases h1:a.name=b.name
 .refine .inr ?_
  by_cases h2:(valP a.params idN).2=(valP b.params idN).2
  .refine .inr ?_
   by_cases h3:(valP a.params idN).1=(valP b.params idN).1
   .exact .inr ⟨h1,h2,h3,by simp [h1,Prod.ext h3 h2]⟩
   .exact .inl ⟨h1,h2,h3,by rw [decide_eq_false (p:=valP a.params idN=valP b.params idN) (fun e=>h3 (by rw [e]))];simp⟩
  .exact .inl ⟨h1,h2,by rw [decide_eq_false (p:=valP a.params idN=valP b.params idN) (fun e=>h2 (by rw [e]))];simp⟩
 .exact .inl ⟨h1,by rw [decide_eq_false h1];rfl⟩
def IsPost (a b:EvP) (w:World) (e:Ending) (w':World):Prop:=e=.returned (.bool (evIs a b))/\Below w.heap.size w w'
set_option maxHeartbeats 4000000 in
theorem Is_any {a b:EvP} {va vb:Value} {B:Nat} {w:World} (hB:B<=w.heap.size) (ha:PrB w B a.params va) (hb:PrB w B b.params vb) (sa:∀ p∈a.params,parS p) (sb:∀ p∈b.params,parS p) :
 Calls Tryz.prog 43 #[.agg #[.string (str a.name),va],.agg #[.string (str b.name),vb]] w (IsPost a b w):=by
 obtain ⟨w0,hw0⟩:∃ w0,(w.alloc (.cells #[.string (str a.name),va] 30)).alloc (.cells #[.string (str b.name),vb] 30)=w0:=⟨_,rfl⟩
 have hb0:Below w.heap.size w w0:=hw0▸((Below.refl _ _).alloc (Nat.le_refl _) _).alloc (by simp) _
 have hka:Blk w0 w.heap.size 30 #[.string (str a.name),va]:=hw0▸(Blk.new w _ _).alloc _
 have hkb:Blk w0 (w.heap.size+1) 30 #[.string (str b.name),vb]:=hw0▸Blk.new' _ _ _ (by simp)
 have HA:Hid (∀ W,Below w0.heap.size w0 W->Calls Tryz.prog 84 #[va,.string ⟨#[105,100]⟩] W _):=hid (fun W hW=>val_any (n:=idN) (Nat.le_trans hB (Nat.le_trans hb0.size hW.size)) (ha.below ((hb0.mono hB).trans (hW.mono (Nat.le_trans hB hb0.size)))) sa (by show 2<=_;omega))
 have HBV:Hid (∀ W,Below w0.heap.size w0 W->Calls Tryz.prog 84 #[vb,.string ⟨#[105,100]⟩] W _):=hid (fun W hW=>val_any (n:=idN) (Nat.le_trans hB (Nat.le_trans hb0.size hW.size)) (hb.below ((hb0.mono hB).trans (hW.mono (Nat.le_trans hB hb0.size)))) sb (by show 2<=_;omega))
 have HKA:Hid (∀ W,Below w0.heap.size w0 W->W.cell? ⟨w.heap.size,0,none⟩=some (.string (str a.name))/\W.cell? ⟨w.heap.size,1,none⟩=some va/\W.cell? ⟨w.heap.size+1,0,none⟩=some (.string (str b.name))/\W.cell? ⟨w.heap.size+1,1,none⟩=some vb):=hid (fun W hW=>by
  have k1:=hka.fr (Fr.of_below (F:=fun _=>False) hW) (fun h=>h)
  have k2:=hkb.fr (Fr.of_below (F:=fun _=>False) hW) (fun h=>h)
  exact ⟨k1.cell 0,k1.cell 1,k2.cell 0,k2.cell 1⟩)
 have HB0:=hid hb0
 have HW:=hid (is_ways a b)
 obtain ⟨c0,c1,d0,d1⟩:=HKA.out _ (Below.refl _ _)
 unfold IsPost
 generalize evIs a b=R at *
 generalize (valP a.params idN).2=f1 at *
 generalize (valP b.params idN).2=f2 at *
 generalize (valP a.params idN).1=x1 at *
 generalize (valP b.params idN).1=x2 at *
 clear hb0 hka hkb ha hb sa sb hB
 go_enter Tryz.func43,Tryz.ntmps43
 go_upto_region 1 with (fail)
 try rw [hw0]
 clear hw0
 go_wp2_with fail
 refine (HA.out _ (Below.refl _ _)).mono ?_
 rintro e w1 ⟨rfl,hb1⟩
 have HB1:=hid hb1
 clear hb1 c0 c1 d0 d1
 obtain ⟨c0,c1,d0,d1⟩:=HKA.out _ HB1.out
 go_wp2_with fail
 refine (HBV.out _ HB1.out).mono ?_
 rintro e w2 ⟨rfl,hb2⟩
 have HB2:=hid (thenB_ HB1.out hb2)
 clear hb2 c0 c1 d0 d1
 obtain ⟨c0,c1,d0,d1⟩:=HKA.out _ HB2.out
 have HBB:=hid (HB0.out.trans (HB2.out.mono HB0.out.size))
 rcases HW.out with ⟨h1,hR⟩|⟨h1,h2,hR⟩|⟨h1,h2,h3,hR⟩|⟨h1,h2,h3,hR⟩
 .have t1:=beq_no (s:=str a.name) (t:=str b.name) (fun q=>h1 (str_inj q))
  have HR:=hid hR
  clear h1 hR
  go_wp2
  go_ret
  exact ⟨ret_bool HR.out.symm,HBB.out⟩
 .have t1:=beq_yes (s:=str a.name) (t:=str b.name) (by rw [h1])
  have t2:(f1 == f2)=false:=by simpa using h2
  have HR:=hid hR
  clear h1 h2 hR
  go_wp2
  go_ret
  exact ⟨ret_bool HR.out.symm,HBB.out⟩
 .have t1:=beq_yes (s:=str a.name) (t:=str b.name) (by rw [h1])
  have t3:=beq_no (s:=str x1) (t:=str x2) (fun q=>h3 (str_inj q))
  have HR:=hid hR
  subst h2
  clear h1 h3 hR
  go_wp2
  go_ret
  exact ⟨ret_bool HR.out.symm,HBB.out⟩
 .have t1:=beq_yes (s:=str a.name) (t:=str b.name) (by rw [h1])
  have t3:=beq_yes (s:=str x1) (t:=str x2) (by rw [h3])
  have HR:=hid hR
  subst h2
  clear h1 h3 hR
  go_wp2
  go_ret
  exact ⟨ret_bool HR.out.symm,HBB.out⟩
end Go.Proofs.YthkadehlclcggaaGreatDoor
