/- Chapter 16: PubKeeps. -/
import Derived.Test.YthfmekdbcoaolaaGreatDoorGy52
import Derived.Test.YthfmekdbcoaolaaGreatDoorGy55
import Derived.Test.YthfmekdbcoaolaaGreatDoorGy43
import Derived.Deep.RegionHeld3
namespace Go.Proofs.YthfmekdbcoaolaaGreatDoor
set_option linter.unusedSimpArgs false
set_option linter.unusedVariables false
open Go.RowKit
open Go.Lib (hid)
set_option maxRecDepth 100000 in
set_option maxHeartbeats 16000000 in
theorem pubKeeps_any {w:World} {v:Value} (H:ActsB w w.heap.size v) (now:Int) {a:AskP} {At An:Option Addr} {ct cn:Nat} (hd:DocB w w.heap.size a.doc (.slice At a.doc.tups.length ct) (.slice An a.doc.notes.length cn)) (hs:AskS a):Calls Tryz.prog 6 #[v,.int .i64 now,.agg #[.string (str a.who),.string (str a.mtch),.int .i64 a.exp,.bool a.has,.string (str a.doc.ent),.slice At a.doc.tups.length ct,.slice An a.doc.notes.length cn,.string (str a.tag)]] w (TruePost w):=by
 have HAW:=hid awake16_any
 unfold AwkPost at HAW
 obtain ⟨w0,hw0⟩:∃ w0,w.alloc (.cells #[.string (str a.who),.string (str a.mtch),.int .i64 a.exp,.bool a.has,.string (str a.doc.ent),.slice At a.doc.tups.length ct,.slice An a.doc.notes.length cn,.string (str a.tag)] 42)=w0:=⟨_,rfl⟩
 have hb0:Below w.heap.size w w0:=hw0▸(Below.refl _ _).alloc (Nat.le_refl _) _
 have hka:Blk w0 w.heap.size 42 #[.string (str a.who),.string (str a.mtch),.int .i64 a.exp,.bool a.has,.string (str a.doc.ent),.slice At a.doc.tups.length ct,.slice An a.doc.notes.length cn,.string (str a.tag)]:=hw0▸Blk.new w _ _
 have HFL:=hid (filled_any (H.on hb0))
 unfold FilPost at HFL
 have HB0:=hid hb0
 have HDA:Hid (∀ W,Below w0.heap.size w0 W->DocB W w0.heap.size a.doc (.slice At a.doc.tups.length ct) (.slice An a.doc.notes.length cn)):=hid (fun W hW=>((hd.below hb0).below (hW.mono hb0.size)).up hb0.size)
 have HKA:Hid (∀ W,Below w0.heap.size w0 W->Blk W w.heap.size 42 #[.string (str a.who),.string (str a.mtch),.int .i64 a.exp,.bool a.has,.string (str a.doc.ent),.slice At a.doc.tups.length ct,.slice An a.doc.notes.length cn,.string (str a.tag)]):=hid (fun W hW=>hka.fr (Fr.of_below (F:=fun _=>False) hW) (fun h=>h))
 have HS:=hid hs
 have HSM:=hid (small_any a At An ct cn)
 clear H hd hs hb0 hka
 go_enter Tryz.func6,Tryz.ntmps6
 go_upto_region 1 with (fail)
 try rw [hw0]
 clear hw0
 go_wp2_with fail
 refine (HFL.out).mono ?_
 rintro e w1 ⟨p,last,L,v1,rfl,ht1,hla,hwho,hb1⟩
 obtain ⟨A1,c1,rfl⟩:=ht1.slice
 have HB1:=hid hb1
 have HT1:=hid ht1
 have HLA:Hid (last<=1000000):=hid (by omega)
 have HQ:=hid ht1.q
 clear ht1 hla hwho hb1
 go_upto_region 2 with (fail)
 obtain ⟨w2,hw2⟩:∃ w2,w1.alloc (.cells (plA last (.slice A1 L.length c1)) 60)=w2:=⟨_,rfl⟩
 rw [hw2]
 have hb2:Below w1.heap.size w1 w2:=hw2▸(Below.refl _ _).alloc (Nat.le_refl _) _
 have HK2:Hid (Blk w2 w1.heap.size 60 (plA last (.slice A1 L.length c1))):=hid (hw2▸Blk.new w1 _ _)
 have HBW:=hid (thenB_ HB1.out hb2)
 have HBX:=hid (thenB_ HB0.out HBW.out)
 have HT2:=hid (HT1.out.below hb2 HB1.out.size)
 clear hb2 hw2
 generalize w1.heap.size=g at *
 have kk:=HKA.out _ HBW.out
 have a0:=kk.cell 0
 have a1:=kk.cell 1
 have a2:=kk.cell 2
 have a3:=kk.cell 3
 have a4:=kk.cell 4
 have a5:=kk.cell 5
 have a6:=kk.cell 6
 have a7:=kk.cell 7
 clear kk
 go_wp2_with fail
 refine (HSM.out _).mono ?_
 rintro e w3 ⟨rfl,hb3⟩
 have HK3:=hid (HK2.out.fr (Fr.of_below (F:=fun _=>False) hb3) (fun h=>h))
 have HT3:=hid (HT2.out.below hb3 HBW.out.size)
 have HBW:=hid (thenB_ HBW.out hb3)
 have HBX:=hid (thenB_ HBX.out hb3)
 clear hb3 a0 a1 a2 a3 a4 a5 a6 a7
 cases hsm:smallB a with
 | false =>
   go_wp2_with fail
   refine (HAW.out _).mono ?_
   rintro e wz ⟨rfl,hbz⟩
   have HBz:=hid (thenB_ HBX.out hbz)
   go_wp2
   go_ret
   exact ⟨rfl,HBz.out⟩
 | true =>
   have HEN:Hid (a.has=true->a.doc.ent.length<=99999990):=hid (fun _=>by
    unfold smallB at hsm
    simp only [Bool.and_eq_true,decide_eq_true_eq] at hsm
    omega)
   clear hsm
   have kk:=HKA.out _ HBW.out
   have a0:=kk.cell 0
   have a1:=kk.cell 1
   have a2:=kk.cell 2
   have a3:=kk.cell 3
   have a4:=kk.cell 4
   have a5:=kk.cell 5
   have a6:=kk.cell 6
   have a7:=kk.cell 7
   clear kk
   have HDO:Hid (Calls Tryz.prog 14 #[.pointer (some ⟨p,0,none⟩),.int .i64 now,.agg #[.string (str a.who),.string (str a.mtch),.int .i64 a.exp,.bool a.has,.string (str a.doc.ent),.slice At a.doc.tups.length ct,.slice An a.doc.notes.length cn,.string (str a.tag)]] w3 fun e w'=>e=.returned (.tuple #[.agg #[.int .i64 (doR (plC 3) last L now a).told.status,.int .i64 (doR (plC 3) last L now a).told.exp,.string (str (doR (plC 3) last L now a).told.tag),.bool (doR (plC 3) last L now a).told.changed],.int .i64 (doR (plC 3) last L now a).err])/\Two w0.heap.size w' p (plC 3) (doR (plC 3) last L now a).last (doR (plC 3) last L now a).L L (.slice A1 L.length c1)/\Below w0.heap.size w3 w'/\Stay w3 w'):=hid (does_two HT3.out HBW.out.size (HDA.out _ HBW.out) HS.out HEN.out HLA.out)
   have HKP:=hid (doR_keep (c:=plC 3) (last:=last) (now:=now) (L:=L) (a:=a))
   generalize doR (plC 3) last L now a=D at *
   go_wp2_with fail
   refine (HDO.out).mono ?_
   rintro e w4 ⟨rfl,ht4,hb4,hs4⟩
   go_upto_region 7 with (fail)
   obtain ⟨w5,hw5⟩:∃ w5,w4.alloc (.cells #[.int .i64 D.told.status,.int .i64 D.told.exp,.string (str D.told.tag),.bool D.told.changed] 33)=w5:=⟨_,rfl⟩
   rw [hw5]
   have hb5:Below w4.heap.size w4 w5:=hw5▸(Below.refl _ _).alloc (Nat.le_refl _) _
   have HKt:Hid (Blk w5 w4.heap.size 33 #[.int .i64 D.told.status,.int .i64 D.told.exp,.string (str D.told.tag),.bool D.told.changed]):=hid (hw5▸Blk.new w4 _ _)
   have HK5:=hid ((hs4.trans (Stay.below hb5)) _ _ _ HK3.out (by decide))
   have HT5:=hid (ht4.below hb5 (Nat.le_trans HBW.out.size hb4.size))
   have HBX:=hid (thenB_ (HBX.out.trans (hb4.mono HB0.out.size)) hb5)
   have HBW:=hid (thenB_ (HBW.out.trans hb4) hb5)
   clear hw5 hb5 ht4 hb4 hs4 a0 a1 a2 a3 a4 a5 a6 a7
   generalize w4.heap.size=t at *
   have t0:=HKt.out.cell 0
   rcases Decidable.em (D.err=0) with h1|h1
   .have x1:(D.err == 0)=true:=by simpa using h1
    rcases Decidable.em (D.told.status=200) with h2|h2
    .have x2:(D.told.status == 200)=true:=by simpa using h2
     clear h1 h2
     go_wp2_with fail
     refine (HAW.out _).mono ?_
     rintro e wz ⟨rfl,hbz⟩
     have HBz:=hid (thenB_ HBX.out hbz)
     go_wp2
     go_ret
     exact ⟨rfl,HBz.out⟩
    .have x2:(D.told.status == 200)=false:=by simpa using h2
     have HNK:Hid (D.L=L/\D.last=last/\D.told.tag=[]/\D.told.changed=false):=hid (HKP.out.elim (fun q=>absurd q.2 h2) (fun q=>q))
     clear h1 h2
     obtain ⟨l1,l2,l3,l4⟩:=HNK.out
     have HT6:Hid (Two w0.heap.size w5 p (plC 3) last L L (.slice A1 L.length c1)):=hid (by
      have h9:=HT5.out
      rw [l1,l2] at h9
      exact h9)
     have HK6:Hid (∀ W,Below w5.heap.size w5 W->Blk W g 60 (plA last (.slice A1 L.length c1))):=hid (fun W hW=>HK5.out.fr (Fr.of_below (F:=fun _=>False) hW) (fun h=>h))
     have HKu:Hid (∀ W,Below w5.heap.size w5 W->W.cell? ⟨t,2,none⟩=some (.string ⟨#[]⟩)/\W.cell? ⟨t,3,none⟩=some (.bool false)):=hid (fun W hW=>by
      have h9:=HKt.out.fr (Fr.of_below (F:=fun _=>False) hW) (fun h=>h)
      rw [l3,l4] at h9
      exact ⟨h9.cell 2,h9.cell 3⟩)
     obtain ⟨lq,Q⟩:=HQ.out
     have HLN:Hid (L.length<=200):=hid (by have:=Q.len;have:=Q.pubs;omega)
     have HDC:Hid (∀ q∈L,q.doc.tups.length<=1000000/\q.doc.notes.length<=1000000):=hid (fun q hq=>by
      have h9:=docE_lens (Q.docs q hq)
      omega)
     have HLV:Hid (∀ W,Below w5.heap.size w5 W->∀ who,Calls Tryz.prog 18 #[.pointer (some ⟨p,0,none⟩),.string (str who)] W fun e w'=>∃ v,e=.returned v/\PubsR w' (L.filter fun q=>decide (q.who=who)) v/\Below W.heap.size W w'):=hid (fun W hW who=>(live_sto (HT6.out.below hW HBW.out.size).sto HLA.out).mono fun e w' q=>PubsR.of_live q)
     have HRV:Hid (∀ W,Below w5.heap.size w5 W->∀ who,Calls Tryz.prog 25 #[.agg (plA last (.slice A1 L.length c1)),.string (str who)] W fun e w'=>∃ v,e=.returned v/\PubsR w' (L.filter fun q=>decide (q.who=who)) v/\Below W.heap.size W w'):=hid (fun W hW who=>rlive_any (c:=plC 3) (last:=last) (HT6.out.below hW HBW.out.size).rl (thenB_ HBW.out hW).size (by have:=HLN.out;omega))
     have HSA:Hid (∀ W who v1 v2,PubsR W (L.filter fun q=>decide (q.who=who)) v1->PubsR W (L.filter fun q=>decide (q.who=who)) v2->Calls Tryz.prog 24 #[v1,v2] W fun e w'=>e=.returned (.bool true)/\Below W.heap.size W w'):=hid (fun W who v1 v2 h1 h2=>rsame16_any h1 h2 (by have:=List.length_filter_le (fun q:Pub=>decide (q.who=who)) L;have:=HLN.out;omega) (fun q hq=>HDC.out q (List.mem_filter.1 hq).1))
     have HLE:Hid (∀ W,Below w5.heap.size w5 W->Calls Tryz.prog 17 #[.pointer (some ⟨p,0,none⟩)] W fun e w'=>e=.returned (.int .i64 L.length)/\W=w'):=hid (fun W hW=>len_sto (HT6.out.below hW HBW.out.size).sto)
     have HRW:Hid (∀ W,Below w5.heap.size w5 W->∀ (k:Nat) (hk:k<L.length),∃ gb off,A1=some ⟨gb,off,none⟩/\W.cell? ⟨gb,off+k*7+1,none⟩=some (.string (str L[k].who))):=hid (fun W hW k hk=>rl_who (HT6.out.below hW HBW.out.size).rl hk)
     have hln:=HLN.out
     clear l1 l2 l3 l4 Q HNK
     go_wp2
     go_loopw [11] (fun i wr=>∃ k:Nat,k<=L.length/\i=.int .i64 k/\Below w5.heap.size w5 wr) (fun i _=>L.length-(intOf i).toNat)
     case atStart=>exact ⟨0,by omega,rfl,Below.refl _ _⟩
     case round =>
      obtain ⟨k,hk,rfl,hbr⟩:=hrel
      have HBR:=hid hbr
      clear hbr
      by_cases hlt:k<L.length
      .have x0:(0:Int)<=k:=by omega
       have x3:(k:Int)<L.length:=by omega
       obtain ⟨gb,off,rfl,yw⟩:=HRW.out _ HBR.out k hlt
       have HSS:Hid (∀ W,Below wr.heap.size wr W->W.cell? ⟨g,0,none⟩=some (.string ⟨#[]⟩)/\W.cell? ⟨g,1,none⟩=some (.int .i64 1)/\W.cell? ⟨g,2,none⟩=some (.int .i64 3)/\W.cell? ⟨g,3,none⟩=some (.int .i64 1)/\W.cell? ⟨g,4,none⟩=some (.int .i64 60)/\W.cell? ⟨g,5,none⟩=some (.int .i64 3600)/\W.cell? ⟨g,6,none⟩=some (.int .i64 600)/\W.cell? ⟨g,7,none⟩=some (.int .i64 last)/\W.cell? ⟨g,8,none⟩=some (.slice (some ⟨gb,off,none⟩) L.length c1)/\W.cell? ⟨gb,off+k*7+1,none⟩=some (.string (str L[k].who))):=hid (fun W hW=>by
        obtain ⟨m0,m1,m2,m3,m4,m5,m6,m7,m8⟩:=plA_cells (HK6.out _ (thenB_ HBR.out hW))
        obtain ⟨gb2,off2,e9,y9⟩:=HRW.out _ (thenB_ HBR.out hW) k hlt
        injection e9 with e9
        injection e9 with e9 e8
        subst e9 e8
        exact ⟨m0,m1,m2,m3,m4,m5,m6,m7,m8,y9⟩)
       obtain ⟨_,_,_,_,_,_,_,_,c8⟩:=plA_cells (HK6.out _ HBR.out)
       have HXr:Hid (Below wr.heap.size wr wr):=hid (Below.refl _ _)
       have HXd:Hid (Below wr.heap.size wr wr.drew):=hid (Below.refl _ _).drew
       clear yw
       go_wp2_with fail
       go_region_held3 (fun w'=>w'.cell? ⟨g,0,none⟩=some (.string ⟨#[]⟩)/\w'.cell? ⟨g,1,none⟩=some (.int .i64 1)/\w'.cell? ⟨g,2,none⟩=some (.int .i64 3)/\w'.cell? ⟨g,3,none⟩=some (.int .i64 1)/\w'.cell? ⟨g,4,none⟩=some (.int .i64 60)/\w'.cell? ⟨g,5,none⟩=some (.int .i64 3600)/\w'.cell? ⟨g,6,none⟩=some (.int .i64 600)/\w'.cell? ⟨g,7,none⟩=some (.int .i64 last)/\w'.cell? ⟨g,8,none⟩=some (.slice (some ⟨gb,off,none⟩) L.length c1)/\w'.cell? ⟨gb,off+k*7+1,none⟩=some (.string (str L[k].who)))
        (first|(with_reducible exact HSS.out _ HX14.out)|(with_reducible exact HSS.out _ HX13.out)|(with_reducible exact HSS.out _ HX12.out)|(with_reducible exact HSS.out _ HXd.out)|(with_reducible exact HSS.out _ HXr.out)) (first|(go_at_call 18;(with_reducible refine (HLV.out _ (thenB_ HBR.out HXd.out) _).mono ?_);rintro e w12 ⟨v12,rfl,hp12,hb12⟩;have HP12:=hid hp12;have HX12:Hid (Below wr.heap.size wr w12):=hid (HXd.out.trans (hb12.mono HXd.out.size));clear hp12 hb12)|(go_at_call 25;(with_reducible refine (HRV.out _ (thenB_ HBR.out HX12.out) _).mono ?_);rintro e w13 ⟨v13,rfl,hp13,hb13⟩;have HP13:=hid hp13;have HP12':=hid (HP12.out.below hb13);have HX13:Hid (Below wr.heap.size wr w13):=hid (HX12.out.trans (hb13.mono HX12.out.size));clear hp13 hb13)|(go_at_call 24;(with_reducible refine (HSA.out _ _ _ _ HP12'.out HP13.out).mono ?_);rintro e w14 ⟨rfl,hb14⟩;have HX14:Hid (Below wr.heap.size wr w14):=hid (HX13.out.trans (hb14.mono HX13.out.size));clear hb14))
       all_goals
        have HZ:=hid (thenB_ HBR.out HX14.out)
        go_wp2
        go_roundw
        case rel=>exact ⟨k+1,by omega,by go_num,HZ.out⟩
        case measure=>simp [intOf] <;> omega
      .have x3:¬(k:Int)<L.length:=by omega
       have HSE:Hid (∀ W,Below wr.heap.size wr W->W.cell? ⟨g,8,none⟩=some (.slice A1 L.length c1)/\W.cell? ⟨t,2,none⟩=some (.string ⟨#[]⟩)/\W.cell? ⟨t,3,none⟩=some (.bool false)):=hid (fun W hW=>by
        obtain ⟨_,_,_,_,_,_,_,_,m8⟩:=plA_cells (HK6.out _ (thenB_ HBR.out hW))
        obtain ⟨u2,u3⟩:=HKu.out _ (thenB_ HBR.out hW)
        exact ⟨m8,u2,u3⟩)
       obtain ⟨_,_,_,_,_,_,_,_,c8⟩:=plA_cells (HK6.out _ HBR.out)
       have HXr:Hid (Below wr.heap.size wr wr):=hid (Below.refl _ _)
       have HXd:Hid (Below wr.heap.size wr wr.drew):=hid (Below.refl _ _).drew
       go_wp2_with fail
       go_region_held3 (fun w'=>w'.cell? ⟨g,8,none⟩=some (.slice A1 L.length c1)/\w'.cell? ⟨t,2,none⟩=some (.string ⟨#[]⟩)/\w'.cell? ⟨t,3,none⟩=some (.bool false))
        (first|(with_reducible exact HSE.out _ HXz.out)|(with_reducible exact HSE.out _ HXd.out)|(with_reducible exact HSE.out _ HXr.out)) (first|(go_at_call 17;(with_reducible refine (HLE.out _ (thenB_ HBR.out HXd.out)).mono ?_);rintro e wl ⟨rfl,rfl⟩)|(go_at_call 13;(with_reducible refine (HAW.out _).mono ?_);rintro e wz ⟨rfl,hbz⟩;have HXz:Hid (Below wr.heap.size wr wz):=hid (HXd.out.trans (hbz.mono HXd.out.size))))
       all_goals
        have HP:=hid (thenB_ HBX.out (thenB_ HBR.out HXz.out))
        go_wp2
        go_ret
        exact ⟨rfl,HP.out⟩
   .have x1:(D.err == 0)=false:=by simpa using h1
    have HNK:Hid (D.L=L/\D.last=last/\D.told.tag=[]/\D.told.changed=false):=hid (HKP.out.elim (fun q=>absurd q.1 h1) (fun q=>q))
    clear h1
    obtain ⟨l1,l2,l3,l4⟩:=HNK.out
    have HT6:Hid (Two w0.heap.size w5 p (plC 3) last L L (.slice A1 L.length c1)):=hid (by
     have h9:=HT5.out
     rw [l1,l2] at h9
     exact h9)
    have HK6:Hid (∀ W,Below w5.heap.size w5 W->Blk W g 60 (plA last (.slice A1 L.length c1))):=hid (fun W hW=>HK5.out.fr (Fr.of_below (F:=fun _=>False) hW) (fun h=>h))
    have HKu:Hid (∀ W,Below w5.heap.size w5 W->W.cell? ⟨t,2,none⟩=some (.string ⟨#[]⟩)/\W.cell? ⟨t,3,none⟩=some (.bool false)):=hid (fun W hW=>by
     have h9:=HKt.out.fr (Fr.of_below (F:=fun _=>False) hW) (fun h=>h)
     rw [l3,l4] at h9
     exact ⟨h9.cell 2,h9.cell 3⟩)
    obtain ⟨lq,Q⟩:=HQ.out
    have HLN:Hid (L.length<=200):=hid (by have:=Q.len;have:=Q.pubs;omega)
    have HDC:Hid (∀ q∈L,q.doc.tups.length<=1000000/\q.doc.notes.length<=1000000):=hid (fun q hq=>by
     have h9:=docE_lens (Q.docs q hq)
     omega)
    have HLV:Hid (∀ W,Below w5.heap.size w5 W->∀ who,Calls Tryz.prog 18 #[.pointer (some ⟨p,0,none⟩),.string (str who)] W fun e w'=>∃ v,e=.returned v/\PubsR w' (L.filter fun q=>decide (q.who=who)) v/\Below W.heap.size W w'):=hid (fun W hW who=>(live_sto (HT6.out.below hW HBW.out.size).sto HLA.out).mono fun e w' q=>PubsR.of_live q)
    have HRV:Hid (∀ W,Below w5.heap.size w5 W->∀ who,Calls Tryz.prog 25 #[.agg (plA last (.slice A1 L.length c1)),.string (str who)] W fun e w'=>∃ v,e=.returned v/\PubsR w' (L.filter fun q=>decide (q.who=who)) v/\Below W.heap.size W w'):=hid (fun W hW who=>rlive_any (c:=plC 3) (last:=last) (HT6.out.below hW HBW.out.size).rl (thenB_ HBW.out hW).size (by have:=HLN.out;omega))
    have HSA:Hid (∀ W who v1 v2,PubsR W (L.filter fun q=>decide (q.who=who)) v1->PubsR W (L.filter fun q=>decide (q.who=who)) v2->Calls Tryz.prog 24 #[v1,v2] W fun e w'=>e=.returned (.bool true)/\Below W.heap.size W w'):=hid (fun W who v1 v2 h1 h2=>rsame16_any h1 h2 (by have:=List.length_filter_le (fun q:Pub=>decide (q.who=who)) L;have:=HLN.out;omega) (fun q hq=>HDC.out q (List.mem_filter.1 hq).1))
    have HLE:Hid (∀ W,Below w5.heap.size w5 W->Calls Tryz.prog 17 #[.pointer (some ⟨p,0,none⟩)] W fun e w'=>e=.returned (.int .i64 L.length)/\W=w'):=hid (fun W hW=>len_sto (HT6.out.below hW HBW.out.size).sto)
    have HRW:Hid (∀ W,Below w5.heap.size w5 W->∀ (k:Nat) (hk:k<L.length),∃ gb off,A1=some ⟨gb,off,none⟩/\W.cell? ⟨gb,off+k*7+1,none⟩=some (.string (str L[k].who))):=hid (fun W hW k hk=>rl_who (HT6.out.below hW HBW.out.size).rl hk)
    have hln:=HLN.out
    clear l1 l2 l3 l4 Q HNK
    go_wp2
    go_loopw [11] (fun i wr=>∃ k:Nat,k<=L.length/\i=.int .i64 k/\Below w5.heap.size w5 wr) (fun i _=>L.length-(intOf i).toNat)
    case atStart=>exact ⟨0,by omega,rfl,Below.refl _ _⟩
    case round =>
     obtain ⟨k,hk,rfl,hbr⟩:=hrel
     have HBR:=hid hbr
     clear hbr
     by_cases hlt:k<L.length
     .have x0:(0:Int)<=k:=by omega
      have x3:(k:Int)<L.length:=by omega
      obtain ⟨gb,off,rfl,yw⟩:=HRW.out _ HBR.out k hlt
      have HSS:Hid (∀ W,Below wr.heap.size wr W->W.cell? ⟨g,0,none⟩=some (.string ⟨#[]⟩)/\W.cell? ⟨g,1,none⟩=some (.int .i64 1)/\W.cell? ⟨g,2,none⟩=some (.int .i64 3)/\W.cell? ⟨g,3,none⟩=some (.int .i64 1)/\W.cell? ⟨g,4,none⟩=some (.int .i64 60)/\W.cell? ⟨g,5,none⟩=some (.int .i64 3600)/\W.cell? ⟨g,6,none⟩=some (.int .i64 600)/\W.cell? ⟨g,7,none⟩=some (.int .i64 last)/\W.cell? ⟨g,8,none⟩=some (.slice (some ⟨gb,off,none⟩) L.length c1)/\W.cell? ⟨gb,off+k*7+1,none⟩=some (.string (str L[k].who))):=hid (fun W hW=>by
       obtain ⟨m0,m1,m2,m3,m4,m5,m6,m7,m8⟩:=plA_cells (HK6.out _ (thenB_ HBR.out hW))
       obtain ⟨gb2,off2,e9,y9⟩:=HRW.out _ (thenB_ HBR.out hW) k hlt
       injection e9 with e9
       injection e9 with e9 e8
       subst e9 e8
       exact ⟨m0,m1,m2,m3,m4,m5,m6,m7,m8,y9⟩)
      obtain ⟨_,_,_,_,_,_,_,_,c8⟩:=plA_cells (HK6.out _ HBR.out)
      have HXr:Hid (Below wr.heap.size wr wr):=hid (Below.refl _ _)
      have HXd:Hid (Below wr.heap.size wr wr.drew):=hid (Below.refl _ _).drew
      clear yw
      go_wp2_with fail
      go_region_held3 (fun w'=>w'.cell? ⟨g,0,none⟩=some (.string ⟨#[]⟩)/\w'.cell? ⟨g,1,none⟩=some (.int .i64 1)/\w'.cell? ⟨g,2,none⟩=some (.int .i64 3)/\w'.cell? ⟨g,3,none⟩=some (.int .i64 1)/\w'.cell? ⟨g,4,none⟩=some (.int .i64 60)/\w'.cell? ⟨g,5,none⟩=some (.int .i64 3600)/\w'.cell? ⟨g,6,none⟩=some (.int .i64 600)/\w'.cell? ⟨g,7,none⟩=some (.int .i64 last)/\w'.cell? ⟨g,8,none⟩=some (.slice (some ⟨gb,off,none⟩) L.length c1)/\w'.cell? ⟨gb,off+k*7+1,none⟩=some (.string (str L[k].who)))
       (first|(with_reducible exact HSS.out _ HX14.out)|(with_reducible exact HSS.out _ HX13.out)|(with_reducible exact HSS.out _ HX12.out)|(with_reducible exact HSS.out _ HXd.out)|(with_reducible exact HSS.out _ HXr.out)) (first|(go_at_call 18;(with_reducible refine (HLV.out _ (thenB_ HBR.out HXd.out) _).mono ?_);rintro e w12 ⟨v12,rfl,hp12,hb12⟩;have HP12:=hid hp12;have HX12:Hid (Below wr.heap.size wr w12):=hid (HXd.out.trans (hb12.mono HXd.out.size));clear hp12 hb12)|(go_at_call 25;(with_reducible refine (HRV.out _ (thenB_ HBR.out HX12.out) _).mono ?_);rintro e w13 ⟨v13,rfl,hp13,hb13⟩;have HP13:=hid hp13;have HP12':=hid (HP12.out.below hb13);have HX13:Hid (Below wr.heap.size wr w13):=hid (HX12.out.trans (hb13.mono HX12.out.size));clear hp13 hb13)|(go_at_call 24;(with_reducible refine (HSA.out _ _ _ _ HP12'.out HP13.out).mono ?_);rintro e w14 ⟨rfl,hb14⟩;have HX14:Hid (Below wr.heap.size wr w14):=hid (HX13.out.trans (hb14.mono HX13.out.size));clear hb14))
      all_goals
       have HZ:=hid (thenB_ HBR.out HX14.out)
       go_wp2
       go_roundw
       case rel=>exact ⟨k+1,by omega,by go_num,HZ.out⟩
       case measure=>simp [intOf] <;> omega
     .have x3:¬(k:Int)<L.length:=by omega
      have HSE:Hid (∀ W,Below wr.heap.size wr W->W.cell? ⟨g,8,none⟩=some (.slice A1 L.length c1)/\W.cell? ⟨t,2,none⟩=some (.string ⟨#[]⟩)/\W.cell? ⟨t,3,none⟩=some (.bool false)):=hid (fun W hW=>by
       obtain ⟨_,_,_,_,_,_,_,_,m8⟩:=plA_cells (HK6.out _ (thenB_ HBR.out hW))
       obtain ⟨u2,u3⟩:=HKu.out _ (thenB_ HBR.out hW)
       exact ⟨m8,u2,u3⟩)
      obtain ⟨_,_,_,_,_,_,_,_,c8⟩:=plA_cells (HK6.out _ HBR.out)
      have HXr:Hid (Below wr.heap.size wr wr):=hid (Below.refl _ _)
      have HXd:Hid (Below wr.heap.size wr wr.drew):=hid (Below.refl _ _).drew
      go_wp2_with fail
      go_region_held3 (fun w'=>w'.cell? ⟨g,8,none⟩=some (.slice A1 L.length c1)/\w'.cell? ⟨t,2,none⟩=some (.string ⟨#[]⟩)/\w'.cell? ⟨t,3,none⟩=some (.bool false))
       (first|(with_reducible exact HSE.out _ HXz.out)|(with_reducible exact HSE.out _ HXd.out)|(with_reducible exact HSE.out _ HXr.out)) (first|(go_at_call 17;(with_reducible refine (HLE.out _ (thenB_ HBR.out HXd.out)).mono ?_);rintro e wl ⟨rfl,rfl⟩)|(go_at_call 13;(with_reducible refine (HAW.out _).mono ?_);rintro e wz ⟨rfl,hbz⟩;have HXz:Hid (Below wr.heap.size wr wz):=hid (HXd.out.trans (hbz.mono HXd.out.size))))
      all_goals
       have HP:=hid (thenB_ HBX.out (thenB_ HBR.out HXz.out))
       go_wp2
       go_ret
       exact ⟨rfl,HP.out⟩
end Go.Proofs.YthfmekdbcoaolaaGreatDoor
