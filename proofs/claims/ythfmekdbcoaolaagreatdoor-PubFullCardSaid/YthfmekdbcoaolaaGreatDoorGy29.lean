/- Chapter 14: pidf.Check. -/
import Derived.Test.YthfmekdbcoaolaaGreatDoorGy10
import Derived.Test.YthfmekdbcoaolaaGreatDoorGy24
import Derived.Test.YthfmekdbcoaolaaGreatDoorGy28
namespace Go.Proofs.YthfmekdbcoaolaaGreatDoor
set_option linter.unusedSimpArgs false
set_option linter.unusedVariables false
open Go.RowKit
open Go.Lib (hid)
theorem tup_at {w:World} {B:Nat} {l:List Tup} {A:Option Addr} (h:RdB w B 5 l.length A (rows tupC l)) {j:Nat} (hj:j<l.length):∃ gb off,A=some ⟨gb,off,none⟩/\gb<B/\w.cell? ⟨gb,off+j*5,none⟩=some (.string (str l[j].id))/\w.cell? ⟨gb,off+j*5+1,none⟩=some (.bool l[j].opn)/\w.cell? ⟨gb,off+j*5+2,none⟩=some (.string (str l[j].contact))/\w.cell? ⟨gb,off+j*5+3,none⟩=some (.int .i64 l[j].prio)/\w.cell? ⟨gb,off+j*5+4,none⟩=some (.string (str l[j].note)):=by
 obtain ⟨gb,off,e,hB,hc⟩:=h.at_ (by omega)
 have hr:∀ i,i<5->(rows tupC l)[j*5+i]?=(tupC l[j])[i]?:=fun i hi=>rows_at tupC_len hj hi
 refine ⟨gb,off,e,hB,?_,?_,?_,?_,?_⟩
 .exact hc (j*5) _ (by have:=hr 0 (by omega);rw [Nat.add_zero] at this;rw [this];rfl)
 .rw [Nat.add_assoc];exact hc (j*5+1) _ (by rw [hr 1 (by omega)];rfl)
 .rw [Nat.add_assoc];exact hc (j*5+2) _ (by rw [hr 2 (by omega)];rfl)
 .rw [Nat.add_assoc];exact hc (j*5+3) _ (by rw [hr 3 (by omega)];rfl)
 .rw [Nat.add_assoc];exact hc (j*5+4) _ (by rw [hr 4 (by omega)];rfl)
theorem note_at {w:World} {B:Nat} {l:List T} {A:Option Addr} (h:RdB w B 1 l.length A (rows noteC l)) {j:Nat} (hj:j<l.length):∃ gb off,A=some ⟨gb,off,none⟩/\gb<B/\w.cell? ⟨gb,off+j,none⟩=some (.string (str l[j])):=by
 obtain ⟨gb,off,e,hB,hc⟩:=h.at_ (by omega)
 have hr:=rows_at noteC_len hj (j:=0) (by omega)
 refine ⟨gb,off,e,hB,hc j _ ?_⟩
 rw [Nat.mul_one,Nat.add_zero] at hr
 rw [hr]
 rfl
def cntM (l:List Tup) (j:Nat):List (ByteArray × Value):=(l.take j).map fun t=>(str t.id,.int .i64 1)
theorem cntM_succ {l:List Tup} {j:Nat} (hj:j<l.length) (hn:l[j].id∉(l.take j).map (·.id)):mput (str l[j].id) (.int .i64 1) (cntM l j)=cntM l (j+1):=by
 unfold cntM
 rw [mput_new,List.take_succ_eq_append_getElem hj,List.map_append]
 .rfl
 .intro h
  rw [List.map_map] at h
  obtain ⟨t,ht,e⟩:=List.mem_map.1 h
  exact hn (List.mem_map.2 ⟨t,ht,str_inj e⟩)
theorem cntM_get {l:List Tup} {j:Nat} (hj:j<l.length):(l[j].id∉(l.take j).map (·.id)/\mget (str l[j].id) (cntM l j)=none)\/(l[j].id∈(l.take j).map (·.id)/\mget (str l[j].id) (cntM l j)=some (.int .i64 1)):=by
 by_cases h:l[j].id∈(l.take j).map (·.id)
 .right
  refine ⟨h,?_⟩
  obtain ⟨t,ht,e⟩:=List.mem_map.1 h
  cases hg:mget (str l[j].id) (cntM l j) with
  | none =>
    exfalso
    refine mget_none' hg ?_
    unfold cntM
    rw [List.map_map]
    exact List.mem_map.2 ⟨t,ht,congrArg str e⟩
  | some u =>
    have hm:=mget_mem hg
    unfold cntM at hm
    obtain ⟨t2,_,e2⟩:=List.mem_map.1 hm
    injection e2 with _ e2
    rw [<-e2]
 .left
  refine ⟨h,mget_none fun hm=>h ?_⟩
  unfold cntM at hm
  rw [List.map_map] at hm
  obtain ⟨t,ht,e⟩:=List.mem_map.1 hm
  exact List.mem_map.2 ⟨t,ht,str_inj e⟩
theorem tag_lookS {w:World} {b:Nat} {kt:List (ByteArray × Value)} (h:MapIs w b strKey kt) (t:T) {v:Int} (hv:mget (str t) kt=some (.int .i64 v)\/mget (str t) kt=none/\v=0):(Instr.lookup 52 (.map (some b)) (.string (str t)) false).run Tryz.prog w=.ok (.int .i64 v) w:=by
 have hz:(zeroValue 3).run Tryz.prog w=.ok (.int .i64 0) w:=by kernel_rfl
 have h2:=h.lookup (T:=52) (E:=3) (strLaw Tryz.underlying9) Tryz.underlying52 hz (str t) false
 rcases hv with hv|⟨hv,rfl⟩
 .rw [hv] at h2;exact h2
 .rw [hv] at h2;exact h2
structure CkRel (w:World) (m:Nat) (l:List Tup) (j:Nat) (wr:World):Prop where
 mp:MapIs wr m strKey (cntM l j)
 be:Below w.heap.size w wr
 ms:w.heap.size<=m
 to_:TupTo l j
set_option maxRecDepth 100000 in
set_option maxHeartbeats 8000000 in
theorem check_any {w:World} {B:Nat} {d:DocP} {At An:Option Addr} {ct cn:Nat} (hB:B<=w.heap.size) (h:DocB w B d (.slice At d.tups.length ct) (.slice An d.notes.length cn)) (hs:DocS d) (he:d.ent.length<=99999990) :
 Calls Tryz.prog 47 #[.agg #[.string (str d.ent),.slice At d.tups.length ct,.slice An d.notes.length cn]] w fun e w'=>e=.returned (.int .i64 (docE d))/\Below w.heap.size w w':=by
 obtain ⟨⟨At',ct',ht0,_,_,ht⟩,⟨An',cn',hn0,_,_,hn⟩⟩:=h
 injection ht0 with e1 _ e2
 injection hn0 with e3 _ e4
 subst e1 e2 e3 e4
 have hmm:=@run_makeMap Tryz.prog
 obtain ⟨w0,hw0⟩:∃ w0,w.alloc (.cells #[.string (str d.ent),.slice At d.tups.length ct,.slice An d.notes.length cn] 39)=w0:=⟨_,rfl⟩
 have hb0:Below w.heap.size w w0:=hw0▸(Below.refl _ _).alloc (Nat.le_refl _) _
 have hk0:Blk w0 w.heap.size 39 #[.string (str d.ent),.slice At d.tups.length ct,.slice An d.notes.length cn]:=hw0▸Blk.new w _ _
 have HB0:=hid hb0
 have HKD:Hid (∀ W,Below w0.heap.size w0 W->Blk W w.heap.size 39 #[.string (str d.ent),.slice At d.tups.length ct,.slice An d.notes.length cn]):=hid (fun W hW=>hk0.fr (Fr.of_below (F:=fun _=>False) hW) (fun h=>h))
 have HT:Hid (∀ W,Below w.heap.size w W->RdB W B 5 d.tups.length At (rows tupC d.tups)):=hid (fun W hW=>ht.below (hW.mono hB))
 have HN:Hid (∀ W,Below w.heap.size w W->RdB W B 1 d.notes.length An (rows noteC d.notes)):=hid (fun W hW=>hn.below (hW.mono hB))
 have HBB:=hid hB
 have HS:=hid hs
 have HH:=hid (fun W=>sHost_any (s:=d.ent) (w:=W) he)
 unfold HostPost hostV at HH
 have HX1:=hid (docE_head (d:=d))
 have HNB:Hid (nameB d.ent=decide ((hostE d.ent).2=0)):=hid rfl
 generalize hh1:(hostE d.ent).1=h1 at *
 generalize hh2:(hostE d.ent).2=er at *
 have c0:=hk0.cell 0
 clear hh1 hh2 hb0 hk0 ht hn hB hs he
 go_enter Tryz.func47,Tryz.ntmps47
 go_upto_region 1 with (fail)
 try rw [hw0]
 clear hw0
 go_wp2_with fail
 refine (HH.out _).mono ?_
 rintro e w1 ⟨rfl,hb1⟩
 have HX:=hid hb1
 clear c0 hb1
 have k1:=HKD.out w1 HX.out
 have c1:=k1.cell 1
 have c2:=k1.cell 2
 clear k1
 by_cases he:er=0
 .have qe:(er != 0)=false:=by simpa using he
  have HNE:=hid (HNB.out.trans (decide_eq_true he))
  clear he
  by_cases ht:d.tups.length<=16
  .have qt:¬((d.tups.length:Int) > 16):=by omega
   by_cases hn:d.notes.length<=16
   .have qn:¬((d.notes.length:Int) > 16):=by omega
    have HT16:=hid ht
    have HN16:=hid hn
    obtain ⟨w2,hw2⟩:∃ w2,w1.alloc (.map #[] 0)=w2:=⟨_,rfl⟩
    have hb2:Below w1.heap.size w1 w2:=hw2▸(Below.refl _ _).alloc (Nat.le_refl _) _
    have hm2:MapIs w2 w1.heap.size strKey []:=hw2▸MapIs.made w1 strKey
    have k2:=HKD.out w2 (thenB_ HX.out hb2)
    have c1':=k2.cell 1
    have HR0:Hid (CkRel w0 w1.heap.size d.tups 0 w2):=hid ⟨hm2,thenB_ HX.out hb2,HX.out.size,TupTo.zero _⟩
    have HE1:=hid (fun (j:Nat) (hj:j<d.tups.length) q=>docE_tup (d:=d) (.inl (tup_bad hj q)))
    have HE2:=hid (fun (j:Nat) (hj:j<d.tups.length) q=>docE_tup (d:=d) (.inr (ids_bad hj q)))
    have HE3:=hid (fun (j:Nat) (hj:j<d.notes.length) q=>docE_note (d:=d) hj q)
    have HE4:=hid (fun q4 q6=>docE_ok HNE.out ht hn (TupTo.all q4).1 (TupTo.all q4).2 q6)
    clear hb2 hm2 k2
    go_wp2_with fail
    clear hw2 c1 c2 c1'
    generalize hm:w1.heap.size=m at *
    clear hm
    go_loopw [34] (fun i wr=>∃ j:Nat,j<=d.tups.length/\i=.int .i64 j/\CkRel w0 m d.tups j wr) (fun i _=>d.tups.length-(intOf i).toNat)
    case atStart=>exact ⟨0,by omega,rfl,HR0.out⟩
    case round =>
     obtain ⟨j,hj,rfl,hR⟩:=hrel
     have HR:=hid hR
     clear hR
     by_cases hlt:j<d.tups.length
     .have x1:(j:Int)<d.tups.length:=by omega
      have x0:(0:Int)<=j:=by omega
      obtain ⟨gb,off,rfl,hgb,z0,z1,z2,z3,z4⟩:=tup_at (HT.out wr (thenB_ HB0.out HR.out.be)) hlt
      have hts:=HS.out.tups _ (List.getElem_mem hlt)
      obtain ⟨W0,hW0⟩:∃ W0,wr.alloc (.cells #[.string (str d.tups[j].id),.bool d.tups[j].opn,.string (str d.tups[j].contact),.int .i64 d.tups[j].prio,.string (str d.tups[j].note)] 115)=W0:=⟨_,rfl⟩
      have hbW:Below wr.heap.size wr W0:=hW0▸(Below.refl _ _).alloc (Nat.le_refl _) _
      have hkW:Blk W0 wr.heap.size 115 #[.string (str d.tups[j].id),.bool d.tups[j].opn,.string (str d.tups[j].contact),.int .i64 d.tups[j].prio,.string (str d.tups[j].note)]:=hW0▸Blk.new wr _ _
      have hmW:=HR.out.mp.fr (Fr.of_below (F:=fun _=>False) hbW) (fun h=>h)
      have d0:=hkW.cell 0
      have hmlt:=HR.out.mp.lt
      have hzI:∀ W,(zeroValue 3).run Tryz.prog W=.ok (.int .i64 0) W:=fun W=>by kernel_rfl
      have HNX:=hid (fun q1 q2=>HR.out.to_.step hlt q1 q2)
      have HBE:=hid (thenB_ HR.out.be hbW)
      have HMS:=hid HR.out.ms
      have HTU:=hid (fun W=>tuple_any d.tups[j] W hts.id hts.contact hts.note)
      unfold BoolPost at HTU
      rcases cntM_get hlt with ⟨hni,hg⟩|⟨hin,hg⟩
      .have hl1:=tag_lookS hmW d.tups[j].id (.inr ⟨hg,rfl⟩)
       obtain ⟨w3,hu3,hm3,f3⟩:=hmW.update (strLaw Tryz.underlying9) Tryz.underlying52 (str d.tups[j].id) (.int .i64 1)
       have hu3':(Instr.mapUpdate 52 (.map (some m)) (.string (str d.tups[j].id)) (.int .i64 1)).run Tryz.prog W0=.ok () w3:=hu3
       have hk3:=hkW.fr f3 (by show ¬wr.heap.size=m;omega)
       have e0:=hk3.cell 0
       have e1:=hk3.cell 1
       have e2:=hk3.cell 2
       have e3:=hk3.cell 3
       have e4:=hk3.cell 4
       have HB3:Hid (Below w0.heap.size w0 w3):=hid (HBE.out.trans (f3.to_below HBE.out.size (fun k e=>by have:=HMS.out;omega)))
       have HFU:Hid (∀ w4,Below w3.heap.size w3 w4->MapIs w4 m strKey (mput (str d.tups[j].id) (.int .i64 1) (cntM d.tups j))/\w4.cell? ⟨wr.heap.size,0,none⟩=some (.string (str d.tups[j].id))/\(Instr.lookup 52 (.map (some m)) (.string (str d.tups[j].id)) false).run Tryz.prog w4=.ok (.int .i64 1) w4):=hid (fun w4 hb4=>by
        have f4:=Fr.of_below (F:=fun _=>False) hb4
        have h9:=hm3.fr f4 (fun h=>h)
        exact ⟨h9,(hk3.fr f4 (fun h=>h)).cell 0,tag_lookS h9 _ (.inl (by rw [mget_put,if_pos rfl]))⟩)
       have HSU:=hid (cntM_succ hlt hni)
       have HNI:=hid hni
       have HBD:=hid (HE1.out j hlt)
       clear hmW hkW hbW hmlt hg hni hu3 hm3 f3 hk3 hts
       go_wp2_with fail
       refine (HTU.out _).mono ?_
       rintro e w4 ⟨rfl,hb4⟩
       obtain ⟨hm4,g0,hl4⟩:=HFU.out w4 hb4
       have HM4:=hid hm4
       have HB4:=hid (thenB_ HB3.out hb4)
       clear hb4 hm4 e0 e1 e2 e3 e4
       generalize htb:tupB d.tups[j]=tb at *
       cases tb with
       | false =>
         have HZ:=hid (HBD.out (by simp))
         clear htb
         go_wp2
         go_ret
         exact ⟨ret_int HZ.out.symm,thenB_ HB0.out HB4.out⟩
       | true =>
         have HNXT:=hid (HNX.out (by simp) HNI.out)
         clear htb
         go_wp2
         go_roundw
         case rel=>exact ⟨j+1,by omega,by go_num,by rw [<-HSU.out];exact HM4.out,HB4.out,HMS.out,HNXT.out⟩
         case measure=>simp [intOf] <;> omega
      .have hl1:=tag_lookS hmW d.tups[j].id (.inl hg)
       obtain ⟨w3,hu3,hm3,f3⟩:=hmW.update (strLaw Tryz.underlying9) Tryz.underlying52 (str d.tups[j].id) (.int .i64 2)
       have hu3':(Instr.mapUpdate 52 (.map (some m)) (.string (str d.tups[j].id)) (.int .i64 2)).run Tryz.prog W0=.ok () w3:=hu3
       have hk3:=hkW.fr f3 (by show ¬wr.heap.size=m;omega)
       have e0:=hk3.cell 0
       have e1:=hk3.cell 1
       have e2:=hk3.cell 2
       have e3:=hk3.cell 3
       have e4:=hk3.cell 4
       have HB3:Hid (Below w0.heap.size w0 w3):=hid (HBE.out.trans (f3.to_below HBE.out.size (fun k e=>by have:=HMS.out;omega)))
       have HFU:Hid (∀ w4,Below w3.heap.size w3 w4->MapIs w4 m strKey (mput (str d.tups[j].id) (.int .i64 2) (cntM d.tups j))/\w4.cell? ⟨wr.heap.size,0,none⟩=some (.string (str d.tups[j].id))/\(Instr.lookup 52 (.map (some m)) (.string (str d.tups[j].id)) false).run Tryz.prog w4=.ok (.int .i64 2) w4):=hid (fun w4 hb4=>by
        have f4:=Fr.of_below (F:=fun _=>False) hb4
        have h9:=hm3.fr f4 (fun h=>h)
        exact ⟨h9,(hk3.fr f4 (fun h=>h)).cell 0,tag_lookS h9 _ (.inl (by rw [mget_put,if_pos rfl]))⟩)
       have HIN:=hid (HE2.out j hlt hin)
       have HBD:=hid (HE1.out j hlt)
       clear hmW hkW hbW hmlt hg hin hu3 hm3 f3 hk3 hts
       go_wp2_with fail
       refine (HTU.out _).mono ?_
       rintro e w4 ⟨rfl,hb4⟩
       obtain ⟨hm4,g0,hl4⟩:=HFU.out w4 hb4
       have HM4:=hid hm4
       have HB4:=hid (thenB_ HB3.out hb4)
       clear hb4 hm4 e0 e1 e2 e3 e4
       generalize htb:tupB d.tups[j]=tb at *
       cases tb with
       | false =>
         have HZ:=hid (HBD.out (by simp))
         clear htb
         go_wp2
         go_ret
         exact ⟨ret_int HZ.out.symm,thenB_ HB0.out HB4.out⟩
       | true =>
         clear htb
         go_wp2
         go_ret
         exact ⟨ret_int HIN.out.symm,thenB_ HB0.out HB4.out⟩
     .have x1:¬(j:Int)<d.tups.length:=by omega
      obtain rfl:j=d.tups.length:=by omega
      have HOK:=hid (HE4.out HR.out.to_)
      have HBR:=hid HR.out.be
      have k2:=(HKD.out wr HBR.out).cell 2
      clear hlt hj HR
      go_wp2_with fail
      go_loopw [57] (fun i w5=>∃ k:Nat,k<=d.notes.length/\i=.int .i64 k/\(∀ s∈d.notes.take k,noteB s=true)/\Below w0.heap.size w0 w5) (fun i _=>d.notes.length-(intOf i).toNat)
      case atStart=>exact ⟨0,by omega,rfl,by simp,HBR.out⟩
      case round =>
       obtain ⟨k,hk,rfl,hno,hb5⟩:=hrel
       have HNO:=hid hno
       have HB5:=hid hb5
       clear hno hb5
       by_cases hlt:k<d.notes.length
       .have y1:(k:Int)<d.notes.length:=by omega
        have y0:(0:Int)<=k:=by omega
        obtain ⟨gb,off,rfl,hgb,z0⟩:=note_at (HN.out _ (thenB_ HB0.out HB5.out)) hlt
        have hns:=HS.out.notes _ (List.getElem_mem hlt)
        have HTX:=hid (fun W=>text_any d.notes[k] W hns)
        unfold BoolPost at HTX
        have HBD:=hid (HE3.out k hlt)
        have HGO:Hid (noteB d.notes[k]=true->∀ s∈d.notes.take (k+1),noteB s=true):=hid (fun q s hs=>by
         rw [List.take_succ_eq_append_getElem hlt] at hs
         rcases List.mem_append.1 hs with h|h
         .exact HNO.out s h
         .simp at h;subst h;exact q)
        have hnb:Hid (noteB d.notes[k]=(decide (d.notes[k]≠[])&&textB d.notes[k])):=hid rfl
        by_cases hem:d.notes[k]=[]
        .have q0:(str d.notes[k]).toList.isEmpty=true:=by rw [size_nil];exact decide_eq_true hem
         have HZ:=hid (HBD.out (by rw [hnb.out,decide_eq_false (fun q=>q hem)];rfl))
         clear hem hns
         go_wp2
         go_ret
         exact ⟨ret_int HZ.out.symm,thenB_ HB0.out HB5.out⟩
        .have q0:(str d.notes[k]).toList.isEmpty=false:=by rw [size_nil];exact decide_eq_false hem
         have hnb2:Hid (noteB d.notes[k]=textB d.notes[k]):=hid (by rw [hnb.out,decide_eq_true hem];rfl)
         clear hem hns
         go_wp2_with fail
         refine (HTX.out _).mono ?_
         rintro e w6 ⟨rfl,hb6⟩
         have HB6:=hid (thenB_ HB5.out hb6)
         clear hb6
         generalize htb:textB d.notes[k]=tb at *
         cases tb with
         | false =>
           have HZ:=hid (HBD.out hnb2.out)
           clear htb
           go_wp2
           go_ret
           exact ⟨ret_int HZ.out.symm,thenB_ HB0.out HB6.out⟩
         | true =>
           have HZ:=hid (HGO.out hnb2.out)
           clear htb
           go_wp2
           go_roundw
           case rel=>exact ⟨k+1,by omega,by go_num,HZ.out,HB6.out⟩
           case measure=>simp [intOf] <;> omega
       .have y1:¬(k:Int)<d.notes.length:=by omega
        have HZ:=hid (HOK.out (List.all_eq_true.2 (by have:=HNO.out;rwa [List.take_of_length_le (by omega)] at this)))
        go_wp2
        go_ret
        exact ⟨ret_int HZ.out.symm,thenB_ HB0.out HB5.out⟩
   .have qn:((d.notes.length:Int) > 16):=by omega
    have HZ:=hid (HX1.out (fun q=>by omega))
    go_wp2
    go_ret
    exact ⟨ret_int HZ.out.symm,thenB_ HB0.out HX.out⟩
  .have qt:((d.tups.length:Int) > 16):=by omega
   have HZ:=hid (HX1.out (fun q=>by omega))
   go_wp2
   go_ret
   exact ⟨ret_int HZ.out.symm,thenB_ HB0.out HX.out⟩
 .have qe:(er != 0)=true:=by simpa using he
  have HZ:=hid (HX1.out (fun q=>by have:=q.1;rw [HNB.out,decide_eq_false he] at this;cases this))
  clear he
  go_wp2
  go_ret
  exact ⟨ret_int HZ.out.symm,thenB_ HB0.out HX.out⟩
end Go.Proofs.YthfmekdbcoaolaaGreatDoor
