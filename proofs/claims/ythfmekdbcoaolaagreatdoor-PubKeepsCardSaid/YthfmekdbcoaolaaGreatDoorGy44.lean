/- Chapter 14: the document's answer: Check. Chapter 16: the document's answer, Do: its blocks, its ends. -/
import Derived.Test.YthfmekdbcoaolaaGreatDoorGy43
import Derived.Test.YthfmekdbcoaolaaGreatDoorGy29
import Derived.Test.YthfmekdbcoaolaaGreatDoorGy32
import Derived.Test.YthfmekdbcoaolaaGreatDoorGy02
import Derived.StillTailTactics
namespace Go.Proofs.YthfmekdbcoaolaaGreatDoor
set_option linter.unusedSimpArgs false
set_option linter.unusedVariables false
open Go.RowKit
open Go.Lib (hid)
theorem tupB_ways (t:Tup):(identB t.id=false/\tupB t=false)\/(identB t.id=true/\textB t.contact=false/\tupB t=false)\/(identB t.id=true/\textB t.contact=true/\textB t.note=false/\tupB t=false) \/
 (identB t.id=true/\textB t.contact=true/\textB t.note=true/\((t.prio < -1/\tupB t=false)\/(¬t.prio < -1/\1000<t.prio/\tupB t=false)\/(¬t.prio < -1/\¬1000<t.prio/\t.contact=[]/\t.prio≠-1/\tupB t=false)\/(¬t.prio < -1/\¬1000<t.prio/\t.contact=[]/\t.prio=-1/\tupB t=true)\/(¬t.prio < -1/\¬1000<t.prio/\t.contact≠[]/\tupB t=true))):=by
 unfold tupB
 cases h1:identB t.id with
 | false=>exact .inl ⟨rfl,rfl⟩
 | true =>
   cases h2:textB t.contact with
   | false=>exact .inr (.inl ⟨rfl,rfl,rfl⟩)
   | true =>
     cases h3:textB t.note with
     | false=>exact .inr (.inr (.inl ⟨rfl,rfl,rfl,rfl⟩))
     | true =>
       refine .inr (.inr (.inr ⟨rfl,rfl,rfl,?_⟩))
       by_cases q1:t.prio < -1
       .exact .inl ⟨q1,by rw [decide_eq_false (p:=-1<=t.prio) (by omega)];rfl⟩
       .by_cases q2:1000<t.prio
        .exact .inr (.inl ⟨q1,q2,by rw [decide_eq_false (p:=t.prio<=1000) (by omega)];simp⟩)
        .have e1:decide (-1<=t.prio)=true:=decide_eq_true (by omega)
         have e2:decide (t.prio<=1000)=true:=decide_eq_true (by omega)
         by_cases q3:t.contact=[]
         .by_cases q4:t.prio=-1
          .exact .inr (.inr (.inr (.inl ⟨q1,q2,q3,q4,by rw [e1,e2,decide_eq_true q4];simp⟩)))
          .exact .inr (.inr (.inl ⟨q1,q2,q3,q4,by rw [e1,e2,decide_eq_false q4,decide_eq_false (fun q=>q q3)];rfl⟩))
         .exact .inr (.inr (.inr (.inr ⟨q1,q2,q3,by rw [e1,e2,decide_eq_true q3];rfl⟩)))
structure RkRel (w:World) (l:List Tup) (j:Nat) (wr:World):Prop where
 be:Below w.heap.size w wr
 to_:TupTo l j
set_option maxRecDepth 100000 in
set_option maxHeartbeats 8000000 in
theorem rcheck_any {w:World} {B:Nat} {d:DocP} {At An:Option Addr} {ct cn:Nat} (hB:B<=w.heap.size) (h:DocB w B d (.slice At d.tups.length ct) (.slice An d.notes.length cn)) (hs:DocS d) (he:d.ent.length<=99999990) :
 Calls Tryz.prog 44 #[.agg #[.string (str d.ent),.slice At d.tups.length ct,.slice An d.notes.length cn]] w fun e w'=>e=.returned (.int .i64 (docE d))/\Below w.heap.size w w':=by
 obtain ⟨⟨At',ct',ht0,_,_,ht⟩,⟨An',cn',hn0,_,_,hn⟩⟩:=h
 injection ht0 with e1 _ e2
 injection hn0 with e3 _ e4
 subst e1 e2 e3 e4
 obtain ⟨w0,hw0⟩:∃ w0,w.alloc (.cells #[.string (str d.ent),.slice At d.tups.length ct,.slice An d.notes.length cn] 39)=w0:=⟨_,rfl⟩
 have hb0:Below w.heap.size w w0:=hw0▸(Below.refl _ _).alloc (Nat.le_refl _) _
 have hk0:Blk w0 w.heap.size 39 #[.string (str d.ent),.slice At d.tups.length ct,.slice An d.notes.length cn]:=hw0▸Blk.new w _ _
 have HB0:=hid hb0
 have HKD:Hid (∀ W,Below w0.heap.size w0 W->Blk W w.heap.size 39 #[.string (str d.ent),.slice At d.tups.length ct,.slice An d.notes.length cn]):=hid (fun W hW=>hk0.fr (Fr.of_below (F:=fun _=>False) hW) (fun h=>h))
 have HT:Hid (∀ W,Below w.heap.size w W->RdB W B 5 d.tups.length At (rows tupC d.tups)):=hid (fun W hW=>ht.below (hW.mono hB))
 have HN:Hid (∀ W,Below w.heap.size w W->RdB W B 1 d.notes.length An (rows noteC d.notes)):=hid (fun W hW=>hn.below (hW.mono hB))
 have HS:=hid hs
 have HH:=hid (fun W=>srHost_any (s:=d.ent) (w:=W) he)
 unfold HostPost hostV at HH
 have HX1:=hid (docE_head (d:=d))
 have HNB:Hid (nameB d.ent=decide ((hostE d.ent).2=0)):=hid rfl
 generalize hh1:(hostE d.ent).1=h1 at *
 generalize hh2:(hostE d.ent).2=er at *
 have c0:=hk0.cell 0
 clear hh1 hh2 hb0 hk0 ht hn hB hs he
 go_enter Tryz.func44,Tryz.ntmps44
 go_upto_region 1 with (fail)
 try rw [hw0]
 clear hw0
 go_wp2_with fail
 refine (HH.out _).mono ?_
 rintro e w1 ⟨rfl,hb1⟩
 have HX:=hid hb1
 clear c0 hb1
 have k1:=HKD.out w1 HX.out
 have c1:=k1.cell 1
 have c2:=k1.cell 2
 clear k1
 by_cases he:er=0
 .have qe:(er != 0)=false:=by simpa using he
  have HNE:=hid (HNB.out.trans (decide_eq_true he))
  clear he
  by_cases ht:d.tups.length<=16
  .have qt:¬((d.tups.length:Int) > 16):=by omega
   by_cases hn:d.notes.length<=16
   .have qn:¬((d.notes.length:Int) > 16):=by omega
    have HR0:Hid (RkRel w0 d.tups 0 w1):=hid ⟨HX.out,TupTo.zero _⟩
    have HE1:=hid (fun (j:Nat) (hj:j<d.tups.length) q=>docE_tup (d:=d) (.inl (tup_bad hj q)))
    have HE2:=hid (fun (j:Nat) (hj:j<d.tups.length) q=>docE_tup (d:=d) (.inr (ids_bad hj q)))
    have HE3:=hid (fun (j:Nat) (hj:j<d.notes.length) q=>docE_note (d:=d) hj q)
    have HE4:=hid (fun q4 q6=>docE_ok HNE.out ht hn (TupTo.all q4).1 (TupTo.all q4).2 q6)
    go_wp2_with fail
    clear c1 c2
    go_loopw [5] (fun i wr=>∃ j:Nat,j<=d.tups.length/\i=.int .i64 j/\RkRel w0 d.tups j wr) (fun i _=>d.tups.length-(intOf i).toNat)
    case atStart=>exact ⟨0,by omega,rfl,HR0.out⟩
    case round =>
     obtain ⟨j,hj,rfl,hR⟩:=hrel
     have HR:=hid hR
     clear hR
     have k1:=(HKD.out wr HR.out.be).cell 1
     by_cases hlt:j<d.tups.length
     .have x1:(j:Int)<d.tups.length:=by omega
      have x0:(0:Int)<=j:=by omega
      obtain ⟨gb,off,rfl,hgb,z0,z1,z2,z3,z4⟩:=tup_at (HT.out wr (thenB_ HB0.out HR.out.be)) hlt
      have hts:=HS.out.tups _ (List.getElem_mem hlt)
      obtain ⟨W0,hW0⟩:∃ W0,wr.alloc (.cells #[.string (str d.tups[j].id),.bool d.tups[j].opn,.string (str d.tups[j].contact),.int .i64 d.tups[j].prio,.string (str d.tups[j].note)] 115)=W0:=⟨_,rfl⟩
      have hbW:Below wr.heap.size wr W0:=hW0▸(Below.refl _ _).alloc (Nat.le_refl _) _
      have hkW:Blk W0 wr.heap.size 115 #[.string (str d.tups[j].id),.bool d.tups[j].opn,.string (str d.tups[j].contact),.int .i64 d.tups[j].prio,.string (str d.tups[j].note)]:=hW0▸Blk.new wr _ _
      have e0:=hkW.cell 0
      have e2:=hkW.cell 2
      have e3:=hkW.cell 3
      have e4:=hkW.cell 4
      have HKW:Hid (∀ W,Below W0.heap.size W0 W->Blk W wr.heap.size 115 #[.string (str d.tups[j].id),.bool d.tups[j].opn,.string (str d.tups[j].contact),.int .i64 d.tups[j].prio,.string (str d.tups[j].note)]):=hid (fun W hW=>hkW.fr (Fr.of_below (F:=fun _=>False) hW) (fun h=>h))
      have HNX:=hid (fun q1 q2=>HR.out.to_.step hlt q1 q2)
      have HBE:=hid (thenB_ HR.out.be hbW)
      have HID:=hid (fun W=>rident_any d.tups[j].id W hts.id)
      have HTC:=hid (fun W=>rText_any d.tups[j].contact W hts.contact)
      have HTN:=hid (fun W=>rText_any d.tups[j].note W hts.note)
      have HBD:=hid (HE1.out j hlt)
      have HEND:Hid (∀ W,Below W0.heap.size W0 W->Below w.heap.size w W):=hid (fun W hW=>thenB_ HB0.out (thenB_ HBE.out hW))
      have HWY:=hid (tupB_ways d.tups[j])
      clear hkW hbW hts
      go_wp2_with fail
      try rw [hW0]
      clear hW0
      refine (HID.out _).mono ?_
      rintro e W1 ⟨rfl,rfl⟩
      rcases HWY.out with ⟨q1,qt⟩|⟨q1,q2,qt⟩|⟨q1,q2,q3,qt⟩|⟨q1,q2,q3,q⟩
      .rw [q1]
       have HZ:=hid (HBD.out qt)
       clear qt q1
       go_wp2
       go_ret
       exact ⟨ret_int HZ.out.symm,HEND.out _ (Below.refl _ _)⟩
      .rw [q1]
       rw [q2] at HTC
       have HZ:=hid (HBD.out qt)
       clear qt q1 q2
       go_wp2_with fail
       refine (HTC.out _).mono ?_
       rintro e W1 ⟨rfl,rfl⟩
       go_wp2
       go_ret
       exact ⟨ret_int HZ.out.symm,HEND.out _ (Below.refl _ _)⟩
      .rw [q1]
       rw [q2] at HTC
       rw [q3] at HTN
       have HZ:=hid (HBD.out qt)
       clear qt q1 q2 q3
       go_wp2_with fail
       refine (HTC.out _).mono ?_
       rintro e W1 ⟨rfl,rfl⟩
       go_wp2_with fail
       refine (HTN.out _).mono ?_
       rintro e W1 ⟨rfl,rfl⟩
       go_wp2
       go_ret
       exact ⟨ret_int HZ.out.symm,HEND.out _ (Below.refl _ _)⟩
      .rw [q1]
       rw [q2] at HTC
       rw [q3] at HTN
       clear q1 q2 q3
       go_wp2_with fail
       refine (HTC.out _).mono ?_
       rintro e W1 ⟨rfl,rfl⟩
       go_wp2_with fail
       refine (HTN.out _).mono ?_
       rintro e W1 ⟨rfl,rfl⟩
       rcases q with ⟨q1,qt⟩|⟨q1,q2,qt⟩|⟨q1,q2,q3,q4,qt⟩|q
       .have HZ:=hid (HBD.out qt)
        clear qt
        go_wp2
        go_ret
        exact ⟨ret_int HZ.out.symm,HEND.out _ (Below.refl _ _)⟩
       .have HZ:=hid (HBD.out qt)
        have q2':d.tups[j].prio > 1000:=by omega
        clear qt
        go_wp2
        go_ret
        exact ⟨ret_int HZ.out.symm,HEND.out _ (Below.refl _ _)⟩
       .have HZ:=hid (HBD.out qt)
        have q2':¬d.tups[j].prio > 1000:=by omega
        have p0:(str d.tups[j].contact).toList.isEmpty=true:=by rw [size_nil];exact decide_eq_true q3
        have p1:(d.tups[j].prio != -1)=true:=by simpa using q4
        clear qt q3 q4
        go_wp2
        go_ret
        exact ⟨ret_int HZ.out.symm,HEND.out _ (Below.refl _ _)⟩
       .have HG:Hid (tupB d.tups[j]=true):=hid (by rcases q with ⟨_,_,_,_,h⟩|⟨_,_,_,h⟩ <;> exact h)
        have HWAY:Hid (¬d.tups[j].prio < -1/\¬d.tups[j].prio > 1000/\((str d.tups[j].contact).toList.isEmpty=true/\(d.tups[j].prio != -1)=false\/(str d.tups[j].contact).toList.isEmpty=false)):=hid (by
         rcases q with ⟨a1,a2,a3,a4,_⟩|⟨a1,a2,a3,_⟩
         .exact ⟨by omega,by omega,.inl ⟨by rw [size_nil];exact decide_eq_true a3,by simpa using a4⟩⟩
         .exact ⟨by omega,by omega,.inr (by rw [size_nil];exact decide_eq_false a3)⟩)
        clear q
        have HIN:Hid (∀ k:Nat,k<=j->(∀ r∈d.tups.take k,r.id≠d.tups[j].id)->∀ W,Below W0.heap.size W0 W->True):=hid (fun _ _ _ _ _=>trivial)
        obtain ⟨p1,p2,p3⟩:=HWAY.out
        rcases p3 with ⟨p3,p4⟩|p3
        .go_wp2
         go_loopw [7] (fun k w5=>∃ i:Nat,i<=j/\k=.int .i64 i/\(∀ r∈d.tups.take i,r.id≠d.tups[j].id)/\Below W0.heap.size W0 w5) (fun k _=>j-(intOf k).toNat)
         case atStart=>exact ⟨0,by omega,rfl,by simp,Below.refl _ _⟩
         case round =>
          obtain ⟨i,hi,rfl,hno,hb5⟩:=hrel
          have HNO:=hid hno
          have HB5:=hid hb5
          clear hno hb5
          by_cases hik:i<j
          .have hil:i<d.tups.length:=by omega
           have y0:(0:Int)<=i:=by omega
           have y1:(i:Int)<(j:Int):=by omega
           have y2:(i:Int)<d.tups.length:=by omega
           have k5:=(HKD.out _ (thenB_ HBE.out HB5.out)).cell 1
           obtain ⟨gb2,off2,e5,_,v0,_⟩:=tup_at (HT.out _ (HEND.out _ HB5.out)) hil
           obtain ⟨rfl,rfl⟩:gb=gb2/\off=off2:=by
            injection e5 with e5
            injection e5 with h1 h2
            exact ⟨h1,h2⟩
           have t0:=(HKW.out _ HB5.out).cell 0
           clear e5
           by_cases hq:d.tups[i].id=d.tups[j].id
           .have HZ:=hid (HE2.out j hlt (hq▸List.mem_map.2 ⟨_,List.mem_take_iff_getElem.2 ⟨i,by omega,rfl⟩,rfl⟩))
            have r1:((str d.tups[i].id).toList == (str d.tups[j].id).toList)=true:=by rw [hq];exact beq_self_eq_true _
            have r2:(str d.tups[i].id).toList=(str d.tups[j].id).toList:=by rw [hq]
            clear hq
            go_wp2
            go_quiet (fail)
            go_wp2
            go_ret
            exact ⟨ret_int HZ.out.symm,HEND.out _ (below_drewN HB5.out _)⟩
           .have HN2:Hid (∀ r∈d.tups.take (i+1),r.id≠d.tups[j].id):=hid (fun r hr=>by
             rw [List.take_succ_eq_append_getElem hil] at hr
             rcases List.mem_append.1 hr with h|h
             .exact HNO.out r h
             .rw [List.mem_singleton] at h;subst h;exact hq)
            have r1:=bs_neb hq
            have r2:=bs_ne hq
            clear hq
            go_wp2
            go_quiet (fail)
            go_wp2
            go_roundw
            case rel=>exact ⟨i+1,by omega,by go_num,HN2.out,below_drewN HB5.out _⟩
            case measure=>simp [intOf] <;> omega
          .obtain rfl:i=j:=by omega
           have HNXT:=hid (HNX.out HG.out (fun hm=>by
            obtain ⟨r,hr,e⟩:=List.mem_map.1 hm
            exact HNO.out r hr e))
           have HBF:=hid (thenB_ HBE.out HB5.out)
           have y1:¬(i:Int)<(i:Int):=by omega
           go_wp2
           go_roundw
           case rel=>exact ⟨i+1,by omega,by go_num,HBF.out,HNXT.out⟩
           case measure=>simp [intOf] <;> omega
        .go_wp2
         go_loopw [7] (fun k w5=>∃ i:Nat,i<=j/\k=.int .i64 i/\(∀ r∈d.tups.take i,r.id≠d.tups[j].id)/\Below W0.heap.size W0 w5) (fun k _=>j-(intOf k).toNat)
         case atStart=>exact ⟨0,by omega,rfl,by simp,Below.refl _ _⟩
         case round =>
          obtain ⟨i,hi,rfl,hno,hb5⟩:=hrel
          have HNO:=hid hno
          have HB5:=hid hb5
          clear hno hb5
          by_cases hik:i<j
          .have hil:i<d.tups.length:=by omega
           have y0:(0:Int)<=i:=by omega
           have y1:(i:Int)<(j:Int):=by omega
           have y2:(i:Int)<d.tups.length:=by omega
           have k5:=(HKD.out _ (thenB_ HBE.out HB5.out)).cell 1
           obtain ⟨gb2,off2,e5,_,v0,_⟩:=tup_at (HT.out _ (HEND.out _ HB5.out)) hil
           obtain ⟨rfl,rfl⟩:gb=gb2/\off=off2:=by
            injection e5 with e5
            injection e5 with h1 h2
            exact ⟨h1,h2⟩
           have t0:=(HKW.out _ HB5.out).cell 0
           clear e5
           by_cases hq:d.tups[i].id=d.tups[j].id
           .have HZ:=hid (HE2.out j hlt (hq▸List.mem_map.2 ⟨_,List.mem_take_iff_getElem.2 ⟨i,by omega,rfl⟩,rfl⟩))
            have r1:((str d.tups[i].id).toList == (str d.tups[j].id).toList)=true:=by rw [hq];exact beq_self_eq_true _
            have r2:(str d.tups[i].id).toList=(str d.tups[j].id).toList:=by rw [hq]
            clear hq
            go_wp2
            go_quiet (fail)
            go_wp2
            go_ret
            exact ⟨ret_int HZ.out.symm,HEND.out _ (below_drewN HB5.out _)⟩
           .have HN2:Hid (∀ r∈d.tups.take (i+1),r.id≠d.tups[j].id):=hid (fun r hr=>by
             rw [List.take_succ_eq_append_getElem hil] at hr
             rcases List.mem_append.1 hr with h|h
             .exact HNO.out r h
             .rw [List.mem_singleton] at h;subst h;exact hq)
            have r1:=bs_neb hq
            have r2:=bs_ne hq
            clear hq
            go_wp2
            go_quiet (fail)
            go_wp2
            go_roundw
            case rel=>exact ⟨i+1,by omega,by go_num,HN2.out,below_drewN HB5.out _⟩
            case measure=>simp [intOf] <;> omega
          .obtain rfl:i=j:=by omega
           have HNXT:=hid (HNX.out HG.out (fun hm=>by
            obtain ⟨r,hr,e⟩:=List.mem_map.1 hm
            exact HNO.out r hr e))
           have HBF:=hid (thenB_ HBE.out HB5.out)
           have y1:¬(i:Int)<(i:Int):=by omega
           go_wp2
           go_roundw
           case rel=>exact ⟨i+1,by omega,by go_num,HBF.out,HNXT.out⟩
           case measure=>simp [intOf] <;> omega
     .have x1:¬(j:Int)<d.tups.length:=by omega
      obtain rfl:j=d.tups.length:=by omega
      have HOK:=hid (HE4.out HR.out.to_)
      have HBR:=hid HR.out.be
      have k2:=(HKD.out wr HBR.out).cell 2
      clear hlt hj HR
      go_wp2_with fail
      go_loopw [8] (fun i w5=>∃ k:Nat,k<=d.notes.length/\i=.int .i64 k/\(∀ s∈d.notes.take k,noteB s=true)/\Below w0.heap.size w0 w5) (fun i _=>d.notes.length-(intOf i).toNat)
      case atStart=>exact ⟨0,by omega,rfl,by simp,HBR.out⟩
      case round =>
       obtain ⟨k,hk,rfl,hno,hb5⟩:=hrel
       have HNO:=hid hno
       have HB5:=hid hb5
       clear hno hb5 k2
       have k2:=(HKD.out _ HB5.out).cell 2
       by_cases hlt:k<d.notes.length
       .have y1:(k:Int)<d.notes.length:=by omega
        have y0:(0:Int)<=k:=by omega
        obtain ⟨gb,off,rfl,hgb,z0⟩:=note_at (HN.out _ (thenB_ HB0.out HB5.out)) hlt
        have hns:=HS.out.notes _ (List.getElem_mem hlt)
        have HTX:=hid (fun W=>rText_any d.notes[k] W hns)
        have HBD:=hid (HE3.out k hlt)
        have HGO:Hid (noteB d.notes[k]=true->∀ s∈d.notes.take (k+1),noteB s=true):=hid (fun q s hs=>by
         rw [List.take_succ_eq_append_getElem hlt] at hs
         rcases List.mem_append.1 hs with h|h
         .exact HNO.out s h
         .simp at h;subst h;exact q)
        have hnb:Hid (noteB d.notes[k]=(decide (d.notes[k]≠[])&&textB d.notes[k])):=hid rfl
        by_cases hem:d.notes[k]=[]
        .have q0:(str d.notes[k]).toList.isEmpty=true:=by rw [size_nil];exact decide_eq_true hem
         have HZ:=hid (HBD.out (by rw [hnb.out,decide_eq_false (fun q=>q hem)];rfl))
         clear hem hns
         go_wp2
         go_ret
         exact ⟨ret_int HZ.out.symm,thenB_ HB0.out HB5.out⟩
        .have q0:(str d.notes[k]).toList.isEmpty=false:=by rw [size_nil];exact decide_eq_false hem
         have hnb2:Hid (noteB d.notes[k]=textB d.notes[k]):=hid (by rw [hnb.out,decide_eq_true hem];rfl)
         clear hem hns
         go_wp2_with fail
         refine (HTX.out _).mono ?_
         rintro e w6 ⟨rfl,rfl⟩
         generalize htb:textB d.notes[k]=tb at *
         cases tb with
         | false =>
           have HZ:=hid (HBD.out hnb2.out)
           clear htb
           go_wp2
           go_ret
           exact ⟨ret_int HZ.out.symm,thenB_ HB0.out HB5.out⟩
         | true =>
           have HZ:=hid (HGO.out hnb2.out)
           clear htb
           go_wp2
           go_roundw
           case rel=>exact ⟨k+1,by omega,by go_num,HZ.out,HB5.out⟩
           case measure=>simp [intOf] <;> omega
       .have y1:¬(k:Int)<d.notes.length:=by omega
        have HZ:=hid (HOK.out (List.all_eq_true.2 (by have:=HNO.out;rwa [List.take_of_length_le (by omega)] at this)))
        go_wp2
        go_ret
        exact ⟨ret_int HZ.out.symm,thenB_ HB0.out HB5.out⟩
   .have qn:((d.notes.length:Int) > 16):=by omega
    have HZ:=hid (HX1.out (fun q=>by omega))
    go_wp2
    go_ret
    exact ⟨ret_int HZ.out.symm,thenB_ HB0.out HX.out⟩
  .have qt:((d.tups.length:Int) > 16):=by omega
   have HZ:=hid (HX1.out (fun q=>by omega))
   go_wp2
   go_ret
   exact ⟨ret_int HZ.out.symm,thenB_ HB0.out HX.out⟩
 .have qe:(er != 0)=true:=by simpa using he
  have HZ:=hid (HX1.out (fun q=>by have:=q.1;rw [HNB.out,decide_eq_false he] at this;cases this))
  clear he
  go_wp2
  go_ret
  exact ⟨ret_int HZ.out.symm,thenB_ HB0.out HX.out⟩
theorem set9_blk {W:World} {g:Nat} {T:TypeId} {x0 x1 x2 x3 x4 x5 x6 x7 x8:Value} (h:Blk W g T #[x0,x1,x2,x3,x4,x5,x6,x7,x8]) (y0 y1 y2 y3 y4 y5 y6 y7 y8:Value):Blk (((((((((W.setCell ⟨g,0,none⟩ y0).setCell ⟨g,1,none⟩ y1).setCell ⟨g,2,none⟩ y2).setCell ⟨g,3,none⟩ y3).setCell ⟨g,4,none⟩ y4).setCell ⟨g,5,none⟩ y5).setCell ⟨g,6,none⟩ y6).setCell ⟨g,7,none⟩ y7).setCell ⟨g,8,none⟩ y8) g T #[y0,y1,y2,y3,y4,y5,y6,y7,y8]:=by
 have h0:Blk (W.setCell ⟨g,0,none⟩ y0) g T #[y0,x1,x2,x3,x4,x5,x6,x7,x8]:=h.set_ 0 y0
 have h1:Blk ((W.setCell ⟨g,0,none⟩ y0).setCell ⟨g,1,none⟩ y1) g T #[y0,y1,x2,x3,x4,x5,x6,x7,x8]:=h0.set_ 1 y1
 have h2:Blk (((W.setCell ⟨g,0,none⟩ y0).setCell ⟨g,1,none⟩ y1).setCell ⟨g,2,none⟩ y2) g T #[y0,y1,y2,x3,x4,x5,x6,x7,x8]:=h1.set_ 2 y2
 have h3:Blk ((((W.setCell ⟨g,0,none⟩ y0).setCell ⟨g,1,none⟩ y1).setCell ⟨g,2,none⟩ y2).setCell ⟨g,3,none⟩ y3) g T #[y0,y1,y2,y3,x4,x5,x6,x7,x8]:=h2.set_ 3 y3
 have h4:Blk (((((W.setCell ⟨g,0,none⟩ y0).setCell ⟨g,1,none⟩ y1).setCell ⟨g,2,none⟩ y2).setCell ⟨g,3,none⟩ y3).setCell ⟨g,4,none⟩ y4) g T #[y0,y1,y2,y3,y4,x5,x6,x7,x8]:=h3.set_ 4 y4
 have h5:Blk ((((((W.setCell ⟨g,0,none⟩ y0).setCell ⟨g,1,none⟩ y1).setCell ⟨g,2,none⟩ y2).setCell ⟨g,3,none⟩ y3).setCell ⟨g,4,none⟩ y4).setCell ⟨g,5,none⟩ y5) g T #[y0,y1,y2,y3,y4,y5,x6,x7,x8]:=h4.set_ 5 y5
 have h6:Blk (((((((W.setCell ⟨g,0,none⟩ y0).setCell ⟨g,1,none⟩ y1).setCell ⟨g,2,none⟩ y2).setCell ⟨g,3,none⟩ y3).setCell ⟨g,4,none⟩ y4).setCell ⟨g,5,none⟩ y5).setCell ⟨g,6,none⟩ y6) g T #[y0,y1,y2,y3,y4,y5,y6,x7,x8]:=h5.set_ 6 y6
 have h7:Blk ((((((((W.setCell ⟨g,0,none⟩ y0).setCell ⟨g,1,none⟩ y1).setCell ⟨g,2,none⟩ y2).setCell ⟨g,3,none⟩ y3).setCell ⟨g,4,none⟩ y4).setCell ⟨g,5,none⟩ y5).setCell ⟨g,6,none⟩ y6).setCell ⟨g,7,none⟩ y7) g T #[y0,y1,y2,y3,y4,y5,y6,y7,x8]:=h6.set_ 7 y7
 have h8:Blk (((((((((W.setCell ⟨g,0,none⟩ y0).setCell ⟨g,1,none⟩ y1).setCell ⟨g,2,none⟩ y2).setCell ⟨g,3,none⟩ y3).setCell ⟨g,4,none⟩ y4).setCell ⟨g,5,none⟩ y5).setCell ⟨g,6,none⟩ y6).setCell ⟨g,7,none⟩ y7).setCell ⟨g,8,none⟩ y8) g T #[y0,y1,y2,y3,y4,y5,y6,y7,y8]:=h7.set_ 8 y8
 exact h8
theorem set4_blk {W:World} {g:Nat} {T:TypeId} {u0 u1 u2 u3:Value} (h:Blk W g T #[u0,u1,u2,u3]) (z0 z1 z2 z3:Value):Blk ((((W.setCell ⟨g,0,none⟩ z0).setCell ⟨g,1,none⟩ z1).setCell ⟨g,2,none⟩ z2).setCell ⟨g,3,none⟩ z3) g T #[z0,z1,z2,z3]:=by
 have h0:Blk (W.setCell ⟨g,0,none⟩ z0) g T #[z0,u1,u2,u3]:=h.set_ 0 z0
 have h1:Blk ((W.setCell ⟨g,0,none⟩ z0).setCell ⟨g,1,none⟩ z1) g T #[z0,z1,u2,u3]:=h0.set_ 1 z1
 have h2:Blk (((W.setCell ⟨g,0,none⟩ z0).setCell ⟨g,1,none⟩ z1).setCell ⟨g,2,none⟩ z2) g T #[z0,z1,z2,u3]:=h1.set_ 2 z2
 have h3:Blk ((((W.setCell ⟨g,0,none⟩ z0).setCell ⟨g,1,none⟩ z1).setCell ⟨g,2,none⟩ z2).setCell ⟨g,3,none⟩ z3) g T #[z0,z1,z2,z3]:=h2.set_ 3 z3
 exact h3
theorem set9_fr (W:World) (g:Nat) (y0 y1 y2 y3 y4 y5 y6 y7 y8:Value):Fr (fun k=>k=g) W (((((((((W.setCell ⟨g,0,none⟩ y0).setCell ⟨g,1,none⟩ y1).setCell ⟨g,2,none⟩ y2).setCell ⟨g,3,none⟩ y3).setCell ⟨g,4,none⟩ y4).setCell ⟨g,5,none⟩ y5).setCell ⟨g,6,none⟩ y6).setCell ⟨g,7,none⟩ y7).setCell ⟨g,8,none⟩ y8):=((((((((((Fr.refl (fun k=>k=g) W).set (p:=⟨g,0,none⟩) (fun _=>rfl) _).set (p:=⟨g,1,none⟩) (fun _=>rfl) _).set (p:=⟨g,2,none⟩) (fun _=>rfl) _).set (p:=⟨g,3,none⟩) (fun _=>rfl) _).set (p:=⟨g,4,none⟩) (fun _=>rfl) _).set (p:=⟨g,5,none⟩) (fun _=>rfl) _).set (p:=⟨g,6,none⟩) (fun _=>rfl) _).set (p:=⟨g,7,none⟩) (fun _=>rfl) _).set (p:=⟨g,8,none⟩) (fun _=>rfl) _)
theorem set4_fr (W:World) (g:Nat) (z0 z1 z2 z3:Value):Fr (fun k=>k=g) W ((((W.setCell ⟨g,0,none⟩ z0).setCell ⟨g,1,none⟩ z1).setCell ⟨g,2,none⟩ z2).setCell ⟨g,3,none⟩ z3):=(((((Fr.refl (fun k=>k=g) W).set (p:=⟨g,0,none⟩) (fun _=>rfl) _).set (p:=⟨g,1,none⟩) (fun _=>rfl) _).set (p:=⟨g,2,none⟩) (fun _=>rfl) _).set (p:=⟨g,3,none⟩) (fun _=>rfl) _)
theorem set9_fr23 (W:World) (g:Nat) (y0 y1 y2 y3 y4 y5 y6 y7 y8:Value) (G:Nat) (hg:g=G+2):Fr (fun k=>k=G+2\/k=G+3) W (((((((((W.setCell ⟨g,0,none⟩ y0).setCell ⟨g,1,none⟩ y1).setCell ⟨g,2,none⟩ y2).setCell ⟨g,3,none⟩ y3).setCell ⟨g,4,none⟩ y4).setCell ⟨g,5,none⟩ y5).setCell ⟨g,6,none⟩ y6).setCell ⟨g,7,none⟩ y7).setCell ⟨g,8,none⟩ y8):=(set9_fr W g y0 y1 y2 y3 y4 y5 y6 y7 y8).mono (fun k _ e=>.inl (by omega))
theorem set4_fr23 (W:World) (g:Nat) (z0 z1 z2 z3:Value) (G:Nat) (hg:g=G+3):Fr (fun k=>k=G+2\/k=G+3) W ((((W.setCell ⟨g,0,none⟩ z0).setCell ⟨g,1,none⟩ z1).setCell ⟨g,2,none⟩ z2).setCell ⟨g,3,none⟩ z3):=(set4_fr W g z0 z1 z2 z3).mono (fun k _ e=>.inr (by omega))
def RDoPost (N:Nat->Prop) (B:Nat) (c:Conf) (r:DoR) (w:World) (e:Ending) (w':World):Prop:=∃ v',e=.returned (.tuple #[.agg (rsV c r.last v'),.agg #[.int .i64 r.told.status,.int .i64 r.told.exp,.string (str r.told.tag),.bool r.told.changed],.int .i64 r.err])/\NewL w N B r.L v' w'
structure RBox (w W0:World) (c:Conf) (last:Int) (v:Value) (a:AskP) (At An:Option Addr) (ct cn:Nat) (W:World):Prop where
 s:Blk W w.heap.size 60 (rsV c last v)
 a:Blk W (w.heap.size+1) 42 #[.string (str a.who),.string (str a.mtch),.int .i64 a.exp,.bool a.has,.string (str a.doc.ent),.slice At a.doc.tups.length ct,.slice An a.doc.notes.length cn,.string (str a.tag)]
 r:Blk W (w.heap.size+2) 60 #[.string ⟨#[]⟩,.int .i64 0,.int .i64 0,.int .i64 0,.int .i64 0,.int .i64 0,.int .i64 0,.int .i64 0,.slice none 0 0]
 t:Blk W (w.heap.size+3) 33 #[.int .i64 0,.int .i64 0,.string ⟨#[]⟩,.bool false]
 be:Below w.heap.size w W
theorem rdo_box {w W0:World} {c:Conf} {last:Int} {v:Value} {a:AskP} {At An:Option Addr} {ct cn:Nat} (h:((((w.alloc (.cells (rsV c last v) 60)).alloc (.cells #[.string (str a.who),.string (str a.mtch),.int .i64 a.exp,.bool a.has,.string (str a.doc.ent),.slice At a.doc.tups.length ct,.slice An a.doc.notes.length cn,.string (str a.tag)] 42)).alloc (.cells #[.string ⟨#[]⟩,.int .i64 0,.int .i64 0,.int .i64 0,.int .i64 0,.int .i64 0,.int .i64 0,.int .i64 0,.slice none 0 0] 60)).alloc (.cells #[.int .i64 0,.int .i64 0,.string ⟨#[]⟩,.bool false] 33))=W0) :
 ∀ W,Below W0.heap.size W0 W->RBox w W0 c last v a At An ct cn W:=by
 subst h
 intro W hW
 have hs:((((w.alloc (.cells (rsV c last v) 60)).alloc (.cells #[.string (str a.who),.string (str a.mtch),.int .i64 a.exp,.bool a.has,.string (str a.doc.ent),.slice At a.doc.tups.length ct,.slice An a.doc.notes.length cn,.string (str a.tag)] 42)).alloc (.cells #[.string ⟨#[]⟩,.int .i64 0,.int .i64 0,.int .i64 0,.int .i64 0,.int .i64 0,.int .i64 0,.int .i64 0,.slice none 0 0] 60)).alloc (.cells #[.int .i64 0,.int .i64 0,.string ⟨#[]⟩,.bool false] 33)).heap.size=w.heap.size+4:=by simp
 have f:=Fr.of_below (F:=fun _=>False) hW
 have b:=((((Below.refl w.heap.size w).alloc (Nat.le_refl _) (.cells (rsV c last v) 60)).alloc (by simp) (.cells #[.string (str a.who),.string (str a.mtch),.int .i64 a.exp,.bool a.has,.string (str a.doc.ent),.slice At a.doc.tups.length ct,.slice An a.doc.notes.length cn,.string (str a.tag)] 42)).alloc (by simp <;> omega) (.cells #[.string ⟨#[]⟩,.int .i64 0,.int .i64 0,.int .i64 0,.int .i64 0,.int .i64 0,.int .i64 0,.int .i64 0,.slice none 0 0] 60)).alloc (by simp <;> omega) (.cells #[.int .i64 0,.int .i64 0,.string ⟨#[]⟩,.bool false] 33)
 refine ⟨?_,?_,?_,?_,b.trans (hW.mono (by omega))⟩
 .exact ((((Blk.new w _ _).alloc _).alloc _).alloc _).fr f (fun h=>h)
 .exact (((Blk.new' (w.alloc _) _ _ (by simp)).alloc _).alloc _).fr f (fun h=>h)
 .exact ((Blk.new' ((w.alloc _).alloc _) _ _ (by simp)).alloc _).fr f (fun h=>h)
 .exact (Blk.new' (((w.alloc _).alloc _).alloc _) _ _ (by simp)).fr f (fun h=>h)
theorem RBox.sc {w W0 W:World} {c:Conf} {last:Int} {v:Value} {a:AskP} {At An:Option Addr} {ct cn:Nat} (h:RBox w W0 c last v a At An ct cn W):W.cell? ⟨w.heap.size,0,none⟩=some (.string (str c.host))/\W.cell? ⟨w.heap.size,1,none⟩=some (.int .i64 c.calls)/\W.cell? ⟨w.heap.size,2,none⟩=some (.int .i64 c.pubs)/\W.cell? ⟨w.heap.size,3,none⟩=some (.int .i64 c.subs)/\W.cell? ⟨w.heap.size,4,none⟩=some (.int .i64 c.least)/\W.cell? ⟨w.heap.size,5,none⟩=some (.int .i64 c.most)/\W.cell? ⟨w.heap.size,6,none⟩=some (.int .i64 c.usual)/\W.cell? ⟨w.heap.size,7,none⟩=some (.int .i64 last)/\W.cell? ⟨w.heap.size,8,none⟩=some v:=⟨h.s.cell 0,h.s.cell 1,h.s.cell 2,h.s.cell 3,h.s.cell 4,h.s.cell 5,h.s.cell 6,h.s.cell 7,h.s.cell 8⟩
theorem RBox.ac {w W0 W:World} {c:Conf} {last:Int} {v:Value} {a:AskP} {At An:Option Addr} {ct cn:Nat} (h:RBox w W0 c last v a At An ct cn W):W.cell? ⟨w.heap.size+1,0,none⟩=some (.string (str a.who))/\W.cell? ⟨w.heap.size+1,1,none⟩=some (.string (str a.mtch))/\W.cell? ⟨w.heap.size+1,2,none⟩=some (.int .i64 a.exp)/\W.cell? ⟨w.heap.size+1,3,none⟩=some (.bool a.has)/\W.cell? ⟨w.heap.size+1,4,none⟩=some (.string (str a.doc.ent))/\W.cell? ⟨w.heap.size+1,5,none⟩=some (.slice At a.doc.tups.length ct)/\W.cell? ⟨w.heap.size+1,6,none⟩=some (.slice An a.doc.notes.length cn)/\W.cell? ⟨w.heap.size+1,7,none⟩=some (.string (str a.tag)):=⟨h.a.cell 0,h.a.cell 1,h.a.cell 2,h.a.cell 3,h.a.cell 4,h.a.cell 5,h.a.cell 6,h.a.cell 7⟩
theorem RBox.rc {w W0 W:World} {c:Conf} {last:Int} {v:Value} {a:AskP} {At An:Option Addr} {ct cn:Nat} (h:RBox w W0 c last v a At An ct cn W):W.cell? ⟨w.heap.size+2,0,none⟩=some (.string ⟨#[]⟩)/\W.cell? ⟨w.heap.size+2,1,none⟩=some (.int .i64 0)/\W.cell? ⟨w.heap.size+2,2,none⟩=some (.int .i64 0)/\W.cell? ⟨w.heap.size+2,3,none⟩=some (.int .i64 0)/\W.cell? ⟨w.heap.size+2,4,none⟩=some (.int .i64 0)/\W.cell? ⟨w.heap.size+2,5,none⟩=some (.int .i64 0)/\W.cell? ⟨w.heap.size+2,6,none⟩=some (.int .i64 0)/\W.cell? ⟨w.heap.size+2,7,none⟩=some (.int .i64 0)/\W.cell? ⟨w.heap.size+2,8,none⟩=some (.slice none 0 0)/\W.frozen? ⟨w.heap.size+2,0,none⟩=false/\W.frozen? ⟨w.heap.size+2,1,none⟩=false/\W.frozen? ⟨w.heap.size+2,2,none⟩=false/\W.frozen? ⟨w.heap.size+2,3,none⟩=false/\W.frozen? ⟨w.heap.size+2,4,none⟩=false/\W.frozen? ⟨w.heap.size+2,5,none⟩=false/\W.frozen? ⟨w.heap.size+2,6,none⟩=false/\W.frozen? ⟨w.heap.size+2,7,none⟩=false/\W.frozen? ⟨w.heap.size+2,8,none⟩=false:=⟨h.r.cell 0,h.r.cell 1,h.r.cell 2,h.r.cell 3,h.r.cell 4,h.r.cell 5,h.r.cell 6,h.r.cell 7,h.r.cell 8,h.r.frozen 0,h.r.frozen 1,h.r.frozen 2,h.r.frozen 3,h.r.frozen 4,h.r.frozen 5,h.r.frozen 6,h.r.frozen 7,h.r.frozen 8⟩
theorem RBox.tc {w W0 W:World} {c:Conf} {last:Int} {v:Value} {a:AskP} {At An:Option Addr} {ct cn:Nat} (h:RBox w W0 c last v a At An ct cn W):W.cell? ⟨w.heap.size+3,0,none⟩=some (.int .i64 0)/\W.cell? ⟨w.heap.size+3,1,none⟩=some (.int .i64 0)/\W.cell? ⟨w.heap.size+3,2,none⟩=some (.string ⟨#[]⟩)/\W.cell? ⟨w.heap.size+3,3,none⟩=some (.bool false)/\W.frozen? ⟨w.heap.size+3,0,none⟩=false/\W.frozen? ⟨w.heap.size+3,1,none⟩=false/\W.frozen? ⟨w.heap.size+3,2,none⟩=false/\W.frozen? ⟨w.heap.size+3,3,none⟩=false:=⟨h.t.cell 0,h.t.cell 1,h.t.cell 2,h.t.cell 3,h.t.frozen 0,h.t.frozen 1,h.t.frozen 2,h.t.frozen 3⟩
theorem rdo_end {w W0 W:World} {N:Nat->Prop} {B:Nat} {c:Conf} {last last' now:Int} {L L':List Pub} {v v':Value} {a:AskP} {At An:Option Addr} {ct cn:Nat} {st ex er:Int} {tg:T} {s:ByteArray} {ch:Bool} (hs:str tg=s) (hb:RBox w W0 c last v a At An ct cn W) (hB:B<=w.heap.size) (hd:doR c last L now a=⟨last',L',⟨st,ex,tg,ch⟩,er⟩) (hr:RL W (fun k=>k<w.heap.size/\N k\/w.heap.size+4<=k) B L' v') (Wf:World)
 (hW:Wf=(((((((((((((W.setCell ⟨(w.heap.size+2),0,none⟩ (.string (str c.host))).setCell ⟨(w.heap.size+2),1,none⟩ (.int .i64 c.calls)).setCell ⟨(w.heap.size+2),2,none⟩ (.int .i64 c.pubs)).setCell ⟨(w.heap.size+2),3,none⟩ (.int .i64 c.subs)).setCell ⟨(w.heap.size+2),4,none⟩ (.int .i64 c.least)).setCell ⟨(w.heap.size+2),5,none⟩ (.int .i64 c.most)).setCell ⟨(w.heap.size+2),6,none⟩ (.int .i64 c.usual)).setCell ⟨(w.heap.size+2),7,none⟩ (.int .i64 last')).setCell ⟨(w.heap.size+2),8,none⟩ v').setCell ⟨(w.heap.size+3),0,none⟩ (.int .i64 st)).setCell ⟨(w.heap.size+3),1,none⟩ (.int .i64 ex)).setCell ⟨(w.heap.size+3),2,none⟩ (.string s)).setCell ⟨(w.heap.size+3),3,none⟩ (.bool ch))\/Wf=(((((((((((((W.setCell ⟨(w.heap.size+3),0,none⟩ (.int .i64 st)).setCell ⟨(w.heap.size+3),1,none⟩ (.int .i64 ex)).setCell ⟨(w.heap.size+3),2,none⟩ (.string s)).setCell ⟨(w.heap.size+3),3,none⟩ (.bool ch)).setCell ⟨(w.heap.size+2),0,none⟩ (.string (str c.host))).setCell ⟨(w.heap.size+2),1,none⟩ (.int .i64 c.calls)).setCell ⟨(w.heap.size+2),2,none⟩ (.int .i64 c.pubs)).setCell ⟨(w.heap.size+2),3,none⟩ (.int .i64 c.subs)).setCell ⟨(w.heap.size+2),4,none⟩ (.int .i64 c.least)).setCell ⟨(w.heap.size+2),5,none⟩ (.int .i64 c.most)).setCell ⟨(w.heap.size+2),6,none⟩ (.int .i64 c.usual)).setCell ⟨(w.heap.size+2),7,none⟩ (.int .i64 last')).setCell ⟨(w.heap.size+2),8,none⟩ v')) :
 (Wf.cell? ⟨w.heap.size+2,0,none⟩=some (.string (str c.host))/\Wf.cell? ⟨w.heap.size+2,1,none⟩=some (.int .i64 c.calls)/\Wf.cell? ⟨w.heap.size+2,2,none⟩=some (.int .i64 c.pubs)/\Wf.cell? ⟨w.heap.size+2,3,none⟩=some (.int .i64 c.subs)/\Wf.cell? ⟨w.heap.size+2,4,none⟩=some (.int .i64 c.least)/\Wf.cell? ⟨w.heap.size+2,5,none⟩=some (.int .i64 c.most)/\Wf.cell? ⟨w.heap.size+2,6,none⟩=some (.int .i64 c.usual)/\Wf.cell? ⟨w.heap.size+2,7,none⟩=some (.int .i64 last')/\Wf.cell? ⟨w.heap.size+2,8,none⟩=some v'/\Wf.cell? ⟨w.heap.size+3,0,none⟩=some (.int .i64 st)/\Wf.cell? ⟨w.heap.size+3,1,none⟩=some (.int .i64 ex)/\Wf.cell? ⟨w.heap.size+3,2,none⟩=some (.string s)/\Wf.cell? ⟨w.heap.size+3,3,none⟩=some (.bool ch))/\RDoPost N B c (doR c last L now a) w (.returned (.tuple #[.agg (rsV c last' v'),.agg #[.int .i64 st,.int .i64 ex,.string s,.bool ch],.int .i64 er])) Wf:=by
 have hfr:Fr (fun k=>k=w.heap.size+2\/k=w.heap.size+3) W Wf:=by
  rcases hW with rfl|rfl
  .exact (Fr.mono (set9_fr W _ _ _ _ _ _ _ _ _ _) (fun k _ e=>.inl e)).trans (Fr.mono (set4_fr _ _ _ _ _ _) (fun k _ e=>.inr e)) (fun _ _ e=>e)
  .exact (Fr.mono (set4_fr W _ _ _ _ _) (fun k _ e=>.inr e)).trans (Fr.mono (set9_fr _ _ _ _ _ _ _ _ _ _ _) (fun k _ e=>.inl e)) (fun _ _ e=>e)
 have hr2:Blk Wf (w.heap.size+2) 60 #[(.string (str c.host)),(.int .i64 c.calls),(.int .i64 c.pubs),(.int .i64 c.subs),(.int .i64 c.least),(.int .i64 c.most),(.int .i64 c.usual),(.int .i64 last'),v']:=by
  rcases hW with rfl|rfl
  .exact (set9_blk hb.r _ _ _ _ _ _ _ _ _).fr (set4_fr _ _ _ _ _ _) (by show ¬w.heap.size+2=w.heap.size+3;omega)
  .exact set9_blk (hb.r.fr (set4_fr _ _ _ _ _ _) (by show ¬w.heap.size+2=w.heap.size+3;omega)) _ _ _ _ _ _ _ _ _
 have ht2:Blk Wf (w.heap.size+3) 33 #[(.int .i64 st),(.int .i64 ex),(.string s),(.bool ch)]:=by
  rcases hW with rfl|rfl
  .exact set4_blk (hb.t.fr (set9_fr _ _ _ _ _ _ _ _ _ _ _) (by show ¬w.heap.size+3=w.heap.size+2;omega)) _ _ _ _
  .exact (set4_blk hb.t _ _ _ _).fr (set9_fr _ _ _ _ _ _ _ _ _ _ _) (by show ¬w.heap.size+3=w.heap.size+2;omega)
 have hsz:=hb.be.size
 refine ⟨⟨hr2.cell 0,hr2.cell 1,hr2.cell 2,hr2.cell 3,hr2.cell 4,hr2.cell 5,hr2.cell 6,hr2.cell 7,hr2.cell 8,ht2.cell 0,ht2.cell 1,ht2.cell 2,ht2.cell 3⟩,v',by rw [hd,<-hs],?_,hb.be.trans (hfr.to_below hsz (fun k e=>by omega))⟩
 rw [hd]
 refine (hr.fr hfr (fun k q e=>by omega) (hfr.to_below (Nat.le_trans hB hsz) (fun k e=>by omega))).mono (fun k _ q=>?_)
 rcases q with q|q
 .exact .inl q.2
 .exact .inr (by omega)
theorem RL.drew_ {w:World} {N:Nat->Prop} {B:Nat} {L:List Pub} {v:Value} (h:RL w N B L v):RL w.drew N B L v:=h.fr ((Fr.refl (fun _=>False) w).drew) (fun _ _ h=>h) (Below.refl _ _).drew
theorem rdo_drew {N:Nat->Prop} {B:Nat} {c:Conf} {r:DoR} {w Wf:World} {e:Ending} (h:RDoPost N B c r w e Wf):RDoPost N B c r w e Wf.drew:=by
 obtain ⟨v',h1,h2,h3⟩:=h
 exact ⟨v',h1,h2.drew_,h3.drew⟩
theorem rl_own {Wb:World} {base B:Nat} {v:Value} {xs:List RP} {N':Nat->Prop} (h:Wb.ownsRow base 66 7 v xs.length (rows rpC xs)) (hN:∀ k,base<=k->N' k) (hd:∀ x∈xs,DocB Wb B x.p.doc x.vt x.vn):RL Wb N' B (xs.map (·.p)) v:=by
 obtain ⟨A,c,rfl,h1,h2,h3⟩:=RdV.of_own h
 refine ⟨xs,A,c,rfl,rfl,h1,h2,h3,fun hn a ha=>?_,hd⟩
 subst ha
 exact hN _ (h.lt _ rfl).1
theorem rpC_one (x:RP) (h1:x.vt.oneCell'=true) (h2:x.vn.oneCell'=true):∀ u∈rpC x,u.oneCell'=true:=by
 intro u hu
 simp [rpC] at hu
 rcases hu with rfl|rfl|rfl|rfl|rfl|rfl|rfl <;> first|rfl|exact h1|exact h2
theorem rows_one':∀ xs:List RP,(∀ x∈xs,x.vt.oneCell'=true/\x.vn.oneCell'=true)->∀ u∈rows rpC xs,u.oneCell'=true
 | [],_=>by simp [rows]
 | x::r,h=>by
   intro u hu
   rw [rows_cons] at hu
   rcases List.mem_append.1 hu with q|q
   .exact rpC_one x (h x List.mem_cons_self).1 (h x List.mem_cons_self).2 u q
   .exact rows_one' r (fun y hy=>h y (List.mem_cons_of_mem _ hy)) u q
theorem doc_one {w:World} {B:Nat} {d:DocP} {vt vn:Value} (h:DocB w B d vt vn):vt.oneCell'=true/\vn.oneCell'=true:=by
 obtain ⟨⟨A,c,e,_⟩,⟨A2,c2,e2,_⟩⟩:=h
 subst e e2
 exact ⟨rfl,rfl⟩
theorem rl_open {w:World} {N:Nat->Prop} {B n cp:Nat} {L:List Pub} {A:Option Addr} (h:RL w N B L (.slice A n cp)):∃ xs:List RP,xs.map (·.p)=L/\n=xs.length/\n<=cp/\Rd w 66 7 n A (rows rpC xs)/\(∀ x∈xs,DocB w B x.p.doc x.vt x.vn)/\∀ u∈rows rpC xs,u.oneCell'=true:=by
 obtain ⟨xs,A',c',e1,e2,h1,h2,h3,_,h5⟩:=h
 injection e2 with e3 e4 e5
 subst e3 e4 e5
 exact ⟨xs,e1,rfl,h1,h3,h5,rows_one' xs fun x hx=>doc_one (h5 x hx)⟩
theorem rl_who {W:World} {N:Nat->Prop} {B n cp:Nat} {L:List Pub} {A:Option Addr} (h:RL W N B L (.slice A n cp)) {j:Nat} (hj:j<L.length):∃ gb off,A=some ⟨gb,off,none⟩/\W.cell? ⟨gb,off+j*7+1,none⟩=some (.string (str L[j].who)):=by
 obtain ⟨xs,A',c',rfl,e2,_,_,hr,_⟩:=h
 injection e2 with e3 _ _
 subst e3
 rw [List.length_map] at hj
 obtain ⟨gb,off,e,_,_,y1,_⟩:=rp_rd hr hj
 exact ⟨gb,off,e,by simpa using y1⟩
theorem rl_old {w W:World} {N:Nat->Prop} {B:Nat} {L:List Pub} {v:Value} (h:RL w N B L v) (hb:Below w.heap.size w W) (hB:B<=w.heap.size):RL W (fun k=>k<w.heap.size/\N k\/w.heap.size+4<=k) B L v :=
 (h.mono (N':=fun k=>k<w.heap.size/\N k\/w.heap.size+4<=k) (fun k hk q=>.inl ⟨hk,q⟩)).below hb hB
end Go.Proofs.YthfmekdbcoaolaaGreatDoor
