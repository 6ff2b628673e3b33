/- Chapter 16: PubOrder. -/
import Derived.Test.YthfmekdbcoaolaaGreatDoorGy52
import Derived.Test.YthfmekdbcoaolaaGreatDoorGy39
import Derived.BigQuiet
namespace Go.Proofs.YthfmekdbcoaolaaGreatDoor
set_option linter.unusedSimpArgs false
set_option linter.unusedVariables false
open Go.RowKit
open Go.Lib (hid)
theorem live_rise {c:Conf} {last:Int} {L:List Pub} {l:List TM} (Q:StQ c last L l) {who:T} {ys:List RP} (h:ys.map (·.p)=L.filter fun p=>decide (p.who=who)):(∀ (i:Nat) (hi:i<ys.length),ys[i].p.who=who/\1<=ys[i].p.number/\ys[i].p.number<=last)/\∀ (i k:Nat) (hi:i<ys.length) (hk:k<i),ys[k].p.number<ys[i].p.number:=by
 refine ⟨fun i hi=>?_,fun i k hi hk=>?_⟩
 .have hm:ys[i].p∈L.filter fun p=>decide (p.who=who):=by
   rw [<-h]
   exact List.mem_map.2 ⟨_,List.getElem_mem hi,rfl⟩
  obtain ⟨h1,h2⟩:=List.mem_filter.1 hm
  have:=Q.low _ h1
  exact ⟨by simpa using h2,this.1,this.2⟩
 .have hp:(ys.map (·.p)).Pairwise fun a b=>a.number<b.number:=by
   rw [h]
   exact Q.ids.sublist List.filter_sublist
  have:=List.pairwise_iff_getElem.1 hp k i (by simp;omega) (by simpa using hi) hk
  simpa using this
set_option maxRecDepth 100000 in
set_option maxHeartbeats 8000000 in
theorem pubOrder_any {w:World} {v:Value} (H:ActsB w w.heap.size v) (who:T):Calls Tryz.prog 8 #[v,.string (str who)] w (TruePost w):=by
 have HAW:=hid awake16_any
 unfold AwkPost at HAW
 have HFL:=hid (filled_any H)
 unfold FilPost at HFL
 clear H
 go_enter Tryz.func8,Tryz.ntmps8
 go_wp2_with fail
 refine (HFL.out).mono ?_
 rintro e w1 ⟨p,last,L,v1,rfl,ht1,hla,hwho,hb1⟩
 obtain ⟨A1,c1,rfl⟩:=ht1.slice
 have HB1:=hid hb1
 have HT1:=hid ht1
 have HLA:Hid (last<=1000000):=hid (by omega)
 have HQ:=hid ht1.q
 clear ht1 hla hwho hb1
 go_upto_region 2 with (fail)
 obtain ⟨w2,hw2⟩:∃ w2,w1.alloc (.cells (plA last (.slice A1 L.length c1)) 60)=w2:=⟨_,rfl⟩
 rw [hw2]
 have hb2:Below w1.heap.size w1 w2:=hw2▸(Below.refl _ _).alloc (Nat.le_refl _) _
 have HK2:Hid (Blk w2 w1.heap.size 60 (plA last (.slice A1 L.length c1))):=hid (hw2▸Blk.new w1 _ _)
 have HB2:=hid (thenB_ HB1.out hb2)
 have HT2:=hid (HT1.out.below hb2 HB1.out.size)
 clear hb2 hw2
 have HLV:=hid (live_sto (who:=who) HT2.out.sto HLA.out)
 unfold LivePost at HLV
 go_wp2_with fail
 refine (HLV.out).mono ?_
 rintro e w3 ⟨ys,A,cp,rfl,hys,hown,hdoc,hb3⟩
 obtain ⟨lq,hQ⟩:=HQ.out
 have HRS:=hid (live_rise hQ hys)
 have hlen:ys.length<=200:=by
  have h1:=congrArg List.length hys
  rw [List.length_map] at h1
  have h2:=List.length_filter_le (fun p:Pub=>decide (p.who=who)) L
  have h3:=hQ.len
  have h4:=hQ.pubs
  omega
 obtain ⟨A',cp',e5,_,_,hrd⟩:=RdV.of_own hown
 injection e5 with e6 _ e7
 subst e6 e7
 have HRD:=hid hrd
 have HB3:=hid (thenB_ HB2.out hb3)
 have HK3:=hid (HK2.out.fr (Fr.of_below (F:=fun _=>False) hb3) (fun h=>h))
 clear hys hown hdoc hb3 hrd hQ
 generalize w1.heap.size=g at *
 go_wp2
 go_loopw [8] (fun i wr=>∃ (k n:Nat),k<=ys.length/\i=.int .i64 k/\wr=w3.drewN n) (fun i _=>ys.length-(intOf i).toNat)
 case atStart=>exact ⟨0,0,Nat.zero_le _,rfl,rfl⟩
 case round =>
  obtain ⟨k,n,hk,rfl,rfl⟩:=hrel
  by_cases hlt:k<ys.length
  .have x0:(0:Int)<=k:=by omega
   have x1:(k:Int)<ys.length:=by omega
   obtain ⟨gb,off,rfl,_,y0,y1,_⟩:=rp_rd HRD.out hlt
   obtain ⟨h1,h2,h3⟩:=HRS.out.1 k hlt
   obtain ⟨_,_,_,_,_,_,_,c7,_⟩:=plA_cells HK3.out
   have q1:((str ys[k].p.who).toList == (str who).toList)=true:=by rw [strv_dec,decide_eq_true h1]
   have q2:((str ys[k].p.who).toList != (str who).toList)=false:=by rw [h1];simp
   have q3:decide (ys[k].p.number<1)=false:=decide_eq_false (by omega)
   have q4:decide (ys[k].p.number > last)=false:=decide_eq_false (by omega)
   have q4':decide (last<ys[k].p.number)=false:=decide_eq_false (by omega)
   by_cases h0:k=0
   .have q5:decide ((k:Int) > 0)=false:=decide_eq_false (by omega)
    have q5':decide ((0:Int)<k)=false:=decide_eq_false (by omega)
    have q7:decide (0<k)=false:=decide_eq_false (by omega)
    clear h1 h2 h3 h0
    go_wp2
    go_quiet (fail)
    go_wp2
    go_roundw
    case rel=>exact ⟨k+1,_,by omega,by go_num,by first|rfl|exact World.drewN_drewN _ _ _⟩
    case measure=>simp [intOf] <;> omega
   .obtain ⟨m,hm⟩:∃ m,k=m+1:=⟨k-1,by omega⟩
    have q5:decide ((k:Int) > 0)=true:=decide_eq_true (by omega)
    have q5':decide ((0:Int)<k)=true:=decide_eq_true (by omega)
    have q7:decide (0<k)=true:=decide_eq_true (by omega)
    have hml:m<ys.length:=by omega
    obtain ⟨gb2,off2,e9,_,z0,_⟩:=rp_rd HRD.out hml
    injection e9 with e9
    injection e9 with e9 e8
    subst e9 e8
    have q6:decide (ys[k].p.number<=ys[m].p.number)=false:=decide_eq_false (by have:=HRS.out.2 k m hlt (by omega);omega)
    have x2:(k:Int)-1=(m:Int):=by omega
    have x3:(0:Int)<=m:=by omega
    have x4:(m:Int)<ys.length:=by omega
    have HM:=hid hm
    clear h1 h2 h3 hm h0
    go_wp2
    go_quiet (fail)
    go_wp2
    go_roundw
    case rel=>exact ⟨k+1,_,by omega,by go_num,by first|rfl|exact World.drewN_drewN _ _ _⟩
    case measure=>simp [intOf] <;> omega
  .have x1:¬(k:Int)<ys.length:=by omega
   go_wp2_with fail
   refine (HAW.out _).mono ?_
   rintro e w4 ⟨rfl,hb4⟩
   go_wp2
   go_ret
   exact ⟨rfl,HB3.out.trans ((below_drewN (Below.refl _ _) n).trans (hb4.mono HB3.out.size))⟩
end Go.Proofs.YthfmekdbcoaolaaGreatDoor
