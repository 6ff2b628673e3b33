/- Chapter 16: PubTags. -/
import Derived.Test.YthfmekdbcoaolaaGreatDoorGy53
import Derived.Test.YthfmekdbcoaolaaGreatDoorGy43
import Derived.Deep.RegionHeld3
import Derived.BigQuiet
namespace Go.Proofs.YthfmekdbcoaolaaGreatDoor
set_option linter.unusedSimpArgs false
set_option linter.unusedVariables false
open Go.RowKit
open Go.Lib (hid)
theorem go_two {W:World} {B p:Nat} {c:Conf} {last now:Int} {L L2:List Pub} {v:Value} {who m tag:T} {exp:Int} {r:DoR} (h:doR c last L now (goA who m exp tag)=r) (h1:who.length<=140737488351232) (h2:m.length<=140737488351232) (h3:tag.length<=140737488351233) (h4:-9223372036854775808<=exp) (h5:exp<=9223372036854775807) (H:Two B W p c last L L2 v) (hB:B<=W.heap.size) (hla:last<=1000000) :
 Calls Tryz.prog 14 #[.pointer (some ⟨p,0,none⟩),.int .i64 now,.agg #[.string (str who),.string (str m),.int .i64 exp,.bool false,.string ⟨#[]⟩,.slice none 0 0,.slice none 0 0,.string (str tag)]] W fun e w'=>e=.returned (.tuple #[toldV r.told,.int .i64 r.err])/\Two B w' p c r.last r.L L2 v/\Below B W w'/\Stay W w':=by
 have h9:=does_two (a:=goA who m exp tag) (At:=none) (An:=none) (ct:=0) (cn:=0) (now:=now) H hB (docB_nil W B []) ⟨h1,h2,h3,h4,h5,by show ([]:T).length<=_;simp,by simp [goA],by simp [goA],by simp [goA],by simp [goA]⟩ (fun q=>by cases q) hla
 rw [h] at h9
 exact h9
theorem Two.box {w w':World} {B p:Nat} {c:Conf} {last:Int} {L L2:List Pub} {v:Value} (h:Two B w p c last L L2 v) (hB:B<=w.heap.size) {x:RP} (hx:DocB w B x.p.doc x.vt x.vn) (hw:w.alloc (.cells (rpC x).toArray 66)=w'):Two B w' p c last L [x.p] (.slice (some ⟨w.heap.size,0,none⟩) 1 1):=by
 obtain ⟨F,h1,h2,h3⟩:=h
 have hb:Below w.heap.size w w':=hw▸(Below.refl _ _).alloc (Nat.le_refl _) _
 have hk:Blk w' w.heap.size 66 (rpC x).toArray:=hw▸Blk.new w _ _
 refine ⟨F,h1.below hb,h2,[x],some ⟨w.heap.size,0,none⟩,1,rfl,rfl,Nat.le_refl _,by unfold maxLen;omega,?_,fun _ a ha=>?_,fun y hy=>?_⟩
 .have:=Rd.of_blk (size:=7) (el:=rpC x) hk rfl
  show Rd w' 66 7 1 _ (rpC x++[])
  rw [List.append_nil]
  exact this
 .injection ha with ha
  subst ha
  exact ⟨hB,fun hF=>absurd (h1.lt hF) (Nat.lt_irrefl _)⟩
 .rw [List.mem_singleton] at hy
  subst hy
  exact hx.below (hb.mono hB)
theorem Two.p1 {w:World} {B p g:Nat} {c:Conf} {last:Int} {L:List Pub} {P:Pub} (h:Two B w p c last L [P] (.slice (some ⟨g,0,none⟩) 1 1)):w.cell? ⟨g,1,none⟩=some (.string (str P.who))/\w.cell? ⟨g,2,none⟩=some (.string (str P.tag)):=by
 obtain ⟨F,_,_,xs,A,cp,e1,e2,_,_,hr,_⟩:=h
 injection e2 with e3 e4 e5
 subst e3
 obtain ⟨x,rfl⟩:∃ x,xs=[x]:=by
  cases xs with
  | nil=>simp at e1
  | cons x r=>cases r with
    | nil=>exact ⟨x,rfl⟩
    | cons y s=>simp at e1
 obtain ⟨gb,off,e,_,_,y1,y2,_⟩:=rp_rd hr (show 0<[x].length by simp)
 injection e with e
 injection e with e6 e7
 subst e6 e7
 simp only [List.map_cons,List.map_nil,List.cons.injEq,and_true] at e1
 subst e1
 exact ⟨by simpa using y1,by simpa using y2⟩
set_option maxRecDepth 100000 in
set_option maxHeartbeats 16000000 in
theorem pubTags_any {w:World} {v:Value} (H:ActsB w w.heap.size v) (now:Int) (tag other:T) (htl:tag.length<=140737488351232) (hol:other.length<=140737488351232):Calls Tryz.prog 5 #[v,.int .i64 now,.string (str tag),.string (str other)] w (TruePost w):=by
 have HAW:=hid awake16_any
 unfold AwkPost at HAW
 have HFL:=hid (filled_any H)
 unfold FilPost at HFL
 have hadd:∀ W:World,(Op.stringOp .add (str tag) ⟨#[120]⟩).run Tryz.prog W=.ok (.string (str (tag++[120]))) W:=fun W=>by
  have h9:=run_string_add_sum (P:=Tryz.prog) (w:=W) (str tag) ⟨#[120]⟩ (by show tag.length+1<=_;omega)
  rw [h9]
  rfl
 have HTK:=hid (fun W=>rtoken_any tag W (by omega))
 have HTX:=hid (fun W=>rtoken_any (tag++[120]) W (by simp;omega))
 have HTL:=hid (And.intro htl hol)
 have HXL:Hid ((tag++[120]).length<=140737488351233):=hid (by simp;omega)
 have HXN:Hid (tag++[120]≠tag):=hid (fun e=>by have:=congrArg List.length e;simp at this)
 generalize hTX:tag++[120]=tagx at *
 clear H hTX htl hol
 go_enter Tryz.func5,Tryz.ntmps5
 go_wp2_with fail
 refine (HFL.out).mono ?_
 rintro e w1 ⟨p,last,L,v1,rfl,ht1,hla,hwho,hb1⟩
 obtain ⟨A1,c1,rfl⟩:=ht1.slice
 have HB1:=hid hb1
 have HT1:=hid ht1
 have HLA:Hid (last<=1000000):=hid (by omega)
 have HQ:=hid ht1.q
 have HWH:=hid hwho
 clear ht1 hla hwho hb1
 go_upto_region 2 with (fail)
 obtain ⟨w2,hw2⟩:∃ w2,w1.alloc (.cells (plA last (.slice A1 L.length c1)) 60)=w2:=⟨_,rfl⟩
 rw [hw2]
 have hb2:Below w1.heap.size w1 w2:=hw2▸(Below.refl _ _).alloc (Nat.le_refl _) _
 have HK2:Hid (Blk w2 w1.heap.size 60 (plA last (.slice A1 L.length c1))):=hid (hw2▸Blk.new w1 _ _)
 have HBX:=hid (thenB_ HB1.out hb2)
 have HBW:=hid HBX.out.size
 have HT2:=hid (HT1.out.below hb2 HB1.out.size)
 clear hb2 hw2
 generalize w1.heap.size=g at *
 have HLEN:Hid (L.length<=1000000):=hid (by obtain ⟨l,Q⟩:=HQ.out;have:=Q.len;have:=Q.pubs;omega)
 have HPL:Hid (∀ W,Below w2.heap.size w2 W->∀ tg,Calls Tryz.prog 22 #[.agg (plA last (.slice A1 L.length c1)),.string (str tg)] W (PlcPost L tg W)):=hid (fun W hW tg=>place_any (c:=plC 3) (last:=last) (HT2.out.below hW HBX.out.size).rl HLEN.out)
 unfold PlcPost at HPL
 obtain ⟨c0,cc1,c2,c3,c4,c5,c6,c7,c8⟩:=plA_cells HK2.out
 by_cases h0:L.length=0
 .have x0:((L.length:Int) == 0)=true:=by simp [h0]
  go_wp2_with fail
  refine (HAW.out _).mono ?_
  rintro e wz ⟨rfl,hbz⟩
  have HBz:=hid (thenB_ HBX.out hbz)
  go_wp2
  go_ret
  exact ⟨rfl,HBz.out⟩
 .have x0:((L.length:Int) == 0)=false:=by simpa using h0
  by_cases q1:now<0
  .have d1:decide (now<0)=true:=decide_eq_true q1
   go_wp2_with fail
   refine (HAW.out _).mono ?_
   rintro e wz ⟨rfl,hbz⟩
   have HBz:=hid (thenB_ HBX.out hbz)
   go_wp2
   go_ret
   exact ⟨rfl,HBz.out⟩
  .have d1:decide (now<0)=false:=decide_eq_false q1
   by_cases q2:now > 549755813888
   .have d2:decide (now > 549755813888)=true:=decide_eq_true q2
    go_wp2_with fail
    refine (HAW.out _).mono ?_
    rintro e wz ⟨rfl,hbz⟩
    have HBz:=hid (thenB_ HBX.out hbz)
    go_wp2
    go_ret
    exact ⟨rfl,HBz.out⟩
   .have d2:decide (now > 549755813888)=false:=decide_eq_false q2
    go_wp2_with fail
    refine (HTK.out _).mono ?_
    rintro e w3 ⟨rfl,rfl⟩
    cases ht:tokB tag with
    | false =>
      go_wp2_with fail
      refine (HAW.out _).mono ?_
      rintro e wz ⟨rfl,hbz⟩
      have HBz:=hid (thenB_ HBX.out hbz)
      go_wp2
      go_ret
      exact ⟨rfl,HBz.out⟩
    | true =>
      go_wp2_with fail
      refine (HPL.out _ (Below.refl _ _) tag).mono ?_
      rintro e w3 ⟨rfl,hb3⟩
      have HB3:=hid hb3
      have HBX:=hid (thenB_ HBX.out hb3)
      have HK3:=hid (HK2.out.fr (Fr.of_below (F:=fun _=>False) hb3) (fun h=>h))
      clear hb3 c0 cc1 c2 c3 c4 c5 c6 c7 c8
      obtain ⟨c0,cc1,c2,c3,c4,c5,c6,c7,c8⟩:=plA_cells HK3.out
      rcases plc_ways L tag with ⟨hp,hno⟩|⟨j,hj,hp,_⟩
      .rw [hp]
       clear hp
       go_wp2_with fail
       refine (HPL.out _ HB3.out tagx).mono ?_
       rintro e w4 ⟨rfl,hb4⟩
       have HB4:=hid (thenB_ HB3.out hb4)
       have HBX:=hid (thenB_ HBX.out hb4)
       have HK4:=hid (HK3.out.fr (Fr.of_below (F:=fun _=>False) hb4) (fun h=>h))
       clear hb4 c0 cc1 c2 c3 c4 c5 c6 c7 c8
       obtain ⟨c0,cc1,c2,c3,c4,c5,c6,c7,c8⟩:=plA_cells HK4.out
       rcases plc_ways L tagx with ⟨hp,hno2⟩|⟨j,hj,hp,_⟩
       .rw [hp]
        clear hp
        go_wp2_with fail
        refine (HTX.out _).mono ?_
        rintro e w5 ⟨rfl,rfl⟩
        cases ht2:tokB tagx with
        | false =>
          go_wp2_with fail
          refine (HAW.out _).mono ?_
          rintro e wz ⟨rfl,hbz⟩
          have HBz:=hid (thenB_ HBX.out hbz)
          go_wp2
          go_ret
          exact ⟨rfl,HBz.out⟩
        | true =>
          have hpos:0<L.length:=by omega
          obtain ⟨lq,Q⟩:=HQ.out
          have hnow0:0<=now:=by omega
          have hnow1:now<=549755813888:=by omega
          obtain ⟨E1,E2,E3,L2,E4,E5,E6⟩:=tags_law (other:=other) (now:=now) Q (List.getElem_mem hpos) hnow0 hnow1 ht hno ht2 hno2 HXN.out (by kernel_rfl) (by kernel_rfl) (by kernel_rfl) (by kernel_rfl)
          have HS1:Hid (L[0].who.length<=140737488351232/\L[0].tag.length<=140737488351232):=hid ⟨HWH.out _ (List.getElem_mem hpos),by
           have h9:=Q.tok _ (List.getElem_mem hpos)
           unfold tokB at h9
           simp only [Bool.and_eq_true,decide_eq_true_eq] at h9
           omega⟩
          have HT4:=hid (HT2.out.below HB4.out (by
           have h1:=HB1.out.size
           have h2:=HBW.out
           omega))
          obtain ⟨xs,hxl,hxn,_,hrd,hdoc,_⟩:=rl_open HT4.out.rl
          have hx0:0<xs.length:=by omega
          have hp0:xs[0].p=L[0]:=by
           have h9:(xs.map (·.p))[0]'(by simpa using hx0)=L[0]:=by simp only [hxl]
           simpa using h9
          have hd0:=hdoc _ (List.getElem_mem hx0)
          rw [hp0] at hd0
          obtain ⟨⟨AT,cT,eT,_⟩,⟨AN,cN,eN,_⟩⟩:=hd0
          have HDX:Hid (DocB w4 w.heap.size L[0].doc (.slice AT L[0].doc.tups.length cT) (.slice AN L[0].doc.notes.length cN)):=hid (by
           have h9:=hdoc _ (List.getElem_mem hx0)
           rw [hp0,eT,eN] at h9
           exact h9)
          rw [hxn] at hrd
          obtain ⟨gb,off,rfl,_,y0,y1,y2,y3,y4,y5,y6⟩:=rp_rd hrd hx0
          rw [hp0] at y0 y1 y2 y3 y4
          rw [eT] at y5
          rw [eN] at y6
          simp only [Nat.zero_mul,Nat.add_zero] at y0 y1 y2 y3 y4 y5 y6
          have x9:(0:Int)<L.length:=by omega
          have HE6:Hid ((L2.length:Int)=L.length-1):=hid E6
          clear hxl hxn hrd hdoc hp0 eT eN hx0 Q E6 hno hno2 h0
          generalize hLP:L[0]=P at *
          clear hLP
          generalize hL1:setP L (putP P (goA P.who P.tag 60 tag) now 60)=L1 at *
          clear hL1
          go_upto_region 7 with (fail)
          obtain ⟨w6,hw6⟩:∃ w6,w4.alloc (.cells #[.int .i64 P.number,.string (str P.who),.string (str P.tag),.int .i64 P.until_,.string (str P.doc.ent),.slice AT P.doc.tups.length cT,.slice AN P.doc.notes.length cN] 66)=w6:=⟨_,rfl⟩
          rw [hw6]
          have hb6:Below w4.heap.size w4 w6:=hw6▸(Below.refl _ _).alloc (Nat.le_refl _) _
          have HT6:=hid (HT4.out.box HBX.out.size (x:=⟨P,.slice AT P.doc.tups.length cT,.slice AN P.doc.notes.length cN⟩) HDX.out hw6)
          have HKr:=hid (HK4.out.fr (Fr.of_below (F:=fun _=>False) hb6) (fun h=>h))
          have HBX:=hid (thenB_ HBX.out hb6)
          clear hb6 hw6 y0 y1 y2 y3 y4 y5 y6 c0 cc1 c2 c3 c4 c5 c6 c7 c8
          generalize w4.heap.size=pb at *
          have HD1:Hid (∀ W,Two w.heap.size W p (plC 3) last L [P] (.slice (some ⟨pb,0,none⟩) 1 1)->w.heap.size<=W.heap.size->Calls Tryz.prog 14 #[.pointer (some ⟨p,0,none⟩),.int .i64 now,.agg #[.string (str P.who),.string (str P.tag),.int .i64 60,.bool false,.string ⟨#[]⟩,.slice none 0 0,.slice none 0 0,.string (str tag)]] W fun e w'=>e=.returned (.tuple #[.agg #[.int .i64 200,.int .i64 60,.string (str tag),.bool false],.int .i64 0])/\Two w.heap.size w' p (plC 3) last L1 [P] (.slice (some ⟨pb,0,none⟩) 1 1)/\Below w.heap.size W w'/\Stay W w'):=hid (fun W hT hB=>go_two E1 (by first|exact HS1.out.1|exact HS1.out.2|exact HTL.out.1|exact HTL.out.2|exact HXL.out|(have:=HTL.out.1;omega)) (by first|exact HS1.out.1|exact HS1.out.2|exact HTL.out.1|exact HTL.out.2|exact HXL.out|(have:=HTL.out.1;omega)) (by first|exact HS1.out.1|exact HS1.out.2|exact HTL.out.1|exact HTL.out.2|exact HXL.out|(have:=HTL.out.1;omega)) (by omega) (by omega) hT hB HLA.out)
          have HD2:Hid (∀ W,Two w.heap.size W p (plC 3) last L1 [P] (.slice (some ⟨pb,0,none⟩) 1 1)->w.heap.size<=W.heap.size->Calls Tryz.prog 14 #[.pointer (some ⟨p,0,none⟩),.int .i64 now,.agg #[.string (str P.who),.string (str P.tag),.int .i64 60,.bool false,.string ⟨#[]⟩,.slice none 0 0,.slice none 0 0,.string (str tagx)]] W fun e w'=>e=.returned (.tuple #[.agg #[.int .i64 412,.int .i64 0,.string ⟨#[]⟩,.bool false],.int .i64 0])/\Two w.heap.size w' p (plC 3) last L1 [P] (.slice (some ⟨pb,0,none⟩) 1 1)/\Below w.heap.size W w'/\Stay W w'):=hid (fun W hT hB=>go_two E2 (by first|exact HS1.out.1|exact HS1.out.2|exact HTL.out.1|exact HTL.out.2|exact HXL.out|(have:=HTL.out.1;omega)) (by first|exact HS1.out.1|exact HS1.out.2|exact HTL.out.1|exact HTL.out.2|exact HXL.out|(have:=HTL.out.1;omega)) (by first|exact HS1.out.1|exact HS1.out.2|exact HTL.out.1|exact HTL.out.2|exact HXL.out|(have:=HTL.out.1;omega)) (by omega) (by omega) hT hB HLA.out)
          have HD3:Hid (other≠P.who->∀ W,Two w.heap.size W p (plC 3) last L1 [P] (.slice (some ⟨pb,0,none⟩) 1 1)->w.heap.size<=W.heap.size->Calls Tryz.prog 14 #[.pointer (some ⟨p,0,none⟩),.int .i64 now,.agg #[.string (str other),.string (str tag),.int .i64 60,.bool false,.string ⟨#[]⟩,.slice none 0 0,.slice none 0 0,.string (str tagx)]] W fun e w'=>e=.returned (.tuple #[.agg #[.int .i64 412,.int .i64 0,.string ⟨#[]⟩,.bool false],.int .i64 0])/\Two w.heap.size w' p (plC 3) last L1 [P] (.slice (some ⟨pb,0,none⟩) 1 1)/\Below w.heap.size W w'/\Stay W w'):=hid (fun ho W hT hB=>go_two (E3 ho) (by first|exact HS1.out.1|exact HS1.out.2|exact HTL.out.1|exact HTL.out.2|exact HXL.out|(have:=HTL.out.1;omega)) (by first|exact HS1.out.1|exact HS1.out.2|exact HTL.out.1|exact HTL.out.2|exact HXL.out|(have:=HTL.out.1;omega)) (by first|exact HS1.out.1|exact HS1.out.2|exact HTL.out.1|exact HTL.out.2|exact HXL.out|(have:=HTL.out.1;omega)) (by omega) (by omega) hT hB HLA.out)
          have HD4:Hid (∀ W,Two w.heap.size W p (plC 3) last L1 [P] (.slice (some ⟨pb,0,none⟩) 1 1)->w.heap.size<=W.heap.size->Calls Tryz.prog 14 #[.pointer (some ⟨p,0,none⟩),.int .i64 now,.agg #[.string (str P.who),.string (str tag),.int .i64 0,.bool false,.string ⟨#[]⟩,.slice none 0 0,.slice none 0 0,.string (str tagx)]] W fun e w'=>e=.returned (.tuple #[.agg #[.int .i64 200,.int .i64 0,.string (str tagx),.bool true],.int .i64 0])/\Two w.heap.size w' p (plC 3) last L2 [P] (.slice (some ⟨pb,0,none⟩) 1 1)/\Below w.heap.size W w'/\Stay W w'):=hid (fun W hT hB=>go_two E4 (by first|exact HS1.out.1|exact HS1.out.2|exact HTL.out.1|exact HTL.out.2|exact HXL.out|(have:=HTL.out.1;omega)) (by first|exact HS1.out.1|exact HS1.out.2|exact HTL.out.1|exact HTL.out.2|exact HXL.out|(have:=HTL.out.1;omega)) (by first|exact HS1.out.1|exact HS1.out.2|exact HTL.out.1|exact HTL.out.2|exact HXL.out|(have:=HTL.out.1;omega)) (by omega) (by omega) hT hB HLA.out)
          have HD5:Hid (∀ W,Two w.heap.size W p (plC 3) last L2 [P] (.slice (some ⟨pb,0,none⟩) 1 1)->w.heap.size<=W.heap.size->Calls Tryz.prog 14 #[.pointer (some ⟨p,0,none⟩),.int .i64 now,.agg #[.string (str P.who),.string (str tag),.int .i64 60,.bool false,.string ⟨#[]⟩,.slice none 0 0,.slice none 0 0,.string (str tag)]] W fun e w'=>e=.returned (.tuple #[.agg #[.int .i64 412,.int .i64 0,.string ⟨#[]⟩,.bool false],.int .i64 0])/\Two w.heap.size w' p (plC 3) last L2 [P] (.slice (some ⟨pb,0,none⟩) 1 1)/\Below w.heap.size W w'/\Stay W w'):=hid (fun W hT hB=>go_two E5 (by first|exact HS1.out.1|exact HS1.out.2|exact HTL.out.1|exact HTL.out.2|exact HXL.out|(have:=HTL.out.1;omega)) (by first|exact HS1.out.1|exact HS1.out.2|exact HTL.out.1|exact HTL.out.2|exact HXL.out|(have:=HTL.out.1;omega)) (by first|exact HS1.out.1|exact HS1.out.2|exact HTL.out.1|exact HTL.out.2|exact HXL.out|(have:=HTL.out.1;omega)) (by omega) (by omega) hT hB HLA.out)
          clear E1 E2 E3 E4 E5
          obtain ⟨p1,p2⟩:=HT6.out.p1
          go_wp2_with fail
          refine (HD1.out _ HT6.out HBX.out.size).mono ?_
          rintro e w17 ⟨rfl,ht7,hb7,hs7⟩
          go_upto_region 8 with (fail)
          obtain ⟨w18,hw8⟩:∃ w8,w17.alloc (.cells #[.int .i64 200,.int .i64 60,.string (str tag),.bool false] 33)=w8:=⟨_,rfl⟩
          rw [hw8]
          have hb8:Below w17.heap.size w17 w18:=hw8▸(Below.refl _ _).alloc (Nat.le_refl _) _
          have hst:=hs7.trans (Stay.below hb8)
          have HKa:=hid (show Blk w18 w17.heap.size 33 #[.int .i64 200,.int .i64 60,.string (str tag),.bool false] from hw8▸Blk.new w17 _ _)
          have HKr:=hid (hst _ _ _ HKr.out (by decide))
          have HTk:=hid (ht7.below hb8 (Nat.le_trans HBX.out.size hb7.size))
          have HBX:=hid (thenB_ (HBX.out.trans hb7) hb8)
          clear hw8 hb8 hst ht7 hb7 hs7 p1 p2
          generalize w17.heap.size=b1 at *
          obtain ⟨p1,p2⟩:=HTk.out.p1
          go_wp2_with fail
          refine (HD2.out _ HTk.out HBX.out.size).mono ?_
          rintro e w27 ⟨rfl,ht7,hb7,hs7⟩
          go_upto_region 9 with (fail)
          obtain ⟨w28,hw8⟩:∃ w8,w27.alloc (.cells #[.int .i64 412,.int .i64 0,.string ⟨#[]⟩,.bool false] 33)=w8:=⟨_,rfl⟩
          rw [hw8]
          have hb8:Below w27.heap.size w27 w28:=hw8▸(Below.refl _ _).alloc (Nat.le_refl _) _
          have hst:=hs7.trans (Stay.below hb8)
          have HKb:=hid (show Blk w28 w27.heap.size 33 #[.int .i64 412,.int .i64 0,.string ⟨#[]⟩,.bool false] from hw8▸Blk.new w27 _ _)
          have HKr:=hid (hst _ _ _ HKr.out (by decide))
          have HKa:=hid (hst _ _ _ HKa.out (by decide))
          have HTk:=hid (ht7.below hb8 (Nat.le_trans HBX.out.size hb7.size))
          have HBX:=hid (thenB_ (HBX.out.trans hb7) hb8)
          clear hw8 hb8 hst ht7 hb7 hs7 p1 p2
          generalize w27.heap.size=b2 at *
          obtain ⟨p1,p2⟩:=HTk.out.p1
          have ta0:=HKa.out.cell 0
          have ta1:=HKa.out.cell 1
          have ta2:=HKa.out.cell 2
          have ta3:=HKa.out.cell 3
          have tb0:=HKb.out.cell 0
          have tb1:=HKb.out.cell 1
          have tb2:=HKb.out.cell 2
          have tb3:=HKb.out.cell 3
          have r1:=neq_told 200 60 200 60 (str tag) (str tag) false false
          have r2:=neq_told 412 0 412 0 ⟨#[]⟩ ⟨#[]⟩ false false
          by_cases ho:other=P.who
          .have s1:((str other).toList == (str P.who).toList)=true:=by rw [ho];exact beq_self_eq_true _
           have s2:((str other).toList != (str P.who).toList)=false:=by rw [ho];simp
           have s3:(str other).toList=(str P.who).toList:=by rw [ho]
           clear ho
           go_upto_region 15 with (fail)
           clear r1 r2 s1 s2 s3 ta0 tb0 ta1 tb1 ta2 tb2 ta3 tb3
           go_wp2_with fail
           refine (HD4.out _ HTk.out HBX.out.size).mono ?_
           rintro e w47 ⟨rfl,ht7,hb7,hs7⟩
           go_upto_region 16 with (fail)
           obtain ⟨w48,hw8⟩:∃ w8,w47.alloc (.cells #[.int .i64 200,.int .i64 0,.string (str tagx),.bool true] 33)=w8:=⟨_,rfl⟩
           rw [hw8]
           have hb8:Below w47.heap.size w47 w48:=hw8▸(Below.refl _ _).alloc (Nat.le_refl _) _
           have hst:=hs7.trans (Stay.below hb8)
           have HKc:=hid (show Blk w48 w47.heap.size 33 #[.int .i64 200,.int .i64 0,.string (str tagx),.bool true] from hw8▸Blk.new w47 _ _)
           have HKr:=hid (hst _ _ _ HKr.out (by decide))
           have HTk:=hid (ht7.below hb8 (Nat.le_trans HBX.out.size hb7.size))
           have HBX:=hid (thenB_ (HBX.out.trans hb7) hb8)
           clear hw8 hb8 hst ht7 hb7 hs7 p1 p2
           generalize w47.heap.size=b4 at *
           obtain ⟨p1,p2⟩:=HTk.out.p1
           go_wp2_with fail
           refine (HD5.out _ HTk.out HBX.out.size).mono ?_
           rintro e w57 ⟨rfl,ht7,hb7,hs7⟩
           go_upto_region 17 with (fail)
           obtain ⟨w58,hw8⟩:∃ w8,w57.alloc (.cells #[.int .i64 412,.int .i64 0,.string ⟨#[]⟩,.bool false] 33)=w8:=⟨_,rfl⟩
           rw [hw8]
           have hb8:Below w57.heap.size w57 w58:=hw8▸(Below.refl _ _).alloc (Nat.le_refl _) _
           have hst:=hs7.trans (Stay.below hb8)
           have HKd:=hid (show Blk w58 w57.heap.size 33 #[.int .i64 412,.int .i64 0,.string ⟨#[]⟩,.bool false] from hw8▸Blk.new w57 _ _)
           have HKr:=hid (hst _ _ _ HKr.out (by decide))
           have HKc:=hid (hst _ _ _ HKc.out (by decide))
           have HTk:=hid (ht7.below hb8 (Nat.le_trans HBX.out.size hb7.size))
           have HBX:=hid (thenB_ (HBX.out.trans hb7) hb8)
           clear hw8 hb8 hst ht7 hb7 hs7 p1 p2
           generalize w57.heap.size=b5 at *
           obtain ⟨p1,p2⟩:=HTk.out.p1
           have r3:=eq_told 200 0 200 0 (str tagx) (str tagx) true true
           have r4:=eq_told 412 0 412 0 ⟨#[]⟩ ⟨#[]⟩ false false
           have r5:(L2.length:Int)=L.length-1:=HE6.out
           have HSS:Hid (∀ W,Below w58.heap.size w58 W->W.cell? ⟨g,8,none⟩=some (.slice (some ⟨gb,off,none⟩) L.length c1)/\W.cell? ⟨b4,0,none⟩=some (.int .i64 200)/\W.cell? ⟨b4,1,none⟩=some (.int .i64 0)/\W.cell? ⟨b4,2,none⟩=some (.string (str tagx))/\W.cell? ⟨b4,3,none⟩=some (.bool true)/\W.cell? ⟨b5,0,none⟩=some (.int .i64 412)/\W.cell? ⟨b5,1,none⟩=some (.int .i64 0)/\W.cell? ⟨b5,2,none⟩=some (.string ⟨#[]⟩)/\W.cell? ⟨b5,3,none⟩=some (.bool false)):=hid (fun W hW=>by
            have f:=Fr.of_below (F:=fun _=>False) hW
            have k1:=HKc.out.fr f (fun h=>h)
            have k2:=HKd.out.fr f (fun h=>h)
            obtain ⟨_,_,_,_,_,_,_,_,m8⟩:=plA_cells (HKr.out.fr f (fun h=>h))
            exact ⟨m8,k1.cell 0,k1.cell 1,k1.cell 2,k1.cell 3,k2.cell 0,k2.cell 1,k2.cell 2,k2.cell 3⟩)
           have HLN:Hid (∀ W,Below w58.heap.size w58 W->Calls Tryz.prog 17 #[.pointer (some ⟨p,0,none⟩)] W fun e w'=>e=.returned (.int .i64 L2.length)/\W=w'):=hid (fun W hW=>len_sto (HTk.out.below hW HBX.out.size).sto)
           have HX0:Hid (Below w58.heap.size w58 w58):=hid (Below.refl _ _)
           have HXd:Hid (Below w58.heap.size w58 w58.drew):=hid (Below.refl _ _).drew
           have x10:(0:Int)<=L.length-1:=by omega
           have x11:IntKind.i64.wrap ((L.length:Int)-1)=(L.length:Int)-1:=IntWalk.i64_in _ (by have:=HLEN.out;omega)
           clear hnow0 hnow1 d1 d2 q1 q2
           go_wp2_with fail
           go_region_held3 (fun w'=>w'.cell? ⟨g,8,none⟩=some (.slice (some ⟨gb,off,none⟩) L.length c1)/\w'.cell? ⟨b4,0,none⟩=some (.int .i64 200)/\w'.cell? ⟨b4,1,none⟩=some (.int .i64 0)/\w'.cell? ⟨b4,2,none⟩=some (.string (str tagx))/\w'.cell? ⟨b4,3,none⟩=some (.bool true)/\w'.cell? ⟨b5,0,none⟩=some (.int .i64 412)/\w'.cell? ⟨b5,1,none⟩=some (.int .i64 0)/\w'.cell? ⟨b5,2,none⟩=some (.string ⟨#[]⟩)/\w'.cell? ⟨b5,3,none⟩=some (.bool false))
            (first|(with_reducible exact HSS.out _ HXz.out)|(with_reducible exact HSS.out _ HXd.out)|(with_reducible exact HSS.out _ HX0.out)) (first|(go_at_call 17;(with_reducible refine (HLN.out _ HXd.out).mono ?_);rintro e wl ⟨rfl,rfl⟩)|(go_at_call 13;(with_reducible refine (HAW.out _).mono ?_);rintro e wz ⟨rfl,hbz⟩;have HXz:Hid (Below w58.heap.size w58 wz):=hid (HXd.out.trans (hbz.mono HXd.out.size))))
           all_goals
            have HP:=hid (thenB_ HBX.out HXz.out)
            go_wp2
            go_ret
            exact ⟨rfl,HP.out⟩
          .have s1:=bs_neb ho
           have s2:=bs_ne ho
           have HNO:=hid ho
           clear ho
           go_wp2_with fail
           refine (HD3.out HNO.out _ HTk.out HBX.out.size).mono ?_
           rintro e w37 ⟨rfl,ht7,hb7,hs7⟩
           go_upto_region 13 with (fail)
           obtain ⟨w38,hw8⟩:∃ w8,w37.alloc (.cells #[.int .i64 412,.int .i64 0,.string ⟨#[]⟩,.bool false] 33)=w8:=⟨_,rfl⟩
           rw [hw8]
           have hb8:Below w37.heap.size w37 w38:=hw8▸(Below.refl _ _).alloc (Nat.le_refl _) _
           have hst:=hs7.trans (Stay.below hb8)
           have HKe:=hid (show Blk w38 w37.heap.size 33 #[.int .i64 412,.int .i64 0,.string ⟨#[]⟩,.bool false] from hw8▸Blk.new w37 _ _)
           have HKr:=hid (hst _ _ _ HKr.out (by decide))
           have HTk:=hid (ht7.below hb8 (Nat.le_trans HBX.out.size hb7.size))
           have HBX:=hid (thenB_ (HBX.out.trans hb7) hb8)
           clear hw8 hb8 hst ht7 hb7 hs7 p1 p2
           generalize w37.heap.size=b3 at *
           obtain ⟨p1,p2⟩:=HTk.out.p1
           have te0:=HKe.out.cell 0
           have te1:=HKe.out.cell 1
           have te2:=HKe.out.cell 2
           have te3:=HKe.out.cell 3
           go_upto_region 15 with (fail)
           clear r1 r2 s1 s2 ta0 tb0 te0 ta1 tb1 te1 ta2 tb2 te2 ta3 tb3 te3
           go_wp2_with fail
           refine (HD4.out _ HTk.out HBX.out.size).mono ?_
           rintro e w47 ⟨rfl,ht7,hb7,hs7⟩
           go_upto_region 16 with (fail)
           obtain ⟨w48,hw8⟩:∃ w8,w47.alloc (.cells #[.int .i64 200,.int .i64 0,.string (str tagx),.bool true] 33)=w8:=⟨_,rfl⟩
           rw [hw8]
           have hb8:Below w47.heap.size w47 w48:=hw8▸(Below.refl _ _).alloc (Nat.le_refl _) _
           have hst:=hs7.trans (Stay.below hb8)
           have HKc:=hid (show Blk w48 w47.heap.size 33 #[.int .i64 200,.int .i64 0,.string (str tagx),.bool true] from hw8▸Blk.new w47 _ _)
           have HKr:=hid (hst _ _ _ HKr.out (by decide))
           have HTk:=hid (ht7.below hb8 (Nat.le_trans HBX.out.size hb7.size))
           have HBX:=hid (thenB_ (HBX.out.trans hb7) hb8)
           clear hw8 hb8 hst ht7 hb7 hs7 p1 p2
           generalize w47.heap.size=b4 at *
           obtain ⟨p1,p2⟩:=HTk.out.p1
           go_wp2_with fail
           refine (HD5.out _ HTk.out HBX.out.size).mono ?_
           rintro e w57 ⟨rfl,ht7,hb7,hs7⟩
           go_upto_region 17 with (fail)
           obtain ⟨w58,hw8⟩:∃ w8,w57.alloc (.cells #[.int .i64 412,.int .i64 0,.string ⟨#[]⟩,.bool false] 33)=w8:=⟨_,rfl⟩
           rw [hw8]
           have hb8:Below w57.heap.size w57 w58:=hw8▸(Below.refl _ _).alloc (Nat.le_refl _) _
           have hst:=hs7.trans (Stay.below hb8)
           have HKd:=hid (show Blk w58 w57.heap.size 33 #[.int .i64 412,.int .i64 0,.string ⟨#[]⟩,.bool false] from hw8▸Blk.new w57 _ _)
           have HKr:=hid (hst _ _ _ HKr.out (by decide))
           have HKc:=hid (hst _ _ _ HKc.out (by decide))
           have HTk:=hid (ht7.below hb8 (Nat.le_trans HBX.out.size hb7.size))
           have HBX:=hid (thenB_ (HBX.out.trans hb7) hb8)
           clear hw8 hb8 hst ht7 hb7 hs7 p1 p2
           generalize w57.heap.size=b5 at *
           obtain ⟨p1,p2⟩:=HTk.out.p1
           have r3:=eq_told 200 0 200 0 (str tagx) (str tagx) true true
           have r4:=eq_told 412 0 412 0 ⟨#[]⟩ ⟨#[]⟩ false false
           have r5:(L2.length:Int)=L.length-1:=HE6.out
           have HSS:Hid (∀ W,Below w58.heap.size w58 W->W.cell? ⟨g,8,none⟩=some (.slice (some ⟨gb,off,none⟩) L.length c1)/\W.cell? ⟨b4,0,none⟩=some (.int .i64 200)/\W.cell? ⟨b4,1,none⟩=some (.int .i64 0)/\W.cell? ⟨b4,2,none⟩=some (.string (str tagx))/\W.cell? ⟨b4,3,none⟩=some (.bool true)/\W.cell? ⟨b5,0,none⟩=some (.int .i64 412)/\W.cell? ⟨b5,1,none⟩=some (.int .i64 0)/\W.cell? ⟨b5,2,none⟩=some (.string ⟨#[]⟩)/\W.cell? ⟨b5,3,none⟩=some (.bool false)):=hid (fun W hW=>by
            have f:=Fr.of_below (F:=fun _=>False) hW
            have k1:=HKc.out.fr f (fun h=>h)
            have k2:=HKd.out.fr f (fun h=>h)
            obtain ⟨_,_,_,_,_,_,_,_,m8⟩:=plA_cells (HKr.out.fr f (fun h=>h))
            exact ⟨m8,k1.cell 0,k1.cell 1,k1.cell 2,k1.cell 3,k2.cell 0,k2.cell 1,k2.cell 2,k2.cell 3⟩)
           have HLN:Hid (∀ W,Below w58.heap.size w58 W->Calls Tryz.prog 17 #[.pointer (some ⟨p,0,none⟩)] W fun e w'=>e=.returned (.int .i64 L2.length)/\W=w'):=hid (fun W hW=>len_sto (HTk.out.below hW HBX.out.size).sto)
           have HX0:Hid (Below w58.heap.size w58 w58):=hid (Below.refl _ _)
           have HXd:Hid (Below w58.heap.size w58 w58.drew):=hid (Below.refl _ _).drew
           have x10:(0:Int)<=L.length-1:=by omega
           have x11:IntKind.i64.wrap ((L.length:Int)-1)=(L.length:Int)-1:=IntWalk.i64_in _ (by have:=HLEN.out;omega)
           clear hnow0 hnow1 d1 d2 q1 q2
           go_wp2_with fail
           go_region_held3 (fun w'=>w'.cell? ⟨g,8,none⟩=some (.slice (some ⟨gb,off,none⟩) L.length c1)/\w'.cell? ⟨b4,0,none⟩=some (.int .i64 200)/\w'.cell? ⟨b4,1,none⟩=some (.int .i64 0)/\w'.cell? ⟨b4,2,none⟩=some (.string (str tagx))/\w'.cell? ⟨b4,3,none⟩=some (.bool true)/\w'.cell? ⟨b5,0,none⟩=some (.int .i64 412)/\w'.cell? ⟨b5,1,none⟩=some (.int .i64 0)/\w'.cell? ⟨b5,2,none⟩=some (.string ⟨#[]⟩)/\w'.cell? ⟨b5,3,none⟩=some (.bool false))
            (first|(with_reducible exact HSS.out _ HXz.out)|(with_reducible exact HSS.out _ HXd.out)|(with_reducible exact HSS.out _ HX0.out)) (first|(go_at_call 17;(with_reducible refine (HLN.out _ HXd.out).mono ?_);rintro e wl ⟨rfl,rfl⟩)|(go_at_call 13;(with_reducible refine (HAW.out _).mono ?_);rintro e wz ⟨rfl,hbz⟩;have HXz:Hid (Below w58.heap.size w58 wz):=hid (HXd.out.trans (hbz.mono HXd.out.size))))
           all_goals
            have HP:=hid (thenB_ HBX.out HXz.out)
            go_wp2
            go_ret
            exact ⟨rfl,HP.out⟩
       .rw [hp]
        have x1:(j:Int)>=0:=by omega
        go_wp2_with fail
        refine (HAW.out _).mono ?_
        rintro e wz ⟨rfl,hbz⟩
        have HBz:=hid (thenB_ HBX.out hbz)
        go_wp2
        go_ret
        exact ⟨rfl,HBz.out⟩
      .rw [hp]
       have x1:(j:Int)>=0:=by omega
       go_wp2_with fail
       refine (HAW.out _).mono ?_
       rintro e wz ⟨rfl,hbz⟩
       have HBz:=hid (thenB_ HBX.out hbz)
       go_wp2
       go_ret
       exact ⟨rfl,HBz.out⟩
end Go.Proofs.YthfmekdbcoaolaaGreatDoor
