/- Chapter 16: Do in all cases; does, plain, doc, begun. -/
import Derived.Test.YthfmekdbcoaolaaGreatDoorGy33
import Derived.Test.YthfmekdbcoaolaaGreatDoorGy34
import Derived.Test.YthfmekdbcoaolaaGreatDoorGy35
namespace Go.Proofs.YthfmekdbcoaolaaGreatDoor
set_option linter.unusedSimpArgs false
set_option linter.unusedVariables false
open Go.RowKit
open Go.Lib (hid)
theorem do_any {w:World} {p B:Nat} {c:Conf} {last now:Int} {L:List Pub} {F:Nat->Prop} {a:AskP} {At An:Option Addr} {ct cn:Nat} (H:St w p c last L F) (hB:B<=w.heap.size) (hd:DocB w B a.doc (.slice At a.doc.tups.length ct) (.slice An a.doc.notes.length cn)) (hs:AskS a) (he:a.has=true->a.doc.ent.length<=99999990) (hla:last<=1000000) (hFB:∀ k,F k->B<=k) :
 Calls Tryz.prog 32 #[.pointer (some ⟨p,0,none⟩),.int .i64 now,.agg #[.string (str a.who),.string (str a.mtch),.int .i64 a.exp,.bool a.has,.string (str a.doc.ent),.slice At a.doc.tups.length ct,.slice An a.doc.notes.length cn,.string (str a.tag)]] w (DoPost p c F (doR c last L now a) w):=by
 cases h:argE L now a with
 | true=>exact do_arg H hB hd hs he h
 | false =>
   by_cases hm:a.mtch=[]
   .exact do_new H hB hd hs he h hm hla hFB
   .by_cases ht:a.mtch∈L.map (·.tag)
    .obtain ⟨p0,hp,e⟩:=List.mem_map.1 ht
     by_cases hw:p0.who=a.who
     .cases hk:secK c a.exp with
      | false=>exact do_brief H hB hd hs he h hm hp e hw hk hla hFB
      | true =>
        by_cases hn:secN c a.exp=0
        .cases hh:a.has with
         | true=>have h9:=do_bad H hB hd hs he h hm hp e hw hk hh hn hla hFB;rw [hh] at h9;exact h9
         | false=>have h9:=do_drop H hB hd hs he h hm hp e hw hk hh hn hla hFB;rw [hh] at h9;exact h9
        .cases hh:a.has with
         | true=>have h9:=do_put1 H hB hd hs he h hm hp e hw hk hh hn hla hFB;rw [hh] at h9;exact h9
         | false=>have h9:=do_put0 H hB hd hs he h hm hp e hw hk hh hn hla hFB;rw [hh] at h9;exact h9
     .exact do_who H hB hd hs he h hm hp e hw hla hFB
    .exact do_none H hB hd hs he h hm ht hla hFB
theorem St.fr_blk {w w':World} {p td:Nat} {c:Conf} {last:Int} {L:List Pub} {F:Nat->Prop} {T:TypeId} {cs:Array Value} (H:St w p c last L F) (hf:Fr (fun k=>k=td) w w') (ht:Blk w td T cs) (h1:T≠124) (h2:T≠130) (h3:T≠131) (h4:T≠55) (h5:T≠66) (h6:T≠115) (h7:T≠9):St w' p c last L F:=by
 refine H.fr hf (fun k hk e=>?_) (fun b ds T' fr hb hT e=>?_)
 .subst e
  exact H.notT ht h1 h2 h3 h4 h5 hk
 .subst e
  unfold Blk at ht
  rw [ht] at hb
  injection hb with hb
  injection hb with _ hb _
  rcases hT with q|q
  .exact h6 (hb.trans q)
  .exact h7 (hb.trans q)
set_option maxRecDepth 100000 in
set_option maxHeartbeats 4000000 in
theorem does_any {w:World} {p B:Nat} {c:Conf} {last now:Int} {L:List Pub} {F:Nat->Prop} {a:AskP} {At An:Option Addr} {ct cn:Nat} (H:St w p c last L F) (hB:B<=w.heap.size) (hd:DocB w B a.doc (.slice At a.doc.tups.length ct) (.slice An a.doc.notes.length cn)) (hs:AskS a) (he:a.has=true->a.doc.ent.length<=99999990) (hla:last<=1000000) (hFB:∀ k,F k->B<=k) :
 Calls Tryz.prog 14 #[.pointer (some ⟨p,0,none⟩),.int .i64 now,.agg #[.string (str a.who),.string (str a.mtch),.int .i64 a.exp,.bool a.has,.string (str a.doc.ent),.slice At a.doc.tups.length ct,.slice An a.doc.notes.length cn,.string (str a.tag)]] w (DoPost p c F (doR c last L now a) w):=by
 obtain ⟨w0,hw0⟩:∃ w0,(w.alloc (.cells #[.string (str a.who),.string (str a.mtch),.int .i64 a.exp,.bool a.has,.string (str a.doc.ent),.slice At a.doc.tups.length ct,.slice An a.doc.notes.length cn,.string (str a.tag)] 42)).alloc (.cells #[.int .i64 0,.int .i64 0,.string ⟨#[]⟩,.bool false] 33)=w0:=⟨_,rfl⟩
 have hb0:Below w.heap.size w w0:=hw0▸((Below.refl _ _).alloc (Nat.le_refl _) _).alloc (by simp) _
 have hka:Blk w0 w.heap.size 42 #[.string (str a.who),.string (str a.mtch),.int .i64 a.exp,.bool a.has,.string (str a.doc.ent),.slice At a.doc.tups.length ct,.slice An a.doc.notes.length cn,.string (str a.tag)]:=hw0▸(Blk.new w _ _).alloc _
 have hkb:Blk w0 (w.heap.size+1) 33 #[.int .i64 0,.int .i64 0,.string ⟨#[]⟩,.bool false]:=hw0▸Blk.new' _ _ _ (by simp)
 have hlt:∀ k,F k->k<w.heap.size:=fun k hk=>H.lt hk
 have HDO:=hid (do_any (now:=now) (H.below hb0) (Nat.le_trans hB hb0.size) (hd.below (hb0.mono hB)) hs he hla hFB)
 unfold DoPost at HDO
 have HEND:Hid (∀ w1 w2 w3 F',St w1 p c (doR c last L now a).last (doR c last L now a).L F'->Fr F w0 w1->Ext F F' w0->Below w1.heap.size w1 w2->Fr (fun k=>k=w.heap.size+1) w2 w3->DoPost p c F (doR c last L now a) w (.returned (.tuple #[.agg #[.int .i64 (doR c last L now a).told.status,.int .i64 (doR c last L now a).told.exp,.string (str (doR c last L now a).told.tag),.bool (doR c last L now a).told.changed],.int .i64 (doR c last L now a).err])) w3):=hid (fun w1 w2 w3 F' hst hf hx hb2 f3=>by
  have kb1:=hkb.fr hf (fun q=>by have:=hlt _ q;omega)
  have kb2:=kb1.fr (Fr.of_below (F:=fun _=>False) hb2) (fun h=>h)
  refine ⟨rfl,F',(hst.below hb2).fr_blk f3 kb2 (by decide) (by decide) (by decide) (by decide) (by decide) (by decide) (by decide),?_,fun k hk=>?_⟩
  .exact ((((Fr.of_below hb0).trans hf (fun k _ e=>e)).trans (G:=fun _=>False) (Fr.of_below hb2) (fun _ _ e=>e.elim))).trans f3 (fun k hk e=>by omega)
  .rcases hx k hk with q|q
   .exact .inl q
   .exact .inr (Nat.le_trans hb0.size q))
 have HKB:Hid (∀ w1,Fr F w0 w1->Blk w1 (w.heap.size+1) 33 #[.int .i64 0,.int .i64 0,.string ⟨#[]⟩,.bool false]):=hid (fun w1 hf=>hkb.fr hf (fun q=>by have:=hlt _ q;omega))
 have c0:=hka.cell 0
 have c1:=hka.cell 1
 have c2:=hka.cell 2
 have c3:=hka.cell 3
 have c4:=hka.cell 4
 have c5:=hka.cell 5
 have c6:=hka.cell 6
 have c7:=hka.cell 7
 clear H hB hd hs he hla hFB hb0 hka hkb hlt
 generalize doR c last L now a=DO at *
 go_enter Tryz.func14,Tryz.ntmps14
 go_upto_region 1 with (fail)
 try rw [hw0]
 clear hw0
 go_wp2_with fail
 refine (HDO.out).mono ?_
 rintro e w1 ⟨rfl,F',hst,hf,hx⟩
 have kb1:=HKB.out w1 hf
 obtain ⟨w2,hw2⟩:∃ w2,w1.alloc (.cells #[.int .i64 DO.told.status,.int .i64 DO.told.exp,.string (str DO.told.tag),.bool DO.told.changed] 83)=w2:=⟨_,rfl⟩
 have hb2:Below w1.heap.size w1 w2:=hw2▸(Below.refl _ _).alloc (Nat.le_refl _) _
 have hk2:Blk w2 w1.heap.size 83 #[.int .i64 DO.told.status,.int .i64 DO.told.exp,.string (str DO.told.tag),.bool DO.told.changed]:=hw2▸Blk.new w1 _ _
 have kb2:=kb1.fr (Fr.of_below (F:=fun _=>False) hb2) (fun h=>h)
 have d0:=hk2.cell 0
 have d1:=hk2.cell 1
 have d2:=hk2.cell 2
 have d3:=hk2.cell 3
 have t0:=kb2.cell 0
 have t1:=kb2.cell 1
 have t2:=kb2.cell 2
 have t3:=kb2.cell 3
 have f0:=kb2.frozen 0
 have f1:=kb2.frozen 1
 have f2:=kb2.frozen 2
 have f3:=kb2.frozen 3
 obtain ⟨q0,q1,q2,q3⟩:=four_c kb2 (.int .i64 DO.told.status) (.int .i64 DO.told.exp) (.string (str DO.told.tag)) (.bool DO.told.changed)
 have HP:=hid (HEND.out w1 w2 _ F' hst hf hx hb2 (((((Fr.refl (fun k=>k=w.heap.size+1) w2).set (p:=⟨w.heap.size+1,0,none⟩) (fun _=>rfl) (.int .i64 DO.told.status)).set (p:=⟨w.heap.size+1,1,none⟩) (fun _=>rfl) (.int .i64 DO.told.exp)).set (p:=⟨w.heap.size+1,2,none⟩) (fun _=>rfl) (.string (str DO.told.tag))).set (p:=⟨w.heap.size+1,3,none⟩) (fun _=>rfl) (.bool DO.told.changed)))
 unfold toldV
 clear hst hf hx kb1 hb2 hk2 kb2
 go_upto_region 2 with (fail)
 try rw [hw2]
 clear hw2
 go_wp2
 exact bodyPost_ret (v:=.tuple #[.agg #[.int .i64 DO.told.status,.int .i64 DO.told.exp,.string (str DO.told.tag),.bool DO.told.changed],.int .i64 DO.err]) (by simp [results,Tryz.results14,go_sem,q0,q1,q2,q3]) rfl HP.out
def plC (n:Int):Conf:=⟨[],1,n,1,60,3600,600⟩
theorem plC_right {n:Int} (h1:1<=n) (h2:n<=200):rightB (plC n)=true:=by unfold rightB plC;simp [h1,h2]
theorem plain16_any (n:Int) (w:World):Calls Tryz.prog 11 #[.int .i64 n] w fun e w'=>e=.returned (.agg #[.string ⟨#[]⟩,.int .i64 1,.int .i64 n,.int .i64 1,.int .i64 60,.int .i64 3600,.int .i64 600])/\Below w.heap.size w w':=by
 have HB:Hid (Below w.heap.size w (w.alloc (.cells #[.string ⟨#[]⟩,.int .i64 1,.int .i64 n,.int .i64 1,.int .i64 60,.int .i64 3600,.int .i64 600] 27))):=hid ((Below.refl _ _).alloc (Nat.le_refl _) _)
 have hk:Blk (w.alloc (.cells #[.string ⟨#[]⟩,.int .i64 1,.int .i64 n,.int .i64 1,.int .i64 60,.int .i64 3600,.int .i64 600] 27)) w.heap.size 27 #[.string ⟨#[]⟩,.int .i64 1,.int .i64 n,.int .i64 1,.int .i64 60,.int .i64 3600,.int .i64 600]:=Blk.new w _ _
 have c0:=hk.cell 0
 have c1:=hk.cell 1
 have c2:=hk.cell 2
 have c3:=hk.cell 3
 have c4:=hk.cell 4
 have c5:=hk.cell 5
 have c6:=hk.cell 6
 clear hk
 go_enter Tryz.func11,Tryz.ntmps11
 go_wp2
 exact bodyPost_ret (v:=.agg #[.string ⟨#[]⟩,.int .i64 1,.int .i64 n,.int .i64 1,.int .i64 60,.int .i64 3600,.int .i64 600]) (by simp [results,Tryz.results11,go_sem,c0,c1,c2,c3,c4,c5,c6]) rfl ⟨rfl,HB.out⟩
theorem doc_any (s:ByteArray) (w:World):Calls Tryz.prog 15 #[.string s] w fun e w'=>e=.returned (.agg #[.string s,.slice none 0 0,.slice none 0 0])/\Below w.heap.size w w':=by
 have HB:Hid (Below w.heap.size w (w.alloc (.cells #[.string s,.slice none 0 0,.slice none 0 0] 39))):=hid ((Below.refl _ _).alloc (Nat.le_refl _) _)
 have hk:Blk (w.alloc (.cells #[.string s,.slice none 0 0,.slice none 0 0] 39)) w.heap.size 39 #[.string s,.slice none 0 0,.slice none 0 0]:=Blk.new w _ _
 have c0:=hk.cell 0
 have c1:=hk.cell 1
 have c2:=hk.cell 2
 clear hk
 go_enter Tryz.func15,Tryz.ntmps15
 go_wp2
 exact bodyPost_ret (v:=.agg #[.string s,.slice none 0 0,.slice none 0 0]) (by simp [results,Tryz.results15,go_sem,c0,c1,c2]) rfl ⟨rfl,HB.out⟩
def BgnPost (c:Conf) (w:World) (e:Ending) (w':World):Prop:=∃ p F,e=.returned (.pointer (some ⟨p,0,none⟩))/\St w' p c 0 [] F/\Below w.heap.size w w'/\∀ k,F k->w.heap.size<=k
theorem begun_any {c:Conf} (h:rightB c=true) (w:World):Calls Tryz.prog 10 #[.agg #[.string (str c.host),.int .i64 c.calls,.int .i64 c.pubs,.int .i64 c.subs,.int .i64 c.least,.int .i64 c.most,.int .i64 c.usual]] w (BgnPost c w):=by
 obtain ⟨w0,hw0⟩:∃ w0,w.alloc (.cells #[.string (str c.host),.int .i64 c.calls,.int .i64 c.pubs,.int .i64 c.subs,.int .i64 c.least,.int .i64 c.most,.int .i64 c.usual] 27)=w0:=⟨_,rfl⟩
 obtain ⟨hb0,hk⟩:=conf_box hw0
 have HB0:=hid hb0
 have c0:=hk.cell 0
 have c1:=hk.cell 1
 have c2:=hk.cell 2
 have c3:=hk.cell 3
 have c4:=hk.cell 4
 have c5:=hk.cell 5
 have c6:=hk.cell 6
 have HN:=hid (stnew_any h w0)
 unfold StNewPost at HN
 clear hb0 hk h
 go_enter Tryz.func10,Tryz.ntmps10
 go_upto_region 1 with (fail)
 try rw [hw0]
 clear hw0
 go_wp2_with fail
 refine (HN.out).mono ?_
 rintro e w1 ⟨p,F,rfl,hst,hb1,hF⟩
 have HP:Hid (BgnPost c w (.returned (.pointer (some ⟨p,0,none⟩))) w1):=hid ⟨p,F,rfl,hst,thenB_ HB0.out hb1,fun k hk=>Nat.le_trans HB0.out.size (hF k hk)⟩
 clear hst hb1 hF
 go_wp2
 go_ret
 exact HP.out
end Go.Proofs.YthfmekdbcoaolaaGreatDoor
