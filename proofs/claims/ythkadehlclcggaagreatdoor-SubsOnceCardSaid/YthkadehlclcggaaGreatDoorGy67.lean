/- Chapter 19: SubsLasts. -/
import Derived.Test.YthkadehlclcggaaGreatDoorGy66
namespace Go.Proofs.YthkadehlclcggaaGreatDoor
set_option linter.unusedSimpArgs false
set_option linter.unusedVariables false
open Go.RowKit
open Go.Lib (hid)
theorem TbX.mono {X Y:Nat->Prop} {w:World} {p:Nat} {c:Conf} {last:Int} {L:List SubP} (h:TbX X w p c last L) (hXY:∀ k,Y k->X k):TbX Y w p c last L:=by
 obtain ⟨F,hs,hF⟩:=h.ex
 exact ⟨⟨F,hs,fun k hk q=>hF k hk (hXY k q)⟩,fun k hk=>h.lt k (hXY k hk)⟩
theorem TbX.loc {X:Nat->Prop} {w w':World} {p:Nat} {c:Conf} {last:Int} {L:List SubP} (h:TbX X w p c last L) (hf:Fr (fun k=>k=w.heap.size) (w.alloc (.cells sub0 39)) w'):TbX X w' p c last L/\Below w.heap.size w w' :=
 ⟨((h.own ((Below.refl _ _).alloc (Nat.le_refl _) _) (Nat.le_refl _) (by simp)).set (.inr rfl) (sub_blk0 w) (by decide) (by decide) hf).mono fun k hk=>.inl hk,below_upfr ((Below.refl _ _).alloc (Nat.le_refl _) _) (Nat.le_refl _) hf (fun k e=>by omega)⟩
theorem get_one {X:Nat->Prop} {w:World} {p:Nat} {c:Conf} {last n:Int} {S:SubP} (h:TbX X w p c last [S]) (hn:S.number=n):Calls Tryz.prog 15 #[.pointer (some ⟨p,0,none⟩),.int .i64 n] w fun e w'=>∃ v',e=.returned (.tuple #[.agg (subA S v'),.bool true])/\SubM w' S v'/\Below w.heap.size w w':=by
 refine (get_x (n:=n) h).mono ?_
 rintro e w' (⟨s,v',hs,_,rfl,hm,hb⟩|⟨hx,_⟩)
 .rw [List.mem_singleton] at hs
  subst hs
  exact ⟨v',rfl,hm,hb⟩
 .exact absurd (by rw [<-hn];simp) hx
theorem sec_n {m e:Int} (hk:secK (plS m) e=true) (hn:secN (plS m) e≠0):1<=secN (plS m) e/\secN (plS m) e<=3600:=by
 have e1:secN (plS m) e=if e<0 then 600 else if 3600<e then 3600 else e:=rfl
 have e2:secK (plS m) e=(decide (e<0) || decide (3600<e) || decide (e=0) || decide (60<=e)):=rfl
 rw [e1] at hn ⊢
 rw [e2] at hk
 simp only [Bool.or_eq_true,decide_eq_true_eq] at hk
 by_cases h1:e<0
 .rw [if_pos h1];omega
 .rw [if_neg h1] at hn ⊢
  by_cases h2:3600<e
  .rw [if_pos h2];omega
  .rw [if_neg h2] at hn ⊢;omega
theorem tick_in {now:Int} (h0:0<=now) (h1:now<=549755813888):tickB now=true:=by unfold tickB;simp [h0,h1]
set_option maxRecDepth 100000 in
set_option maxHeartbeats 8000000 in
theorem subsLasts_any (exp:Int) (at_ later:Nat) (ha:at_<=65535) (hl:later<=18446744073709551615) (w:World) :
 Calls Tryz.prog 4 #[.int .i64 exp,.int .u16 at_,.int .u64 later] w (Awk19 w):=by
 have HAW:=hid awake19_any
 unfold Awk19 at HAW
 have HPL:=hid (plain19_any 1)
 have HBG:Hid (∀ W,Calls Tryz.prog 10 #[.agg #[.string ⟨#[]⟩,.int .i64 1,.int .i64 1,.int .i64 1,.int .i64 60,.int .i64 3600,.int .i64 600]] W (Bgn19 (plS 1) W)):=hid (fun W=>begun19_any (c:=plS 1) (plS_right (by omega) (by omega)) W)
 have HSC:Hid (∀ W,Calls Tryz.prog 18 #[.agg #[.string ⟨#[]⟩,.int .i64 1,.int .i64 1,.int .i64 1,.int .i64 60,.int .i64 3600,.int .i64 600],.int .i64 exp] W fun e w'=>e=.returned (.tuple #[.int .i64 (secN (plS 1) exp),.bool (secK (plS 1) exp)])/\Below W.heap.size W w'):=hid (fun W=>rseconds_any (plS 1) exp W)
 have HR1:Hid (∀ W,Calls Tryz.prog 13 #[.int .i64 1,.string ⟨#[]⟩,.int .i64 exp] W (RqPost (reqT 1 [] exp) W)):=hid (fun W=>request_any 1 exp [] W)
 have HR2:Hid (∀ W,Calls Tryz.prog 13 #[.int .i64 2,.string ⟨#[120]⟩,.int .i64 exp] W (RqPost (reqT 2 [120] exp) W)):=hid (fun W=>request_any 2 exp [120] W)
 have HX:Hid (secK (plS 1) exp=true->secN (plS 1) exp≠0->(1<=secN (plS 1) exp/\secN (plS 1) exp<=3600) /\
  (∀ X W p q,TbX X W p (plS 1) 0 []->ReqB W W.heap.size (reqT 1 [] exp) q->Calls Tryz.prog 12 #[.pointer (some ⟨p,0,none⟩),.int .i64 0,.agg (reqA (reqT 1 [] exp) q),.string ⟨#[97,64,98]⟩,.string ⟨#[99,64,100]⟩,.int .i64 0,.string ⟨#[120]⟩] W fun e w'=>∃ v',e=.returned (.tuple #[.agg (subA (sT 1 0 (10*secN (plS 1) exp) [] (dT 1 [120])) v'),.int .i64 0])/\SubM w' (sT 1 0 (10*secN (plS 1) exp) [] (dT 1 [120])) v'/\TbTo X p (plS 1) 1 [sT 1 0 (10*secN (plS 1) exp) [] (dT 1 [120])] W w') /\
  (∀ X W p q u now,0<=now->now<=549755813888->TbX X W p (plS 1) 1 [sT 1 0 u [] (dT 1 [120])]->ReqB W W.heap.size (reqT 2 [120] exp) q->Calls Tryz.prog 14 #[.pointer (some ⟨p,0,none⟩),.int .i64 now,.int .i64 1,.agg (reqA (reqT 2 [120] exp) q)] W fun e w'=>∃ v',e=.returned (.tuple #[.agg (subA (sT 1 0 (now+10*secN (plS 1) exp) [] (dT 2 [120])) v'),.int .i64 0])/\SubM w' (sT 1 0 (now+10*secN (plS 1) exp) [] (dT 2 [120])) v'/\TbTo X p (plS 1) 1 [sT 1 0 (now+10*secN (plS 1) exp) [] (dT 2 [120])] W w')):=hid (fun hk hn=>by
  refine ⟨sec_n hk hn,fun X W p q H hr=>?_,fun X W p q u now h0 h1 H hr=>?_⟩
  .have h9:=begin_x (now:=0) (state:=0) (who:=abT) (watcher:=cdT) (tag:=[120]) H (by omega) (Nat.le_refl _) hr (reqT_z _ _ _) (by decide)
   rw [begS_T rfl (.inl rfl) tok_x adr_x hk (by simp),lasts_T hn] at h9
   simp only [Int.zero_add,List.nil_append] at h9
   exact h9
  .have h9:=again_x (now:=now) (num:=1) H (Nat.le_refl _) hr (reqT_z _ _ _)
   rw [agaS_T (tick_in h0 h1) (by omega) hk (by omega),lasts_T hn] at h9
   exact h9)
 unfold Bgn19 at HBG
 unfold RqPost at HR1 HR2
 generalize hN:secN (plS 1) exp=N at *
 generalize hK:secK (plS 1) exp=K at *
 clear hN hK
 go_enter Tryz.func4,Tryz.ntmps4
 go_wp2_with fail
 refine (HPL.out _).mono ?_
 rintro e w1 ⟨rfl,hb1⟩
 have HB1:=hid hb1
 clear hb1
 go_wp2_with fail
 refine (HBG.out _).mono ?_
 rintro e w2 ⟨p,F,rfl,hst,hb2,hF⟩
 have HB2:=hid (thenB_ HB1.out hb2)
 have HT2:Hid (TbX (fun k=>k<w.heap.size) w2 p (plS 1) 0 []):=hid (TbX.start hst (fun k hk=>Nat.le_trans HB1.out.size (hF k hk)) HB2.out.size)
 clear hst hb2 hF
 go_wp2_with fail
 refine (HPL.out _).mono ?_
 rintro e w3 ⟨rfl,hb3⟩
 have HT3:=hid (HT2.out.below hb3)
 have HB3:=hid (thenB_ HB2.out hb3)
 clear hb3
 go_wp2_with fail
 refine (HSC.out _).mono ?_
 rintro e w4 ⟨rfl,hb4⟩
 have HT4:=hid (HT3.out.below hb4)
 have HB4:=hid (thenB_ HB3.out hb4)
 clear hb4
 by_cases hgo:K=true/\N≠0
 .obtain ⟨rfl,hn⟩:=hgo
  obtain ⟨⟨hn1,hn2⟩,hd1,hd2⟩:=HX.out rfl hn
  have HD1:=hid hd1
  have HD2:=hid hd2
  clear hd1 hd2 HX
  go_wp2_with fail
  refine (HR1.out _).mono ?_
  rintro e w5 ⟨q5,rfl,hr5,hb5⟩
  have HT5:=hid (HT4.out.below hb5)
  have HB5:=hid (thenB_ HB4.out hb5)
  have HRQ5:=hid hr5
  clear hr5 hb5
  go_wp2_with fail
  refine (HD1.out _ _ _ _ HT5.out HRQ5.out).mono ?_
  rintro e w6 ⟨v6,rfl,m6,t6⟩
  have HT6:=hid t6
  have HON6:=hid (subA_one (s:=sT 1 0 (10*N) [] (dT 1 [120])) m6.ok.1 m6.ok.2)
  have HB6:Hid (Below w.heap.size w w6):=hid (HB5.out.trans (below_out t6.fr (fun k h=>h) HB5.out.size))
  clear m6 t6
  go_upto_region 8 with (refine wpl_store rfl 39 (.tmp 10) (.tmp 42) rfl w6.heap.size 0 rfl (subA (sT 1 0 (10*N) [] (dT 1 [120])) v6) rfl (sub_blk0 w6) (Nat.le_refl 34) (subA (sT 1 0 (10*N) [] (dT 1 [120])) v6) rfl (by kernel_rfl) HON6.out ?_;intro w7 hk7 hf7)
  obtain ⟨t7,b7⟩:=HT6.out.tab.loc hf7
  have HT7:=hid t7
  have HB7:=hid (thenB_ HB6.out b7)
  have a1:w7.cell? ⟨w6.heap.size,7,none⟩=some (.int .i64 (10*N)):=hk7.cell 7
  clear hk7 hf7 t7 b7
  go_upto_region 11 with (fail)
  obtain ⟨now,hnow⟩:∃ now:Int,(at_:Int) % (10*N)=now:=⟨_,rfl⟩
  have hw0:0<=now:=hnow▸Int.emod_nonneg _ (by omega)
  have hw1:now<36000:=by
   have:=Int.emod_lt_of_pos (at_:Int) (show (0:Int)<10*N by omega)
   omega
  rw [hnow]
  clear hnow a1
  go_wp2_with fail
  refine (HR2.out _).mono ?_
  rintro e w8 ⟨q8,rfl,hr8,hb8⟩
  have HT8:=hid (HT7.out.below hb8)
  have HB8:=hid (thenB_ HB7.out hb8)
  have HRQ8:=hid hr8
  clear hr8 hb8
  go_wp2_with fail
  refine (HD2.out _ _ _ _ _ _ hw0 (by omega) HT8.out HRQ8.out).mono ?_
  rintro e w9 ⟨v9,rfl,m9,t9⟩
  have HT9:=hid t9
  have HON9:=hid (subA_one (s:=sT 1 0 (now+10*N) [] (dT 2 [120])) m9.ok.1 m9.ok.2)
  have HB9:Hid (Below w.heap.size w w9):=hid (HB8.out.trans (below_out t9.fr (fun k h=>h) HB8.out.size))
  clear m9 t9
  go_upto_region 12 with (refine wpl_store rfl 39 (.tmp 13) (.tmp 64) rfl w9.heap.size 0 rfl (subA (sT 1 0 (now+10*N) [] (dT 2 [120])) v9) rfl (sub_blk0 w9) (Nat.le_refl 34) (subA (sT 1 0 (now+10*N) [] (dT 2 [120])) v9) rfl (by kernel_rfl) HON9.out ?_;intro wa hka hfa)
  obtain ⟨ta,ba⟩:=HT9.out.tab.loc hfa
  have HTa:=hid ta
  have HBa:=hid (thenB_ HB9.out ba)
  have a1:wa.cell? ⟨w9.heap.size,7,none⟩=some (.int .i64 (now+10*N)):=hka.cell 7
  clear hka hfa ta ba
  go_upto_region 15 with (fail)
  obtain ⟨d,hd⟩:∃ d:Int,(later:Int) % (20*N)=d:=⟨_,rfl⟩
  have hd0:0<=d:=hd▸Int.emod_nonneg _ (by omega)
  have hd1:d<72000:=by
   have:=Int.emod_lt_of_pos (later:Int) (show (0:Int)<20*N by omega)
   omega
  have hwr:wrap64 (now+wrap64 ((later:Int) % (20*N)))=now+d:=by
   unfold wrap64;omega
  rw [hwr]
  clear hd hwr a1 ha hl
  by_cases hend:now+10*N<=now+d
  .have HEX:Hid (∀ W,TbX (fun k=>k<w.heap.size) W p (plS 1) 1 [sT 1 0 (now+10*N) [] (dT 2 [120])]->Calls Tryz.prog 19 #[.pointer (some ⟨p,0,none⟩),.int .i64 (now+d)] W fun e w'=>(∃ A k,e=.returned (.slice A 1 k))/\TbTo (fun k=>k<w.heap.size) p (plS 1) 1 [sT 1 2 (now+10*N) timeoutN (dT 2 [120])] W w'):=hid (fun W H=>by
    have h9:=expire_x (now:=now+d) H
    rcases exp_one (num:=1) (st:=0) (u:=now+10*N) (w:=now+d) (rs:=[]) (d:=dT 2 [120]) (by omega) with ⟨h1,h2,h3⟩|⟨h1,h2,h3⟩
    .rw [h2,h3] at h9
     exact h9.mono fun e w' ⟨⟨A,k,q,_⟩,t⟩=>⟨⟨A,k,q⟩,t⟩
    .exact absurd h1 (by omega))
   have HEY:Hid (∀ W,TbX (fun k=>k<w.heap.size) W p (plS 1) 1 [sT 1 2 (now+10*N) timeoutN (dT 2 [120])]->Calls Tryz.prog 19 #[.pointer (some ⟨p,0,none⟩),.int .i64 (now+d)] W fun e w'=>(∃ A k,e=.returned (.slice A 0 k))/\TbTo (fun k=>k<w.heap.size) p (plS 1) 1 [sT 1 2 (now+10*N) timeoutN (dT 2 [120])] W w'):=hid (fun W H=>by
    have h9:=expire_x (now:=now+d) H
    rw [exp_over.1,exp_over.2] at h9
    exact h9.mono fun e w' ⟨⟨A,k,q,_⟩,t⟩=>⟨⟨A,k,q⟩,t⟩)
   have x1:now+10*N<=now+d:=by omega
   have x2:decide (now+10*N<=now+d)=true:=by simpa using hend
   have x3:decide (now+d>=now+10*N)=true:=by simpa using hend
   have x4:decide (10*N<=d)=true:=by simpa using hend
   clear hend
   go_wp2_with fail
   refine (HEX.out _ HTa.out).mono ?_
   rintro e wb ⟨⟨A,k,rfl⟩,tb⟩
   have HTb:=hid tb
   have HBb:Hid (Below w.heap.size w wb):=hid (HBa.out.trans (below_out tb.fr (fun k h=>h) HBa.out.size))
   have HGE:=hid (get_one (n:=1) tb.tab rfl)
   clear tb
   go_wp2_with fail
   refine (HGE.out).mono ?_
   rintro e wc ⟨vc,rfl,mc,bc⟩
   have HTc:=hid (HTb.out.tab.below bc)
   have HBc:=hid (thenB_ HBb.out bc)
   have HONc:=hid (subA_one (s:=sT 1 2 (now+10*N) timeoutN (dT 2 [120])) mc.ok.1 mc.ok.2)
   clear mc bc
   go_upto_region 17 with (refine wpl_store rfl 39 (.tmp 17) (.tmp 91) rfl wc.heap.size 0 rfl (subA (sT 1 2 (now+10*N) timeoutN (dT 2 [120])) vc) rfl (sub_blk0 wc) (Nat.le_refl 34) (subA (sT 1 2 (now+10*N) timeoutN (dT 2 [120])) vc) rfl (by kernel_rfl) HONc.out ?_;intro wd hkd hfd)
   obtain ⟨td,bd⟩:=HTc.out.loc hfd
   have HTd:=hid td
   have HBd:=hid (thenB_ HBc.out bd)
   have d5:wd.cell? ⟨wc.heap.size,5,none⟩=some (.int .i64 2):=hkd.cell 5
   have d6:wd.cell? ⟨wc.heap.size,6,none⟩=some (.string ⟨#[116,105,109,101,111,117,116]⟩):=hkd.cell 6
   clear hkd hfd td bd
   go_wp2_with fail
   refine (HEY.out _ HTd.out).mono ?_
   rintro e we ⟨⟨A2,k2,rfl⟩,te⟩
   have HBe:Hid (Below w.heap.size w we):=hid (HBd.out.trans (below_out te.fr (fun k h=>h) HBd.out.size))
   clear te
   go_wp2_with fail
   refine (HAW.out _).mono ?_
   rintro e wf ⟨rfl,bf⟩
   have HBf:=hid (thenB_ HBe.out bf)
   clear bf
   go_wp2
   go_ret
   exact ⟨rfl,HBf.out⟩
  .have HEX:Hid (∀ W,TbX (fun k=>k<w.heap.size) W p (plS 1) 1 [sT 1 0 (now+10*N) [] (dT 2 [120])]->Calls Tryz.prog 19 #[.pointer (some ⟨p,0,none⟩),.int .i64 (now+d)] W fun e w'=>(∃ A k,e=.returned (.slice A 0 k))/\TbTo (fun k=>k<w.heap.size) p (plS 1) 1 [sT 1 0 (now+10*N) [] (dT 2 [120])] W w'):=hid (fun W H=>by
    have h9:=expire_x (now:=now+d) H
    rcases exp_one (num:=1) (st:=0) (u:=now+10*N) (w:=now+d) (rs:=[]) (d:=dT 2 [120]) (by omega) with ⟨h1,h2,h3⟩|⟨h1,h2,h3⟩
    .exact absurd h1 (by omega)
    .rw [h2,h3] at h9
     exact h9.mono fun e w' ⟨⟨A,k,q,_⟩,t⟩=>⟨⟨A,k,q⟩,t⟩)
   have HEY:Hid (∀ W,TbX (fun k=>k<w.heap.size) W p (plS 1) 1 [sT 1 0 (now+10*N) [] (dT 2 [120])]->Calls Tryz.prog 19 #[.pointer (some ⟨p,0,none⟩),.int .i64 (now+d)] W fun e w'=>(∃ A k,e=.returned (.slice A 0 k))/\TbTo (fun k=>k<w.heap.size) p (plS 1) 1 [sT 1 0 (now+10*N) [] (dT 2 [120])] W w'):=hid (fun W H=>by
    have h9:=expire_x (now:=now+d) H
    rcases exp_one (num:=1) (st:=0) (u:=now+10*N) (w:=now+d) (rs:=[]) (d:=dT 2 [120]) (by omega) with ⟨h1,h2,h3⟩|⟨h1,h2,h3⟩
    .exact absurd h1 (by omega)
    .rw [h2,h3] at h9
     exact h9.mono fun e w' ⟨⟨A,k,q,_⟩,t⟩=>⟨⟨A,k,q⟩,t⟩)
   have x1:¬now+10*N<=now+d:=by omega
   have x2:decide (now+10*N<=now+d)=false:=by simpa using hend
   have x3:decide (now+d>=now+10*N)=false:=by simpa using hend
   have x4:decide (10*N<=d)=false:=by simpa using hend
   clear hend
   go_wp2_with fail
   refine (HEX.out _ HTa.out).mono ?_
   rintro e wb ⟨⟨A,k,rfl⟩,tb⟩
   have HTb:=hid tb
   have HBb:Hid (Below w.heap.size w wb):=hid (HBa.out.trans (below_out tb.fr (fun k h=>h) HBa.out.size))
   have HGE:=hid (get_one (n:=1) tb.tab rfl)
   clear tb
   go_wp2_with fail
   refine (HGE.out).mono ?_
   rintro e wc ⟨vc,rfl,mc,bc⟩
   have HTc:=hid (HTb.out.tab.below bc)
   have HBc:=hid (thenB_ HBb.out bc)
   have HONc:=hid (subA_one (s:=sT 1 0 (now+10*N) [] (dT 2 [120])) mc.ok.1 mc.ok.2)
   clear mc bc
   go_upto_region 17 with (refine wpl_store rfl 39 (.tmp 17) (.tmp 91) rfl wc.heap.size 0 rfl (subA (sT 1 0 (now+10*N) [] (dT 2 [120])) vc) rfl (sub_blk0 wc) (Nat.le_refl 34) (subA (sT 1 0 (now+10*N) [] (dT 2 [120])) vc) rfl (by kernel_rfl) HONc.out ?_;intro wd hkd hfd)
   obtain ⟨td,bd⟩:=HTc.out.loc hfd
   have HTd:=hid td
   have HBd:=hid (thenB_ HBc.out bd)
   have d5:wd.cell? ⟨wc.heap.size,5,none⟩=some (.int .i64 0):=hkd.cell 5
   have d6:wd.cell? ⟨wc.heap.size,6,none⟩=some (.string ⟨#[]⟩):=hkd.cell 6
   clear hkd hfd td bd
   go_wp2_with fail
   refine (HEY.out _ HTd.out).mono ?_
   rintro e we ⟨⟨A2,k2,rfl⟩,te⟩
   have HBe:Hid (Below w.heap.size w we):=hid (HBd.out.trans (below_out te.fr (fun k h=>h) HBd.out.size))
   clear te
   go_wp2_with fail
   refine (HAW.out _).mono ?_
   rintro e wf ⟨rfl,bf⟩
   have HBf:=hid (thenB_ HBe.out bf)
   clear bf
   go_wp2
   go_ret
   exact ⟨rfl,HBf.out⟩
 .have hends:K=false\/(K=true/\N=0):=by
   cases K
   .exact .inl rfl
   .exact .inr ⟨rfl,by by_cases h:N=0;exact h;exact absurd ⟨rfl,h⟩ hgo⟩
  clear hgo HX
  rcases hends with rfl|⟨rfl,rfl⟩
  all_goals
   go_wp2_with fail
   refine (HAW.out _).mono ?_
   rintro e w5 ⟨rfl,hb5⟩
   have HB5:=hid (thenB_ HB4.out hb5)
   clear hb5
   go_wp2
   go_ret
   exact ⟨rfl,HB5.out⟩
end Go.Proofs.YthkadehlclcggaaGreatDoor
