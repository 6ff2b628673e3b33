/- Chapter 16: Do, walked: what is answered without any change but a new publication. -/
import Derived.Test.YthfmekdbcoaolaaGreatDoorGy29
namespace Go.Proofs.YthfmekdbcoaolaaGreatDoor
set_option linter.unusedSimpArgs false
set_option linter.unusedVariables false
open Go.RowKit
open Go.Lib (hid)
def DoPost (p:Nat) (c:Conf) (F:Nat->Prop) (r:DoR) (w:World) (e:Ending) (w':World):Prop:=e=.returned (.tuple #[toldV r.told,.int .i64 r.err])/\∃ F',St w' p c r.last r.L F'/\Fr F w w'/\Ext F F' w
theorem do_same {w w':World} {p:Nat} {c:Conf} {last:Int} {L:List Pub} {F:Nat->Prop} (H:St w p c last L F) {r:DoR} {t:ToldP} {n:Int} (hr:r=⟨last,L,t,n⟩) (hb:Below w.heap.size w w'):DoPost p c F r w (.returned (.tuple #[toldV t,.int .i64 n])) w':=by
 subst hr
 exact ⟨rfl,F,H.below hb,Fr.of_below hb,fun k hk=>.inl hk⟩
theorem tag_in {w:World} {p bl bt pw:Nat} {c:Conf} {last:Int} {xs:List XP} {l:List TM} {F FW:Nat->Prop} {kl:List (Int × Value)} {kt:List (ByteArray × Value)} (H:StI w p c last xs l F bl bt pw kl kt FW) (Q:StQ c last (xs.map (·.p)) l) (t:T) :
 (t∈(xs.map (·.p)).map (·.tag)/\∃ x∈xs,x.p.tag=t/\mget (str t) kt=some (.int .i64 x.p.number)/\1<=x.p.number)\/(t∉(xs.map (·.p)).map (·.tag)/\mget (str t) kt=none):=by
 by_cases h:t∈(xs.map (·.p)).map (·.tag)
 .left
  refine ⟨h,?_⟩
  obtain ⟨q,hq,e⟩:=List.mem_map.1 h
  obtain ⟨x,hx,rfl⟩:=List.mem_map.1 hq
  exact ⟨x,hx,e,by rw [<-e];exact H.gett Q.tags hx,(Q.low x.p hq).1⟩
 .exact .inr ⟨h,H.not_ h⟩
theorem tag_look {w:World} {b:Nat} {kt:List (ByteArray × Value)} (h:MapIs w b strKey kt) (t:T) {v:Int} (hv:mget (str t) kt=some (.int .i64 v)\/mget (str t) kt=none/\v=0):(Instr.lookup 52 (.map (some b)) (.string (str t)) false).run Tryz.prog w=.ok (.int .i64 v) w:=by
 have hz:(zeroValue 3).run Tryz.prog w=.ok (.int .i64 0) w:=by kernel_rfl
 have h2:=h.lookup (T:=52) (E:=3) (strLaw Tryz.underlying9) Tryz.underlying52 hz (str t) false
 rcases hv with hv|⟨hv,rfl⟩
 .rw [hv] at h2;exact h2
 .rw [hv] at h2;exact h2
set_option maxRecDepth 100000 in
set_option maxHeartbeats 8000000 in
theorem do_arg {w:World} {p B:Nat} {c:Conf} {last now:Int} {L:List Pub} {F:Nat->Prop} {a:AskP} {At An:Option Addr} {ct cn:Nat} (H:St w p c last L F) (hB:B<=w.heap.size) (hd:DocB w B a.doc (.slice At a.doc.tups.length ct) (.slice An a.doc.notes.length cn)) (hs:AskS a) (he:a.has=true->a.doc.ent.length<=99999990) (h:argE L now a=true) :
 Calls Tryz.prog 32 #[.pointer (some ⟨p,0,none⟩),.int .i64 now,.agg #[.string (str a.who),.string (str a.mtch),.int .i64 a.exp,.bool a.has,.string (str a.doc.ent),.slice At a.doc.tups.length ct,.slice An a.doc.notes.length cn,.string (str a.tag)]] w (DoPost p c F (doR c last L now a) w):=by
 have HS0:=hid H
 have HDO:Hid (doR c last L now a=⟨last,L,noTold,1⟩):=hid (doR_arg h)
 obtain ⟨xs,l,bl,bt,pw,kl,kt,FW,rfl,HI,Q⟩:=H
 obtain ⟨w0,hw0⟩:∃ w0,(w.alloc (.cells #[.string (str a.who),.string (str a.mtch),.int .i64 a.exp,.bool a.has,.string (str a.doc.ent),.slice At a.doc.tups.length ct,.slice An a.doc.notes.length cn,.string (str a.tag)] 86)).alloc (.cells #[.int .i64 0,.int .i64 0,.string ⟨#[]⟩,.bool false] 83)=w0:=⟨_,rfl⟩
 have hb0:Below w.heap.size w w0:=hw0▸((Below.refl _ _).alloc (Nat.le_refl _) _).alloc (by simp) _
 have hka:Blk w0 w.heap.size 86 #[.string (str a.who),.string (str a.mtch),.int .i64 a.exp,.bool a.has,.string (str a.doc.ent),.slice At a.doc.tups.length ct,.slice An a.doc.notes.length cn,.string (str a.tag)]:=hw0▸(Blk.new w _ _).alloc _
 have hkb:Blk w0 (w.heap.size+1) 83 #[.int .i64 0,.int .i64 0,.string ⟨#[]⟩,.bool false]:=hw0▸Blk.new' _ _ _ (by simp)
 have R0:=HI.raw.below hb0
 have HB0:=hid hb0
 have HMD:Hid (Calls Tryz.prog 33 #[.pointer (some ⟨p,0,none⟩)] w0 fun e w'=>e=.returned (.bool true)/\w0=w'):=hid (bmade_any R0.top)
 have HTK:Hid (∀ W,Calls Tryz.prog 46 #[.string (str a.tag)] W fun e w'=>e=.returned (.bool (tokB a.tag))/\W=w'):=hid (fun W=>token_any _ W (by have:=hs.tag;omega))
 have HCK:Hid (a.has=true->∀ W,Below w0.heap.size w0 W->Calls Tryz.prog 47 #[.agg #[.string (str a.doc.ent),.slice At a.doc.tups.length ct,.slice An a.doc.notes.length cn]] W fun e w'=>e=.returned (.int .i64 (docE a.doc))/\Below W.heap.size W w'):=hid (fun hh W hW=>check_any (B:=B) (Nat.le_trans hB (Nat.le_trans hb0.size hW.size)) ((hd.below (hb0.mono hB)).below (hW.mono (Nat.le_trans hB hb0.size))) hs.doc (he hh))
 have HC:Hid (∀ W,Below w0.heap.size w0 W->W.cell? ⟨p,9,none⟩=some (.map (some bt))/\W.cell? ⟨w.heap.size,3,none⟩=some (.bool a.has)/\W.cell? ⟨w.heap.size,4,none⟩=some (.string (str a.doc.ent))/\W.cell? ⟨w.heap.size,5,none⟩=some (.slice At a.doc.tups.length ct)/\W.cell? ⟨w.heap.size,6,none⟩=some (.slice An a.doc.notes.length cn)/\W.cell? ⟨w.heap.size,7,none⟩=some (.string (str a.tag))):=hid (fun W hW=>by
  have k:=(R0.below hW).top
  have k2:=hka.fr (Fr.of_below (F:=fun _=>False) hW) (fun h=>h)
  exact ⟨k.cell 9,k2.cell 3,k2.cell 4,k2.cell 5,k2.cell 6,k2.cell 7⟩)
 have HEND:Hid (∀ W,Below w0.heap.size w0 W->((((W.setCell ⟨w.heap.size+1,0,none⟩ (.int .i64 0)).setCell ⟨w.heap.size+1,1,none⟩ (.int .i64 0)).setCell ⟨w.heap.size+1,2,none⟩ (.string ⟨#[]⟩)).setCell ⟨w.heap.size+1,3,none⟩ (.bool false))=((((W.setCell ⟨w.heap.size+1,0,none⟩ (.int .i64 0)).setCell ⟨w.heap.size+1,1,none⟩ (.int .i64 0)).setCell ⟨w.heap.size+1,2,none⟩ (.string ⟨#[]⟩)).setCell ⟨w.heap.size+1,3,none⟩ (.bool false))->True):=hid (fun _ _ _=>trivial)
 have HFIN:Hid (∀ W,Below w0.heap.size w0 W->∀ (n x:Int) (tg:T) (s:ByteArray) (b:Bool) (er:Int),str tg=s->doR c last (xs.map (·.p)) now a=⟨last,xs.map (·.p),⟨n,x,tg,b⟩,er⟩->((((W.setCell ⟨w.heap.size+1,0,none⟩ (.int .i64 n)).setCell ⟨w.heap.size+1,1,none⟩ (.int .i64 x)).setCell ⟨w.heap.size+1,2,none⟩ (.string s)).setCell ⟨w.heap.size+1,3,none⟩ (.bool b)).cell? ⟨w.heap.size+1,0,none⟩=some (.int .i64 n)/\((((W.setCell ⟨w.heap.size+1,0,none⟩ (.int .i64 n)).setCell ⟨w.heap.size+1,1,none⟩ (.int .i64 x)).setCell ⟨w.heap.size+1,2,none⟩ (.string s)).setCell ⟨w.heap.size+1,3,none⟩ (.bool b)).cell? ⟨w.heap.size+1,1,none⟩=some (.int .i64 x)/\((((W.setCell ⟨w.heap.size+1,0,none⟩ (.int .i64 n)).setCell ⟨w.heap.size+1,1,none⟩ (.int .i64 x)).setCell ⟨w.heap.size+1,2,none⟩ (.string s)).setCell ⟨w.heap.size+1,3,none⟩ (.bool b)).cell? ⟨w.heap.size+1,2,none⟩=some (.string s)/\((((W.setCell ⟨w.heap.size+1,0,none⟩ (.int .i64 n)).setCell ⟨w.heap.size+1,1,none⟩ (.int .i64 x)).setCell ⟨w.heap.size+1,2,none⟩ (.string s)).setCell ⟨w.heap.size+1,3,none⟩ (.bool b)).cell? ⟨w.heap.size+1,3,none⟩=some (.bool b)/\DoPost p c F (doR c last (xs.map (·.p)) now a) w (.returned (.tuple #[.agg #[.int .i64 n,.int .i64 x,.string s,.bool b],.int .i64 er])) ((((W.setCell ⟨w.heap.size+1,0,none⟩ (.int .i64 n)).setCell ⟨w.heap.size+1,1,none⟩ (.int .i64 x)).setCell ⟨w.heap.size+1,2,none⟩ (.string s)).setCell ⟨w.heap.size+1,3,none⟩ (.bool b))):=hid (fun W hW n x tg s b er hs ht=>by
  subst hs
  obtain ⟨q0,q1,q2,q3⟩:=four_c (hkb.fr (Fr.of_below (F:=fun _=>False) hW) (fun h=>h)) (.int .i64 n) (.int .i64 x) (.string (str tg)) (.bool b)
  exact ⟨q0,q1,q2,q3,do_same HS0.out ht (four_fr (thenB_ hb0 hW) (by omega) _ _ _ _)⟩)
 have HKT:Hid (∀ W,Below w0.heap.size w0 W->Blk W (w.heap.size+1) 83 #[.int .i64 0,.int .i64 0,.string ⟨#[]⟩,.bool false]):=hid (fun W hW=>hkb.fr (Fr.of_below (F:=fun _=>False) hW) (fun h=>h))
 obtain ⟨v,HV,HVI,HVJ⟩:∃ v:Int,Hid (∀ n,(Instr.lookup 52 (.map (some bt)) (.string (str a.tag)) false).run Tryz.prog (w0.drewN n)=.ok (.int .i64 v) (w0.drewN n))/\Hid (a.tag∉(xs.map (·.p)).map (·.tag)->v=0)/\Hid (a.tag∈(xs.map (·.p)).map (·.tag)->1<=v):=by
  rcases tag_in HI Q a.tag with ⟨hin,x,hx,_,hg,h1⟩|⟨hno,hg⟩
  .exact ⟨x.p.number,hid (fun n=>tag_look (R0.tm.drewN n) _ (.inl hg)),hid (fun q=>absurd hin q),hid (fun _=>h1)⟩
  .exact ⟨0,hid (fun n=>tag_look (R0.tm.drewN n) _ (.inr ⟨hg,rfl⟩)),hid (fun _=>rfl),hid (fun q=>absurd q hno)⟩
 have HARG:=hid h
 have HX0:Hid (Below w0.heap.size w0 w0):=hid (Below.refl _ _)
 obtain ⟨x9,y3,y4,y5,y6,y7⟩:=HC.out w0 (Below.refl _ _)
 have t0:=hkb.cell 0
 have t1:=hkb.cell 1
 have t2:=hkb.cell 2
 have t3:=hkb.cell 3
 have f0:=hkb.frozen 0
 have f1:=hkb.frozen 1
 have f2:=hkb.frozen 2
 have f3:=hkb.frozen 3
 clear HEND h HI Q R0 hd hka hkb hb0 hs he hB
 have hlk:=HV.out
 generalize hDO:doR c last (xs.map (·.p)) now a=DO at *
 generalize hT:tokB a.tag=TK at *
 have HTT:=hid hT
 clear hDO hT
 by_cases hn1:now<0
 .clear hlk
  go_enter Tryz.func32,Tryz.ntmps32
  go_wp2_with fail
  refine (HMD.out).mono ?_
  rintro e w1 ⟨rfl,rfl⟩
  go_wp2_with fail
  go_quiet (fail)
  go_wp2
  obtain ⟨q0,q1,q2,q3,HP⟩:=HFIN.out (w0.drewN nq) (below_drewN HX0.out nq) 0 0 [] ⟨#[]⟩ false 1 rfl HDO.out
  exact bodyPost_ret (v:=.tuple #[.agg #[.int .i64 0,.int .i64 0,.string ⟨#[]⟩,.bool false],.int .i64 1]) (by simp [results,Tryz.results32,go_sem,q0,q1,q2,q3]) rfl HP
 .have hd1:decide (now<0)=false:=decide_eq_false hn1
  by_cases hn2:549755813888<now
  .clear hlk
   have hd2:decide (549755813888<now)=true:=decide_eq_true hn2
   have hd3:decide (now > 549755813888)=true:=decide_eq_true hn2
   go_enter Tryz.func32,Tryz.ntmps32
   go_wp2_with fail
   refine (HMD.out).mono ?_
   rintro e w1 ⟨rfl,rfl⟩
   go_wp2_with fail
   go_quiet (fail)
   go_wp2
   obtain ⟨q0,q1,q2,q3,HP⟩:=HFIN.out (w0.drewN nq) (below_drewN HX0.out nq) 0 0 [] ⟨#[]⟩ false 1 rfl HDO.out
   exact bodyPost_ret (v:=.tuple #[.agg #[.int .i64 0,.int .i64 0,.string ⟨#[]⟩,.bool false],.int .i64 1]) (by simp [results,Tryz.results32,go_sem,q0,q1,q2,q3]) rfl HP
  .have hd2:decide (549755813888<now)=false:=decide_eq_false hn2
   have hd3:decide (now > 549755813888)=false:=decide_eq_false hn2
   cases TK with
   | false =>
     clear hlk
     go_enter Tryz.func32,Tryz.ntmps32
     go_wp2_with fail
     refine (HMD.out).mono ?_
     rintro e w1 ⟨rfl,rfl⟩
     go_wp2_with fail
     go_quiet ((go_at_call 46;exact (HTK.out _).mono (fun _ _ ⟨he,hw⟩=>⟨he,_,hw.symm⟩)))
     go_wp2
     obtain ⟨q0,q1,q2,q3,HP⟩:=HFIN.out (w0.drewN nq) (below_drewN HX0.out nq) 0 0 [] ⟨#[]⟩ false 1 rfl HDO.out
     exact bodyPost_ret (v:=.tuple #[.agg #[.int .i64 0,.int .i64 0,.string ⟨#[]⟩,.bool false],.int .i64 1]) (by simp [results,Tryz.results32,go_sem,q0,q1,q2,q3]) rfl HP
   | true =>
     by_cases hv:0<v
     .clear HV HVI
      have hd4:decide (0<v)=true:=decide_eq_true hv
      have hd5:decide (v > 0)=true:=decide_eq_true hv
      go_enter Tryz.func32,Tryz.ntmps32
      go_wp2_with fail
      refine (HMD.out).mono ?_
      rintro e w1 ⟨rfl,rfl⟩
      go_wp2_with fail
      go_quiet ((go_at_call 46;exact (HTK.out _).mono (fun _ _ ⟨he,hw⟩=>⟨he,_,hw.symm⟩)))
      go_wp2
      obtain ⟨q0,q1,q2,q3,HP⟩:=HFIN.out (w0.drewN nq) (below_drewN HX0.out nq) 0 0 [] ⟨#[]⟩ false 1 rfl HDO.out
      exact bodyPost_ret (v:=.tuple #[.agg #[.int .i64 0,.int .i64 0,.string ⟨#[]⟩,.bool false],.int .i64 1]) (by simp [results,Tryz.results32,go_sem,q0,q1,q2,q3]) rfl HP
     .have hd4:decide (0<v)=false:=decide_eq_false hv
      have hd5:decide (v > 0)=false:=decide_eq_false hv
      generalize hhas:a.has=hs at *
      have HHS:=hid hhas
      clear hhas
      cases hs with
      | false =>
        exfalso
        have h9:=HARG.out
        rw [argE_not hn1 hn2 HTT.out (fun q=>by have:=HVJ.out q;omega) (fun q=>by rw [HHS.out] at q;cases q)] at h9
        cases h9
      | true =>
        generalize hDE:docE a.doc=E at *
        by_cases hE:E=0
        .exfalso
         have h9:=HARG.out
         rw [argE_not hn1 hn2 HTT.out (fun q=>by have:=HVJ.out q;omega) (fun _=>hDE.trans hE)] at h9
         cases h9
        .have hE2:(E != 0)=true:=by simpa using hE
         have HCK2:=hid (HCK.out (by simp))
         have hlk1:=HV.out 1
         have hlk2:(Instr.lookup 52 (.map (some bt)) (.string (str a.tag)) false).run Tryz.prog w0.drew=.ok (.int .i64 v) w0.drew:=hlk1
         have HX0d:Hid (Below w0.heap.size w0 w0.drew):=hid (Below.refl _ _).drew
         clear hDE hE HV HVI HVJ HCK
         go_enter Tryz.func32,Tryz.ntmps32
         go_wp2_with fail
         refine (HMD.out).mono ?_
         rintro e w1 ⟨rfl,rfl⟩
         go_wp2_with fail
         go_region_held3 (fun w'=>w'.cell? ⟨p,9,none⟩=some (.map (some bt))/\w'.cell? ⟨w.heap.size,3,none⟩=some (.bool true)/\w'.cell? ⟨w.heap.size,4,none⟩=some (.string (str a.doc.ent))/\w'.cell? ⟨w.heap.size,5,none⟩=some (.slice At a.doc.tups.length ct)/\w'.cell? ⟨w.heap.size,6,none⟩=some (.slice An a.doc.notes.length cn)/\w'.cell? ⟨w.heap.size,7,none⟩=some (.string (str a.tag)))
          (first|exact HC.out _ HX3.out|exact HC.out _ HX0d.out) (first|(go_at_call 46;(with_reducible refine (HTK.out _).mono ?_);rintro e w3 ⟨rfl,rfl⟩)|(go_at_call 47;(with_reducible refine (HCK2.out _ HX0d.out).mono ?_);rintro e w3 ⟨rfl,hb3⟩;have HX3:Hid (Below w0.heap.size w0 w3):=hid (thenB_ HX0d.out hb3);clear hb3))
         all_goals
          clear t0 t1 t2 t3 f0 f1 f2 f3
          have kt3:=HKT.out w3 HX3.out
          have t0:=kt3.cell 0
          have t1:=kt3.cell 1
          have t2:=kt3.cell 2
          have t3:=kt3.cell 3
          have f0:=kt3.frozen 0
          have f1:=kt3.frozen 1
          have f2:=kt3.frozen 2
          have f3:=kt3.frozen 3
          clear kt3
          go_wp2
          obtain ⟨q0,q1,q2,q3,HP⟩:=HFIN.out w3 HX3.out 0 0 [] ⟨#[]⟩ false 1 rfl HDO.out
          exact bodyPost_ret (v:=.tuple #[.agg #[.int .i64 0,.int .i64 0,.string ⟨#[]⟩,.bool false],.int .i64 1]) (by simp [results,Tryz.results32,go_sem,q0,q1,q2,q3]) rfl HP
end Go.Proofs.YthfmekdbcoaolaaGreatDoor
