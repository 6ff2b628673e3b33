/- Chapter 16: PubPlays. -/
import Derived.Test.YthfmekdbcoaolaaGreatDoorGy57
import Derived.Test.YthfmekdbcoaolaaGreatDoorGy55
import Derived.Test.YthfmekdbcoaolaaGreatDoorGy52
import Derived.Deep.RegionHeld3
namespace Go.Proofs.YthfmekdbcoaolaaGreatDoor
set_option linter.unusedSimpArgs false
set_option linter.unusedVariables false
open Go.RowKit
open Go.Lib (hid)
theorem rsV_cells {W:World} {d:Nat} {c:Conf} {last:Int} {v:Value} (h:Blk W d 60 (rsV c last v)):W.cell? ⟨d,0,none⟩=some (.string (str c.host))/\W.cell? ⟨d,1,none⟩=some (.int .i64 c.calls)/\W.cell? ⟨d,2,none⟩=some (.int .i64 c.pubs)/\W.cell? ⟨d,3,none⟩=some (.int .i64 c.subs)/\W.cell? ⟨d,4,none⟩=some (.int .i64 c.least)/\W.cell? ⟨d,5,none⟩=some (.int .i64 c.most)/\W.cell? ⟨d,6,none⟩=some (.int .i64 c.usual)/\W.cell? ⟨d,7,none⟩=some (.int .i64 last)/\W.cell? ⟨d,8,none⟩=some v:=⟨h.cell 0,h.cell 1,h.cell 2,h.cell 3,h.cell 4,h.cell 5,h.cell 6,h.cell 7,h.cell 8⟩
structure PRel (w0:World) (p d:Nat) (c:Conf) (k:Nat) (last:Int) (L:List Pub) (v:Value) (wr:World):Prop where
 be:Below w0.heap.size w0 wr
 two:Two w0.heap.size wr p c last L L v
 bd:Blk wr d 60 (rsV c last v)
 hd:w0.heap.size<=d
 la:last<=k
theorem PRel.below {w0 wr w':World} {p d k:Nat} {c:Conf} {last:Int} {L:List Pub} {v:Value} (h:PRel w0 p d c k last L v wr) (hb:Below wr.heap.size wr w'):PRel w0 p d c k last L v w' :=
 ⟨thenB_ h.be hb,h.two.below hb h.be.size,h.bd.fr (Fr.of_below (F:=fun _=>False) hb) (fun h=>h),h.hd,h.la⟩
theorem PRel.next {w0 wr:World} {p d k:Nat} {c:Conf} {last:Int} {L:List Pub} {v:Value} (h:PRel w0 p d c k last L v wr):PRel w0 p d c (k+1) last L v wr:=⟨h.be,h.two,h.bd,h.hd,by have:=h.la;omega⟩
theorem act_cells {W:World} {b:Nat} {x:ActX} {At An:Option Addr} {ct cn:Nat} (h:Blk W b 50 #[.bool x.ex,.int .i64 x.now,.string (str x.ask.who),.string (str x.ask.mtch),.int .i64 x.ask.exp,.bool x.ask.has,.string (str x.ask.doc.ent),.slice At x.ask.doc.tups.length ct,.slice An x.ask.doc.notes.length cn,.string (str x.ask.tag)]):W.cell? ⟨b,0,none⟩=some (.bool x.ex)/\W.cell? ⟨b,1,none⟩=some (.int .i64 x.now)/\W.cell? ⟨b,2,none⟩=some (.string (str x.ask.who))/\W.cell? ⟨b,3,none⟩=some (.string (str x.ask.mtch))/\W.cell? ⟨b,4,none⟩=some (.int .i64 x.ask.exp)/\W.cell? ⟨b,5,none⟩=some (.bool x.ask.has)/\W.cell? ⟨b,6,none⟩=some (.string (str x.ask.doc.ent))/\W.cell? ⟨b,7,none⟩=some (.slice At x.ask.doc.tups.length ct)/\W.cell? ⟨b,8,none⟩=some (.slice An x.ask.doc.notes.length cn)/\W.cell? ⟨b,9,none⟩=some (.string (str x.ask.tag)):=⟨h.cell 0,h.cell 1,h.cell 2,h.cell 3,h.cell 4,h.cell 5,h.cell 6,h.cell 7,h.cell 8,h.cell 9⟩
theorem expW_len (L:List Pub) (now:Int):(expW L now).length<=L.length:=by
 have h:∀ (ws l:List T),(risA l ws).length<=l.length+ws.length:=fun ws=>by
  induction ws with
  | nil=>intro l;exact Nat.le_refl _
  | cons a r ih =>
    intro l
    have h1:=ih (risT l a)
    have h2:=risT_len l a
    show (risA (risT l a) r).length<=_
    rw [List.length_cons]
    omega
 have h1:=h ((expD L now).map (·.who)) []
 have h2:(expD L now).length<=L.length:=List.length_filter_le _ _
 rw [List.length_map,List.length_nil] at h1
 unfold expW
 omega
theorem expire_two2 {w:World} {B p:Nat} {c:Conf} {last now:Int} {L L2:List Pub} {v:Value} (H:Two B w p c last L L2 v) (hB:B<=w.heap.size):Calls Tryz.prog 16 #[.pointer (some ⟨p,0,none⟩),.int .i64 now] w fun e w'=>(∃ A cp,e=.returned (.slice A (expW L now).length cp)/\RdV w' 9 1 (expW L now).length (.slice A (expW L now).length cp) (rows noteC (expW L now)))/\Two B w' p c last (expL L now) L2 v/\Below B w w'/\Stay w w'/\∀ n A xs,Rd w 9 1 n A xs->Rd w' 9 1 n A xs:=by
 obtain ⟨F,hst,hF,hr⟩:=H
 refine (stexpire_any hst).mono ?_
 rintro e w' ⟨A,cp,rfl,hr',F',hst',hf,hx⟩
 refine ⟨⟨A,cp,rfl,hr'⟩,⟨F',hst',fun k hk=>hF k (hx k hk),?_⟩,hf.to_below hB hF,stay_of hst hf,fun n A xs h=>h.fr hf (fun gb cs fr hb hk=>hst.notT hb (by decide) (by decide) (by decide) (by decide) (by decide) hk)⟩
 exact (hr.fr hf (fun k q=>q.2) (hf.to_below hB hF)).mono fun k _ q=>⟨q.1,fun hF'=>q.2 (hx k hF')⟩
def RXTwo (B p:Nat) (c:Conf) (last:Int) (L1 L:List Pub) (now:Int) (w:World) (e:Ending) (w':World):Prop:=∃ A5 c5 A6 c6,e=.returned (.tuple #[.agg (rsV c last (.slice A5 (expL L now).length c5)),.slice A6 (expW L now).length c6])/\Two B w' p c last L1 (expL L now) (.slice A5 (expL L now).length c5)/\Rd w' 9 1 (expW L now).length A6 (rows noteC (expW L now))/\Below w.heap.size w w'
theorem rexp_two {w:World} {B p:Nat} {c:Conf} {last now:Int} {L L1:List Pub} {v:Value} (H:Two B w p c last L1 L v) (hB:B<=w.heap.size) (hl:L.length<=1000):Calls Tryz.prog 28 #[.agg (rsV c last v),.int .i64 now] w (RXTwo B p c last L1 L now w):=by
 obtain ⟨F,h1,h2,h3⟩:=H
 refine (rexp16_any h3 hB hl).mono ?_
 rintro e w' ⟨v',u,rfl,⟨h4,h5⟩,h6⟩
 have ht:Two B w' p c last L1 (expL L now) v':=⟨F,h1.below h5,h2,h4.mono fun k hk q=>by
  rcases q with q|q
  .exact q
  .exact ⟨Nat.le_trans hB q,fun hF=>by have:=h1.lt hF;omega⟩⟩
 obtain ⟨A5,c5,rfl⟩:=ht.slice
 obtain ⟨A6,c6,rfl,_,_,h7⟩:=h6
 exact ⟨A5,c5,A6,c6,rfl,ht,h7,h5⟩
set_option maxRecDepth 100000 in
set_option maxHeartbeats 16000000 in
theorem pubPlays_any {w:World} {v:Value} (H:ActsB w w.heap.size v) (c:Conf):Calls Tryz.prog 9 #[.agg #[.string (str c.host),.int .i64 c.calls,.int .i64 c.pubs,.int .i64 c.subs,.int .i64 c.least,.int .i64 c.most,.int .i64 c.usual],v] w (TruePost w):=by
 have HAW:=hid awake16_any
 unfold AwkPost at HAW
 obtain ⟨w0,hw0⟩:∃ w0,w.alloc (.cells #[.string (str c.host),.int .i64 c.calls,.int .i64 c.pubs,.int .i64 c.subs,.int .i64 c.least,.int .i64 c.most,.int .i64 c.usual] 27)=w0:=⟨_,rfl⟩
 obtain ⟨hb0,hk⟩:=conf_box hw0
 have HB0:=hid hb0
 have HKC:Hid (∀ W,Below w0.heap.size w0 W->W.cell? ⟨w.heap.size,0,none⟩=some (.string (str c.host))/\W.cell? ⟨w.heap.size,1,none⟩=some (.int .i64 c.calls)/\W.cell? ⟨w.heap.size,2,none⟩=some (.int .i64 c.pubs)/\W.cell? ⟨w.heap.size,3,none⟩=some (.int .i64 c.subs)/\W.cell? ⟨w.heap.size,4,none⟩=some (.int .i64 c.least)/\W.cell? ⟨w.heap.size,5,none⟩=some (.int .i64 c.most)/\W.cell? ⟨w.heap.size,6,none⟩=some (.int .i64 c.usual)):=hid (fun W hW=>by
  have h9:=hk.fr (Fr.of_below (F:=fun _=>False) hW) (fun h=>h)
  exact ⟨h9.cell 0,h9.cell 1,h9.cell 2,h9.cell 3,h9.cell 4,h9.cell 5,h9.cell 6⟩)
 have HA:=hid (H.on hb0)
 have HR1:=hid (fun W=>right_any c W)
 have HR2:=hid (fun W=>rright_any c W)
 clear H hb0 hk
 have hpt:∀ (q:Nat) (W:World),(binOp .neq 24 (.pointer (some ⟨q,0,none⟩)) (.pointer none)).run Tryz.prog W=.ok (.bool true) W:=fun q W=>by simp [go_sem]
 obtain ⟨c0,c1,c2,c3,c4,c5,c6⟩:=HKC.out w0 (Below.refl _ _)
 cases hr:rightB c with
 | false =>
   rw [hr] at HR1 HR2
   have HBG:=hid (begun_no hr)
   go_enter Tryz.func9,Tryz.ntmps9
   go_upto_region 1 with (fail)
   try rw [hw0]
   clear hw0
   go_wp2_with fail
   refine (HBG.out _).mono ?_
   rintro e w1 ⟨rfl,hb1⟩
   have HB1:=hid hb1
   have HX:Hid (Below w0.heap.size w0 w1.drew):=hid HB1.out.drew
   clear hb1 c0 c1 c2 c3 c4 c5 c6
   obtain ⟨c0,c1,c2,c3,c4,c5,c6⟩:=HKC.out w1 HB1.out
   go_wp2_with fail
   go_region_held3 (fun w'=>w'.cell? ⟨w.heap.size,0,none⟩=some (.string (str c.host))/\w'.cell? ⟨w.heap.size,1,none⟩=some (.int .i64 c.calls)/\w'.cell? ⟨w.heap.size,2,none⟩=some (.int .i64 c.pubs)/\w'.cell? ⟨w.heap.size,3,none⟩=some (.int .i64 c.subs)/\w'.cell? ⟨w.heap.size,4,none⟩=some (.int .i64 c.least)/\w'.cell? ⟨w.heap.size,5,none⟩=some (.int .i64 c.most)/\w'.cell? ⟨w.heap.size,6,none⟩=some (.int .i64 c.usual))
    (first|(with_reducible exact HKC.out _ HX.out)|(with_reducible exact HKC.out _ HB1.out)) (first|(go_at_call 26;(with_reducible refine (HR1.out _).mono ?_);rintro e wq ⟨rfl,hbq⟩;have HX:=hid (thenB_ HX.out hbq);clear hbq)|(go_at_call 27;(with_reducible refine (HR2.out _).mono ?_);rintro e wq ⟨rfl,hbq⟩;have HX:=hid (thenB_ HX.out hbq);clear hbq))
   all_goals
    go_wp2_with fail
    refine (HAW.out _).mono ?_
    rintro e wz ⟨rfl,hbz⟩
    have HZ:=hid (thenB_ HB0.out (thenB_ HX.out hbz))
    go_wp2
    go_ret
    exact ⟨rfl,HZ.out⟩
 | true =>
   rw [hr] at HR1 HR2
   have HBG:=hid (begun_any hr)
   unfold BgnPost at HBG
   go_enter Tryz.func9,Tryz.ntmps9
   go_upto_region 1 with (fail)
   try rw [hw0]
   clear hw0
   go_wp2_with fail
   refine (HBG.out _).mono ?_
   rintro e w1 ⟨p,F,rfl,hst,hb1,hF⟩
   have HB1:=hid hb1
   have HT1:Hid (Two w0.heap.size w1 p c 0 [] [] (.slice none 0 0)):=hid (Two.begin_ hst hF)
   have HX:Hid (Below w0.heap.size w0 w1.drew):=hid HB1.out.drew
   have HY:Hid (Below w1.heap.size w1 w1.drew):=hid (Below.refl _ _).drew
   clear hb1 hst hF c0 c1 c2 c3 c4 c5 c6
   obtain ⟨c0,c1,c2,c3,c4,c5,c6⟩:=HKC.out w1 HB1.out
   go_wp2_with fail
   go_region_held3 (fun w'=>w'.cell? ⟨w.heap.size,0,none⟩=some (.string (str c.host))/\w'.cell? ⟨w.heap.size,1,none⟩=some (.int .i64 c.calls)/\w'.cell? ⟨w.heap.size,2,none⟩=some (.int .i64 c.pubs)/\w'.cell? ⟨w.heap.size,3,none⟩=some (.int .i64 c.subs)/\w'.cell? ⟨w.heap.size,4,none⟩=some (.int .i64 c.least)/\w'.cell? ⟨w.heap.size,5,none⟩=some (.int .i64 c.most)/\w'.cell? ⟨w.heap.size,6,none⟩=some (.int .i64 c.usual))
    (first|(with_reducible exact HKC.out _ HX.out)|(with_reducible exact HKC.out _ HB1.out)) (first|(go_at_call 26;(with_reducible refine (HR1.out _).mono ?_);rintro e wq ⟨rfl,hbq⟩;have HX:=hid (thenB_ HX.out hbq);have HY:=hid (thenB_ HY.out hbq);clear hbq)|(go_at_call 27;(with_reducible refine (HR2.out _).mono ?_);rintro e wq ⟨rfl,hbq⟩;have HX:=hid (thenB_ HX.out hbq);have HY:=hid (thenB_ HY.out hbq);clear hbq))
   all_goals
    have HT2:=hid (HT1.out.below HY.out HB1.out.size)
    clear c0 c1 c2 c3 c4 c5 c6
    obtain ⟨c0,c1,c2,c3,c4,c5,c6⟩:=HKC.out _ HX.out
    go_upto_region 7 with (fail)
    obtain ⟨w3,hw3⟩:∃ w3,wq.alloc (.cells (rsV c 0 (.slice none 0 0)) 60)=w3:=⟨_,rfl⟩
    rw [hw3]
    have hb3:Below wq.heap.size wq w3:=hw3▸(Below.refl _ _).alloc (Nat.le_refl _) _
    have H0:Hid (PRel w0 p wq.heap.size c 0 0 [] (.slice none 0 0) w3):=hid ⟨thenB_ HX.out hb3,HT2.out.below hb3 HX.out.size,hw3▸Blk.new wq _ _,HX.out.size,by omega⟩
    clear hb3 hw3 c0 c1 c2 c3 c4 c5 c6 HBG
    generalize wq.heap.size=d at *
    obtain ⟨l,A,cp,rfl,hcp,hmx,hl,hrd,hax⟩:=HA.out
    have HRD:Hid (∀ W,Below w0.heap.size w0 W->RdB W w0.heap.size 10 l.length A (rows actC l)):=hid (fun W hW=>hrd.below hW)
    have HAX:Hid (∀ (k:Nat) (hk:k<l.length) W,Below w0.heap.size w0 W->ActR W w0.heap.size l[k]):=hid (fun k hk W hW=>(hax _ (List.getElem_mem hk)).below hW)
    clear hrd hax hmx hl HA
    go_wp2
    go_loopw [7] (fun i wr=>∃ (k:Nat) (last:Int) (L:List Pub) (v:Value),k<=l.length/\k<=40/\i=.int .i64 k/\PRel w0 p d c k last L v wr) (fun i _=>l.length-(intOf i).toNat)
    case atStart=>exact ⟨0,0,[],_,Nat.zero_le _,by omega,rfl,H0.out⟩
    case round =>
     obtain ⟨k,last,L,v,hk,hk40,rfl,hR⟩:=hrel
     obtain ⟨Av,cv,rfl⟩:=hR.two.slice
     have HR:=hid hR
     clear hR
     by_cases hlt:k<l.length
     .have x0:(0:Int)<=k:=by omega
      have x1:(k:Int)<l.length:=by omega
      by_cases h40:k<40
      .have x2:(k:Int)<40:=by omega
       obtain ⟨gb,off,rfl,hgb,y0,y1,y2,y3,y4,y5,y6,y7,y8,y9⟩:=act_at (HRD.out _ HR.out.be) hlt
       have hx:=HAX.out k hlt _ HR.out.be
       obtain ⟨⟨At,ct,e1,_⟩,⟨An,cn,e2,_⟩⟩:=hx.doc
       have HDA:Hid (∀ W,Below w0.heap.size w0 W->DocB W w0.heap.size l[k].ask.doc (.slice At l[k].ask.doc.tups.length ct) (.slice An l[k].ask.doc.notes.length cn)):=hid (fun W hW=>by
        have h9:=(HAX.out k hlt W hW).doc
        rw [e1,e2] at h9
        exact h9)
       have HAS:=hid hx.s
       rw [e1] at y7
       rw [e2] at y8
       clear hx e1 e2
       generalize hxx:l[k]=x at *
       clear hxx
       go_upto_region 11 with (fail)
       obtain ⟨w4,hw4⟩:∃ w4,wr.alloc (.cells #[.bool x.ex,.int .i64 x.now,.string (str x.ask.who),.string (str x.ask.mtch),.int .i64 x.ask.exp,.bool x.ask.has,.string (str x.ask.doc.ent),.slice At x.ask.doc.tups.length ct,.slice An x.ask.doc.notes.length cn,.string (str x.ask.tag)] 50)=w4:=⟨_,rfl⟩
       rw [hw4]
       have hb4:Below wr.heap.size wr w4:=hw4▸(Below.refl _ _).alloc (Nat.le_refl _) _
       have HK4:Hid (Blk w4 wr.heap.size 50 #[.bool x.ex,.int .i64 x.now,.string (str x.ask.who),.string (str x.ask.mtch),.int .i64 x.ask.exp,.bool x.ask.has,.string (str x.ask.doc.ent),.slice At x.ask.doc.tups.length ct,.slice An x.ask.doc.notes.length cn,.string (str x.ask.tag)]):=hid (hw4▸Blk.new wr _ _)
       have HR4:=hid (HR.out.below hb4)
       have HBb:=hid HR.out.be.size
       clear hb4 hw4 y0 y1 y2 y3 y4 y5 y6 y7 y8 y9
       generalize wr.heap.size=b at *
       obtain ⟨y0,y1,y2,y3,y4,y5,y6,y7,y8,y9⟩:=act_cells HK4.out
       have HSM:=hid (small_any x.ask At An ct cn)
       go_wp2_with fail
       refine (HSM.out _).mono ?_
       rintro e w5 ⟨rfl,hb5⟩
       have HR5:=hid (HR4.out.below hb5)
       have HK5:=hid (HK4.out.fr (Fr.of_below (F:=fun _=>False) hb5) (fun h=>h))
       clear hb5 y0 y1 y2 y3 y4 y5 y6 y7 y8 y9
       obtain ⟨y0,y1,y2,y3,y4,y5,y6,y7,y8,y9⟩:=act_cells HK5.out
       obtain ⟨c0,c1,c2,c3,c4,c5,c6,c7,c8⟩:=rsV_cells HR5.out.bd
       cases hsm:smallB x.ask with
       | false =>
         have HN:=hid HR5.out.next
         go_wp2
         go_roundw
         case rel=>exact ⟨k+1,last,L,_,by omega,by omega,by go_num,HN.out⟩
         case measure=>simp [intOf] <;> omega
       | true =>
         have HEN:Hid (x.ask.has=true->x.ask.doc.ent.length<=99999990):=hid (fun _=>by
          unfold smallB at hsm
          simp only [Bool.and_eq_true,decide_eq_true_eq] at hsm
          omega)
         have HLA:Hid (last<=1000000):=hid (by have:=HR5.out.la;omega)
         obtain ⟨lq,hQ⟩:=HR5.out.two.q
         have HQ:=hid hQ
         clear hsm hQ
         cases hex:x.ex with
         | true =>
           rw [hex] at y0
           have HLX:Hid (L.length<=1000):=hid (by have:=HQ.out.len;have:=HQ.out.pubs;omega)
           have HRX:=hid (rexp_two (now:=x.now) HR5.out.two HR5.out.be.size HLX.out)
           unfold RXTwo at HRX
           go_wp2_with fail
           refine (HRX.out).mono ?_
           rintro e w6 ⟨A5,z5,A6,z6,rfl,ht6,hw6,hb6⟩
           go_upto_region 14 with (fail)
           obtain ⟨w7,hw7⟩:∃ w7,w6.alloc (.cells (rsV c last (.slice A5 (expL L x.now).length z5)) 60)=w7:=⟨_,rfl⟩
           rw [hw7]
           have hb7:Below w6.heap.size w6 w7:=hw7▸(Below.refl _ _).alloc (Nat.le_refl _) _
           have hbn:Below w5.heap.size w5 w7:=thenB_ hb6 hb7
           have HN7:Hid (Blk w7 w6.heap.size 60 (rsV c last (.slice A5 (expL L x.now).length z5))):=hid (hw7▸Blk.new w6 _ _)
           have HT7:=hid (ht6.below hb7 (Nat.le_trans HR5.out.be.size hb6.size))
           have HD7:=hid (HR5.out.bd.fr (Fr.of_below (F:=fun _=>False) hbn) (fun h=>h))
           have HK7:=hid (HK5.out.fr (Fr.of_below (F:=fun _=>False) hbn) (fun h=>h))
           have HW7:=hid (hw6.below hb7)
           have HB7:=hid (thenB_ HR5.out.be hbn)
           clear hw7 hb7 hbn ht6 hw6 hb6 y0 y1 y2 y3 y4 y5 y6 y7 y8 y9 c0 c1 c2 c3 c4 c5 c6 c7 c8
           generalize w6.heap.size=nb at *
           obtain ⟨n0,n1,n2,n3,n4,n5',n6,n7,n8⟩:=rsV_cells HN7.out
           obtain ⟨q0,q1,q2,q3,q4,q5,q6,q7,q8⟩:=rsV_cells HD7.out
           have f0:=HD7.out.frozen 0
           have f1:=HD7.out.frozen 1
           have f2:=HD7.out.frozen 2
           have f3:=HD7.out.frozen 3
           have f4:=HD7.out.frozen 4
           have f5:=HD7.out.frozen 5
           have f6:=HD7.out.frozen 6
           have f7:=HD7.out.frozen 7
           have f8:=HD7.out.frozen 8
           go_upto_region 15 with (fail)
           obtain ⟨w8,hw8⟩:∃ w8,(((((((((w7.setCell ⟨d,0,none⟩ (.string (str c.host))).setCell ⟨d,1,none⟩ (.int .i64 c.calls)).setCell ⟨d,2,none⟩ (.int .i64 c.pubs)).setCell ⟨d,3,none⟩ (.int .i64 c.subs)).setCell ⟨d,4,none⟩ (.int .i64 c.least)).setCell ⟨d,5,none⟩ (.int .i64 c.most)).setCell ⟨d,6,none⟩ (.int .i64 c.usual)).setCell ⟨d,7,none⟩ (.int .i64 last)).setCell ⟨d,8,none⟩ (.slice A5 (expL L x.now).length z5))=w8:=⟨_,rfl⟩
           rw [hw8]
           have hfr:Fr (fun k=>k=d) w7 w8:=hw8▸set9_fr w7 d (.string (str c.host)) (.int .i64 c.calls) (.int .i64 c.pubs) (.int .i64 c.subs) (.int .i64 c.least) (.int .i64 c.most) (.int .i64 c.usual) (.int .i64 last) (.slice A5 (expL L x.now).length z5)
           have HD8:Hid (Blk w8 d 60 (rsV c last (.slice A5 (expL L x.now).length z5))):=hid (hw8▸set9_blk HD7.out (.string (str c.host)) (.int .i64 c.calls) (.int .i64 c.pubs) (.int .i64 c.subs) (.int .i64 c.least) (.int .i64 c.most) (.int .i64 c.usual) (.int .i64 last) (.slice A5 (expL L x.now).length z5))
           have hbd:¬b=d:=fun e=>by
            have k1:=HK7.out
            have k2:=HD7.out
            rw [e] at k1
            unfold Blk at k1 k2
            rw [k1] at k2
            injection k2 with k2
            injection k2 with _ k2 _
            exact absurd k2 (by decide)
           have HK8:=hid (HK7.out.fr hfr hbd)
           have HT8:=hid (HT7.out.set HD7.out (by decide) (by decide) (by decide) hfr HR5.out.hd)
           have HW8:=hid (HW7.out.fr hfr (fun gb cs fr hb e=>by
            have k2:=HD7.out
            unfold Blk at k2
            rw [e,k2] at hb
            injection hb with hb
            injection hb with _ hb _
            exact absurd hb (by decide)))
           have HB8:=hid (HB7.out.trans (hfr.to_below HB7.out.size (fun k e=>by have:=HR5.out.hd;omega)))
           clear hw8 hfr hbd n0 n1 n2 n3 n4 n5' n6 n7 n8 q0 q1 q2 q3 q4 q5 q6 q7 q8 f0 f1 f2 f3 f4 f5 f6 f7 f8
           obtain ⟨y0,y1,y2,y3,y4,y5,y6,y7,y8,y9⟩:=act_cells HK8.out
           have HEX:=hid (expire_two2 (now:=x.now) HT8.out HB8.out.size)
           go_wp2_with fail
           refine (HEX.out).mono ?_
           rintro e w9 ⟨⟨A9,z9,rfl,hr9⟩,ht9,hb9,hs9,hk9⟩
           obtain ⟨A9',c9',e9,_,_,hr9'⟩:=hr9
           injection e9 with e9 _ e9b
           subst e9 e9b
           have HTX:=hid (rtexts_same (c1:=z9) (c2:=z6) hr9' (hk9 _ _ _ HW8.out) (by
            have h9:=expW_len L x.now
            have:=HLX.out
            omega))
           have HT9:=hid ht9
           have HD9:=hid (hs9 _ _ _ HD8.out (by decide))
           have HK9:=hid (hs9 _ _ _ HK8.out (by decide))
           have HB9:=hid (HB8.out.trans hb9)
           clear hr9' ht9 hb9 hs9 hk9 y0 y1 y2 y3 y4 y5 y6 y7 y8 y9
           go_wp2_with fail
           refine (HTX.out).mono ?_
           rintro e wt ⟨rfl,nt,hnt⟩
           have hbt:Below w9.heap.size w9 wt:=hnt▸below_drewN (Below.refl _ _) nt
           have HRt:Hid (PRel w0 p d c (k+1) last (expL L x.now) (.slice A5 (expL L x.now).length z5) wt):=hid ⟨thenB_ HB9.out hbt,HT9.out.below hbt HB9.out.size,HD9.out.fr (Fr.of_below (F:=fun _=>False) hbt) (fun h=>h),HR5.out.hd,by have:=HR5.out.la;omega⟩
           have HKt:=hid (HK9.out.fr (Fr.of_below (F:=fun _=>False) hbt) (fun h=>h))
           clear hbt hnt
           obtain ⟨y0,y1,y2,y3,y4,y5,y6,y7,y8,y9⟩:=act_cells HKt.out
           obtain ⟨m0,m1,m2,m3,m4,m5,m6⟩:=HKC.out _ HRt.out.be
           have HSE1:=hid (fun W=>seconds_any c x.ask.exp W)
           have HSE2:=hid (fun W=>rseconds_any c x.ask.exp W)
           unfold secV at HSE1 HSE2
           go_wp2_with fail
           refine (HSE1.out _).mono ?_
           rintro e wa ⟨rfl,hba⟩
           have HRa:=hid (HRt.out.below hba)
           have HKa:=hid (HKt.out.fr (Fr.of_below (F:=fun _=>False) hba) (fun h=>h))
           clear hba y0 y1 y2 y3 y4 y5 y6 y7 y8 y9 m0 m1 m2 m3 m4 m5 m6
           obtain ⟨y0,y1,y2,y3,y4,y5,y6,y7,y8,y9⟩:=act_cells HKa.out
           obtain ⟨m0,m1,m2,m3,m4,m5,m6⟩:=HKC.out _ HRa.out.be
           go_wp2_with fail
           refine (HSE2.out _).mono ?_
           rintro e wb ⟨rfl,hbb⟩
           have HRb:=hid (HRa.out.below hbb)
           have HKb:=hid (HKa.out.fr (Fr.of_below (F:=fun _=>False) hbb) (fun h=>h))
           clear hbb y0 y1 y2 y3 y4 y5 y6 y7 y8 y9 m0 m1 m2 m3 m4 m5 m6 HSE1 HSE2
           generalize secN c x.ask.exp=sn at *
           generalize secK c x.ask.exp=sk at *
           have HLAb:Hid (last<=1000000):=hid (by have:=HRb.out.la;omega)
           obtain ⟨lq2,Q2⟩:=HRb.out.two.q
           have HLN:Hid (((expL L x.now)).length<=200):=hid (by have:=Q2.len;have:=Q2.pubs;omega)
           have HDC:Hid (∀ q∈(expL L x.now),q.doc.tups.length<=1000000/\q.doc.notes.length<=1000000):=hid (fun q hq=>by
            have h9:=docE_lens (Q2.docs q hq)
            omega)
           have HLV:Hid (∀ W,Below wb.heap.size wb W->∀ who,Calls Tryz.prog 18 #[.pointer (some ⟨p,0,none⟩),.string (str who)] W fun e w'=>∃ v,e=.returned v/\PubsR w' (((expL L x.now)).filter fun q=>decide (q.who=who)) v/\Below W.heap.size W w'):=hid (fun W hW who=>(live_sto (HRb.out.two.below hW HRb.out.be.size).sto HLAb.out).mono fun e w' q=>PubsR.of_live q)
           have HRV:Hid (∀ W,Below wb.heap.size wb W->∀ who,Calls Tryz.prog 25 #[.agg (rsV c last (.slice A5 (expL L x.now).length z5)),.string (str who)] W fun e w'=>∃ v,e=.returned v/\PubsR w' (((expL L x.now)).filter fun q=>decide (q.who=who)) v/\Below W.heap.size W w'):=hid (fun W hW who=>rlive_any (c:=c) (last:=last) (HRb.out.two.below hW HRb.out.be.size).rl (thenB_ HRb.out.be hW).size (by have:=HLN.out;omega))
           have HSA:Hid (∀ W who v1 v2,PubsR W (((expL L x.now)).filter fun q=>decide (q.who=who)) v1->PubsR W (((expL L x.now)).filter fun q=>decide (q.who=who)) v2->Calls Tryz.prog 24 #[v1,v2] W fun e w'=>e=.returned (.bool true)/\Below W.heap.size W w'):=hid (fun W who v1 v2 h1 h2=>rsame16_any h1 h2 (by have:=List.length_filter_le (fun q:Pub=>decide (q.who=who)) ((expL L x.now));have:=HLN.out;omega) (fun q hq=>HDC.out q (List.mem_filter.1 hq).1))
           have HLE:Hid (∀ W,Below wb.heap.size wb W->Calls Tryz.prog 17 #[.pointer (some ⟨p,0,none⟩)] W fun e w'=>e=.returned (.int .i64 ((expL L x.now)).length)/\W=w'):=hid (fun W hW=>len_sto (HRb.out.two.below hW HRb.out.be.size).sto)
           have HSS:Hid (∀ W,Below wb.heap.size wb W->W.cell? ⟨d,0,none⟩=some (.string (str c.host))/\W.cell? ⟨d,1,none⟩=some (.int .i64 c.calls)/\W.cell? ⟨d,2,none⟩=some (.int .i64 c.pubs)/\W.cell? ⟨d,3,none⟩=some (.int .i64 c.subs)/\W.cell? ⟨d,4,none⟩=some (.int .i64 c.least)/\W.cell? ⟨d,5,none⟩=some (.int .i64 c.most)/\W.cell? ⟨d,6,none⟩=some (.int .i64 c.usual)/\W.cell? ⟨d,7,none⟩=some (.int .i64 last)/\W.cell? ⟨d,8,none⟩=some (.slice A5 (expL L x.now).length z5)/\W.cell? ⟨b,2,none⟩=some (.string (str x.ask.who))):=hid (fun W hW=>by
            obtain ⟨m0,m1,m2,m3,m4,m5,m6,m7,m8⟩:=rsV_cells (HRb.out.bd.fr (Fr.of_below (F:=fun _=>False) hW) (fun h=>h))
            obtain ⟨_,_,z2,_⟩:=act_cells (HKb.out.fr (Fr.of_below (F:=fun _=>False) hW) (fun h=>h))
            exact ⟨m0,m1,m2,m3,m4,m5,m6,m7,m8,z2⟩)
           have HXr:Hid (Below wb.heap.size wb wb):=hid (Below.refl _ _)
           have HXd:Hid (Below wb.heap.size wb wb.drew):=hid (Below.refl _ _).drew
           clear Q2
           go_wp2_with fail
           go_region_held3 (fun w'=>w'.cell? ⟨d,0,none⟩=some (.string (str c.host))/\w'.cell? ⟨d,1,none⟩=some (.int .i64 c.calls)/\w'.cell? ⟨d,2,none⟩=some (.int .i64 c.pubs)/\w'.cell? ⟨d,3,none⟩=some (.int .i64 c.subs)/\w'.cell? ⟨d,4,none⟩=some (.int .i64 c.least)/\w'.cell? ⟨d,5,none⟩=some (.int .i64 c.most)/\w'.cell? ⟨d,6,none⟩=some (.int .i64 c.usual)/\w'.cell? ⟨d,7,none⟩=some (.int .i64 last)/\w'.cell? ⟨d,8,none⟩=some (.slice A5 (expL L x.now).length z5)/\w'.cell? ⟨b,2,none⟩=some (.string (str x.ask.who)))
            (first|(with_reducible exact HSS.out _ HX14.out)|(with_reducible exact HSS.out _ HX13.out)|(with_reducible exact HSS.out _ HX12.out)|(with_reducible exact HSS.out _ HXd.out)|(with_reducible exact HSS.out _ HXr.out)) (first|(go_at_call 18;(with_reducible refine (HLV.out _ HXd.out _).mono ?_);rintro e w12 ⟨v12,rfl,hp12,hb12⟩;have HP12:=hid hp12;have HX12:Hid (Below wb.heap.size wb w12):=hid (HXd.out.trans (hb12.mono HXd.out.size));clear hp12 hb12)|(go_at_call 25;(with_reducible refine (HRV.out _ HX12.out _).mono ?_);rintro e w13 ⟨v13,rfl,hp13,hb13⟩;have HP13:=hid hp13;have HP12':=hid (HP12.out.below hb13);have HX13:Hid (Below wb.heap.size wb w13):=hid (HX12.out.trans (hb13.mono HX12.out.size));clear hp13 hb13)|(go_at_call 24;(with_reducible refine (HSA.out _ _ _ _ HP12'.out HP13.out).mono ?_);rintro e w14 ⟨rfl,hb14⟩;have HX14:Hid (Below wb.heap.size wb w14):=hid (HX13.out.trans (hb14.mono HX13.out.size));clear hb14)|(go_at_call 17;(with_reducible refine (HLE.out _ HX14.out).mono ?_);rintro e wl ⟨rfl,rfl⟩))
           all_goals
            have HZ:=hid (HRb.out.below HX14.out)
            go_wp2
            go_roundw
            case rel=>exact ⟨k+1,last,(expL L x.now),_,by omega,by omega,by go_num,HZ.out⟩
            case measure=>simp [intOf] <;> omega
         | false =>
           rw [hex] at y0
           have HRX:Hid (Calls Tryz.prog 29 #[.agg (rsV c last (.slice Av L.length cv)),.int .i64 x.now,.agg #[.string (str x.ask.who),.string (str x.ask.mtch),.int .i64 x.ask.exp,.bool x.ask.has,.string (str x.ask.doc.ent),.slice At x.ask.doc.tups.length ct,.slice An x.ask.doc.notes.length cn,.string (str x.ask.tag)]] w5 fun e w'=>∃ A5 z5,e=.returned (.tuple #[.agg (rsV c (doR c last L x.now x.ask).last (.slice A5 (doR c last L x.now x.ask).L.length z5)),.agg #[.int .i64 (doR c last L x.now x.ask).told.status,.int .i64 (doR c last L x.now x.ask).told.exp,.string (str (doR c last L x.now x.ask).told.tag),.bool (doR c last L x.now x.ask).told.changed],.int .i64 (doR c last L x.now x.ask).err])/\Two w0.heap.size w' p c last L (doR c last L x.now x.ask).L (.slice A5 (doR c last L x.now x.ask).L.length z5)/\Below w5.heap.size w5 w'):=hid ((rdo_two HR5.out.two HQ.out HR5.out.be.size (HDA.out _ HR5.out.be) HAS.out HEN.out HLA.out).mono (by
            rintro e w' ⟨v',rfl,h1,h2⟩
            obtain ⟨A5,z5,rfl⟩:=h1.slice
            exact ⟨A5,z5,rfl,h1,h2⟩))
           have HDS:Hid (∀ W (vv:Value),Two w0.heap.size W p c last L (doR c last L x.now x.ask).L vv->w0.heap.size<=W.heap.size->DocB W w0.heap.size x.ask.doc (.slice At x.ask.doc.tups.length ct) (.slice An x.ask.doc.notes.length cn)->Calls Tryz.prog 14 #[.pointer (some ⟨p,0,none⟩),.int .i64 x.now,.agg #[.string (str x.ask.who),.string (str x.ask.mtch),.int .i64 x.ask.exp,.bool x.ask.has,.string (str x.ask.doc.ent),.slice At x.ask.doc.tups.length ct,.slice An x.ask.doc.notes.length cn,.string (str x.ask.tag)]] W fun e w'=>e=.returned (.tuple #[.agg #[.int .i64 (doR c last L x.now x.ask).told.status,.int .i64 (doR c last L x.now x.ask).told.exp,.string (str (doR c last L x.now x.ask).told.tag),.bool (doR c last L x.now x.ask).told.changed],.int .i64 (doR c last L x.now x.ask).err])/\Two w0.heap.size w' p c (doR c last L x.now x.ask).last (doR c last L x.now x.ask).L (doR c last L x.now x.ask).L vv/\Below w0.heap.size W w'/\Stay W w'):=hid (fun W vv hT hB hD=>does_two hT hB hD HAS.out HEN.out HLA.out)
           have HLD:Hid ((doR c last L x.now x.ask).last<=last+1):=hid doR_last
           generalize doR c last L x.now x.ask=D at *
           go_wp2_with fail
           refine (HRX.out).mono ?_
           rintro e w6 ⟨A5,z5,rfl,ht6,hb6⟩
           go_upto_region 18 with (fail)
           obtain ⟨w7,hw7⟩:∃ w7,(w6.alloc (.cells (rsV c D.last (.slice A5 D.L.length z5)) 60)).alloc (.cells #[.int .i64 D.told.status,.int .i64 D.told.exp,.string (str D.told.tag),.bool D.told.changed] 33)=w7:=⟨_,rfl⟩
           rw [hw7]
           have hb7:Below w6.heap.size w6 w7:=hw7▸((Below.refl _ _).alloc (Nat.le_refl _) _).alloc (by simp) _
           have hbn:Below w5.heap.size w5 w7:=thenB_ hb6 hb7
           have HN7:Hid (Blk w7 w6.heap.size 60 (rsV c D.last (.slice A5 D.L.length z5))):=hid (hw7▸(Blk.new w6 _ _).alloc _)
           have HG7:Hid (Blk w7 (w6.heap.size+1) 33 #[.int .i64 D.told.status,.int .i64 D.told.exp,.string (str D.told.tag),.bool D.told.changed]):=hid (hw7▸Blk.new' (w6.alloc _) _ _ (by simp))
           have HT7:=hid (ht6.below hb7 (Nat.le_trans HR5.out.be.size hb6.size))
           have HD7:=hid (HR5.out.bd.fr (Fr.of_below (F:=fun _=>False) hbn) (fun h=>h))
           have HK7:=hid (HK5.out.fr (Fr.of_below (F:=fun _=>False) hbn) (fun h=>h))
           have HB7:=hid (thenB_ HR5.out.be hbn)
           clear hw7 hb7 hbn ht6 hb6 y0 y1 y2 y3 y4 y5 y6 y7 y8 y9 c0 c1 c2 c3 c4 c5 c6 c7 c8
           generalize w6.heap.size=nb at *
           obtain ⟨n0,n1,n2,n3,n4,n5,n6,n7,n8⟩:=rsV_cells HN7.out
           obtain ⟨q0,q1,q2,q3,q4,q5,q6,q7,q8⟩:=rsV_cells HD7.out
           have f0:=HD7.out.frozen 0
           have f1:=HD7.out.frozen 1
           have f2:=HD7.out.frozen 2
           have f3:=HD7.out.frozen 3
           have f4:=HD7.out.frozen 4
           have f5:=HD7.out.frozen 5
           have f6:=HD7.out.frozen 6
           have f7:=HD7.out.frozen 7
           have f8:=HD7.out.frozen 8
           go_upto_region 19 with (fail)
           obtain ⟨w8,hw8⟩:∃ w8,(((((((((w7.setCell ⟨d,0,none⟩ (.string (str c.host))).setCell ⟨d,1,none⟩ (.int .i64 c.calls)).setCell ⟨d,2,none⟩ (.int .i64 c.pubs)).setCell ⟨d,3,none⟩ (.int .i64 c.subs)).setCell ⟨d,4,none⟩ (.int .i64 c.least)).setCell ⟨d,5,none⟩ (.int .i64 c.most)).setCell ⟨d,6,none⟩ (.int .i64 c.usual)).setCell ⟨d,7,none⟩ (.int .i64 D.last)).setCell ⟨d,8,none⟩ (.slice A5 D.L.length z5))=w8:=⟨_,rfl⟩
           rw [hw8]
           have hfr:Fr (fun k=>k=d) w7 w8:=hw8▸set9_fr w7 d (.string (str c.host)) (.int .i64 c.calls) (.int .i64 c.pubs) (.int .i64 c.subs) (.int .i64 c.least) (.int .i64 c.most) (.int .i64 c.usual) (.int .i64 D.last) (.slice A5 D.L.length z5)
           have HD8:Hid (Blk w8 d 60 (rsV c D.last (.slice A5 D.L.length z5))):=hid (hw8▸set9_blk HD7.out (.string (str c.host)) (.int .i64 c.calls) (.int .i64 c.pubs) (.int .i64 c.subs) (.int .i64 c.least) (.int .i64 c.most) (.int .i64 c.usual) (.int .i64 D.last) (.slice A5 D.L.length z5))
           have hbd:¬b=d:=fun e=>by
            have k1:=HK7.out
            have k2:=HD7.out
            rw [e] at k1
            unfold Blk at k1 k2
            rw [k1] at k2
            injection k2 with k2
            injection k2 with _ k2 _
            exact absurd k2 (by decide)
           have hgd:¬nb+1=d:=fun e=>by
            have k1:=HG7.out
            have k2:=HD7.out
            rw [e] at k1
            unfold Blk at k1 k2
            rw [k1] at k2
            injection k2 with k2
            injection k2 with _ k2 _
            exact absurd k2 (by decide)
           have HK8:=hid (HK7.out.fr hfr hbd)
           have HG8:=hid (HG7.out.fr hfr hgd)
           have HT8:=hid (HT7.out.set HD7.out (by decide) (by decide) (by decide) hfr HR5.out.hd)
           have HB8:=hid (HB7.out.trans (hfr.to_below HB7.out.size (fun k e=>by have:=HR5.out.hd;omega)))
           clear hw8 hfr hbd hgd n0 n1 n2 n3 n4 n5 n6 n7 n8 q0 q1 q2 q3 q4 q5 q6 q7 q8 f0 f1 f2 f3 f4 f5 f6 f7 f8
           obtain ⟨y0,y1,y2,y3,y4,y5,y6,y7,y8,y9⟩:=act_cells HK8.out
           go_wp2_with fail
           refine (HDS.out _ _ HT8.out HB8.out.size (HDA.out _ HB8.out)).mono ?_
           rintro e w9 ⟨rfl,ht9,hb9,hs9⟩
           go_upto_region 20 with (fail)
           obtain ⟨w10,hw10⟩:∃ w10,w9.alloc (.cells #[.int .i64 D.told.status,.int .i64 D.told.exp,.string (str D.told.tag),.bool D.told.changed] 33)=w10:=⟨_,rfl⟩
           rw [hw10]
           have hb10:Below w9.heap.size w9 w10:=hw10▸(Below.refl _ _).alloc (Nat.le_refl _) _
           have HU:=hid (show Blk w10 w9.heap.size 33 #[.int .i64 D.told.status,.int .i64 D.told.exp,.string (str D.told.tag),.bool D.told.changed] from hw10▸Blk.new w9 _ _)
           have hst:=hs9.trans (Stay.below hb10)
           have HGt:=hid (hst _ _ _ HG8.out (by decide))
           have HKt:=hid (hst _ _ _ HK8.out (by decide))
           have HRt:Hid (PRel w0 p d c (k+1) D.last D.L (.slice A5 D.L.length z5) w10):=hid ⟨thenB_ (HB8.out.trans hb9) hb10,ht9.below hb10 (Nat.le_trans HB8.out.size hb9.size),hst _ _ _ HD8.out (by decide),HR5.out.hd,by have:=HR5.out.la;have:=HLD.out;omega⟩
           clear hw10 hb10 hst ht9 hb9 hs9 y0 y1 y2 y3 y4 y5 y6 y7 y8 y9
           generalize w9.heap.size=ub at *
           have g0:=HGt.out.cell 0
           have g1:=HGt.out.cell 1
           have g2:=HGt.out.cell 2
           have g3:=HGt.out.cell 3
           have u0:=HU.out.cell 0
           have u1:=HU.out.cell 1
           have u2:=HU.out.cell 2
           have u3:=HU.out.cell 3
           have r1:=neq_told D.told.status D.told.exp D.told.status D.told.exp (str D.told.tag) (str D.told.tag) D.told.changed D.told.changed
           have r1':∀ W,(binOp .neq 33 (.agg #[.int .i64 D.told.status,.int .i64 D.told.exp,.string (str D.told.tag),.bool D.told.changed]) (.agg #[.int .i64 D.told.status,.int .i64 D.told.exp,.string (str D.told.tag),.bool D.told.changed])).run Tryz.prog W=.ok (.bool false) W:=fun W=>by
            have h9:=r1 W
            simpa using h9
           clear r1
           go_upto_region 22 with (fail)
           clear g0 g1 g2 g3 u0 u1 u2 u3 r1'
           obtain ⟨y0,y1,y2,y3,y4,y5,y6,y7,y8,y9⟩:=act_cells HKt.out
           obtain ⟨m0,m1,m2,m3,m4,m5,m6⟩:=HKC.out _ HRt.out.be
           have HSE1:=hid (fun W=>seconds_any c x.ask.exp W)
           have HSE2:=hid (fun W=>rseconds_any c x.ask.exp W)
           unfold secV at HSE1 HSE2
           go_wp2_with fail
           refine (HSE1.out _).mono ?_
           rintro e wa ⟨rfl,hba⟩
           have HRa:=hid (HRt.out.below hba)
           have HKa:=hid (HKt.out.fr (Fr.of_below (F:=fun _=>False) hba) (fun h=>h))
           clear hba y0 y1 y2 y3 y4 y5 y6 y7 y8 y9 m0 m1 m2 m3 m4 m5 m6
           obtain ⟨y0,y1,y2,y3,y4,y5,y6,y7,y8,y9⟩:=act_cells HKa.out
           obtain ⟨m0,m1,m2,m3,m4,m5,m6⟩:=HKC.out _ HRa.out.be
           go_wp2_with fail
           refine (HSE2.out _).mono ?_
           rintro e wb ⟨rfl,hbb⟩
           have HRb:=hid (HRa.out.below hbb)
           have HKb:=hid (HKa.out.fr (Fr.of_below (F:=fun _=>False) hbb) (fun h=>h))
           clear hbb y0 y1 y2 y3 y4 y5 y6 y7 y8 y9 m0 m1 m2 m3 m4 m5 m6 HSE1 HSE2
           generalize secN c x.ask.exp=sn at *
           generalize secK c x.ask.exp=sk at *
           have HLAb:Hid (D.last<=1000000):=hid (by have:=HRb.out.la;omega)
           obtain ⟨lq2,Q2⟩:=HRb.out.two.q
           have HLN:Hid ((D.L).length<=200):=hid (by have:=Q2.len;have:=Q2.pubs;omega)
           have HDC:Hid (∀ q∈D.L,q.doc.tups.length<=1000000/\q.doc.notes.length<=1000000):=hid (fun q hq=>by
            have h9:=docE_lens (Q2.docs q hq)
            omega)
           have HLV:Hid (∀ W,Below wb.heap.size wb W->∀ who,Calls Tryz.prog 18 #[.pointer (some ⟨p,0,none⟩),.string (str who)] W fun e w'=>∃ v,e=.returned v/\PubsR w' ((D.L).filter fun q=>decide (q.who=who)) v/\Below W.heap.size W w'):=hid (fun W hW who=>(live_sto (HRb.out.two.below hW HRb.out.be.size).sto HLAb.out).mono fun e w' q=>PubsR.of_live q)
           have HRV:Hid (∀ W,Below wb.heap.size wb W->∀ who,Calls Tryz.prog 25 #[.agg (rsV c D.last (.slice A5 D.L.length z5)),.string (str who)] W fun e w'=>∃ v,e=.returned v/\PubsR w' ((D.L).filter fun q=>decide (q.who=who)) v/\Below W.heap.size W w'):=hid (fun W hW who=>rlive_any (c:=c) (last:=D.last) (HRb.out.two.below hW HRb.out.be.size).rl (thenB_ HRb.out.be hW).size (by have:=HLN.out;omega))
           have HSA:Hid (∀ W who v1 v2,PubsR W ((D.L).filter fun q=>decide (q.who=who)) v1->PubsR W ((D.L).filter fun q=>decide (q.who=who)) v2->Calls Tryz.prog 24 #[v1,v2] W fun e w'=>e=.returned (.bool true)/\Below W.heap.size W w'):=hid (fun W who v1 v2 h1 h2=>rsame16_any h1 h2 (by have:=List.length_filter_le (fun q:Pub=>decide (q.who=who)) (D.L);have:=HLN.out;omega) (fun q hq=>HDC.out q (List.mem_filter.1 hq).1))
           have HLE:Hid (∀ W,Below wb.heap.size wb W->Calls Tryz.prog 17 #[.pointer (some ⟨p,0,none⟩)] W fun e w'=>e=.returned (.int .i64 (D.L).length)/\W=w'):=hid (fun W hW=>len_sto (HRb.out.two.below hW HRb.out.be.size).sto)
           have HSS:Hid (∀ W,Below wb.heap.size wb W->W.cell? ⟨d,0,none⟩=some (.string (str c.host))/\W.cell? ⟨d,1,none⟩=some (.int .i64 c.calls)/\W.cell? ⟨d,2,none⟩=some (.int .i64 c.pubs)/\W.cell? ⟨d,3,none⟩=some (.int .i64 c.subs)/\W.cell? ⟨d,4,none⟩=some (.int .i64 c.least)/\W.cell? ⟨d,5,none⟩=some (.int .i64 c.most)/\W.cell? ⟨d,6,none⟩=some (.int .i64 c.usual)/\W.cell? ⟨d,7,none⟩=some (.int .i64 D.last)/\W.cell? ⟨d,8,none⟩=some (.slice A5 D.L.length z5)/\W.cell? ⟨b,2,none⟩=some (.string (str x.ask.who))):=hid (fun W hW=>by
            obtain ⟨m0,m1,m2,m3,m4,m5,m6,m7,m8⟩:=rsV_cells (HRb.out.bd.fr (Fr.of_below (F:=fun _=>False) hW) (fun h=>h))
            obtain ⟨_,_,z2,_⟩:=act_cells (HKb.out.fr (Fr.of_below (F:=fun _=>False) hW) (fun h=>h))
            exact ⟨m0,m1,m2,m3,m4,m5,m6,m7,m8,z2⟩)
           have HXr:Hid (Below wb.heap.size wb wb):=hid (Below.refl _ _)
           have HXd:Hid (Below wb.heap.size wb wb.drew):=hid (Below.refl _ _).drew
           clear Q2
           go_wp2_with fail
           go_region_held3 (fun w'=>w'.cell? ⟨d,0,none⟩=some (.string (str c.host))/\w'.cell? ⟨d,1,none⟩=some (.int .i64 c.calls)/\w'.cell? ⟨d,2,none⟩=some (.int .i64 c.pubs)/\w'.cell? ⟨d,3,none⟩=some (.int .i64 c.subs)/\w'.cell? ⟨d,4,none⟩=some (.int .i64 c.least)/\w'.cell? ⟨d,5,none⟩=some (.int .i64 c.most)/\w'.cell? ⟨d,6,none⟩=some (.int .i64 c.usual)/\w'.cell? ⟨d,7,none⟩=some (.int .i64 D.last)/\w'.cell? ⟨d,8,none⟩=some (.slice A5 D.L.length z5)/\w'.cell? ⟨b,2,none⟩=some (.string (str x.ask.who)))
            (first|(with_reducible exact HSS.out _ HX14.out)|(with_reducible exact HSS.out _ HX13.out)|(with_reducible exact HSS.out _ HX12.out)|(with_reducible exact HSS.out _ HXd.out)|(with_reducible exact HSS.out _ HXr.out)) (first|(go_at_call 18;(with_reducible refine (HLV.out _ HXd.out _).mono ?_);rintro e w12 ⟨v12,rfl,hp12,hb12⟩;have HP12:=hid hp12;have HX12:Hid (Below wb.heap.size wb w12):=hid (HXd.out.trans (hb12.mono HXd.out.size));clear hp12 hb12)|(go_at_call 25;(with_reducible refine (HRV.out _ HX12.out _).mono ?_);rintro e w13 ⟨v13,rfl,hp13,hb13⟩;have HP13:=hid hp13;have HP12':=hid (HP12.out.below hb13);have HX13:Hid (Below wb.heap.size wb w13):=hid (HX12.out.trans (hb13.mono HX12.out.size));clear hp13 hb13)|(go_at_call 24;(with_reducible refine (HSA.out _ _ _ _ HP12'.out HP13.out).mono ?_);rintro e w14 ⟨rfl,hb14⟩;have HX14:Hid (Below wb.heap.size wb w14):=hid (HX13.out.trans (hb14.mono HX13.out.size));clear hb14)|(go_at_call 17;(with_reducible refine (HLE.out _ HX14.out).mono ?_);rintro e wl ⟨rfl,rfl⟩))
           all_goals
            have HZ:=hid (HRb.out.below HX14.out)
            go_wp2
            go_roundw
            case rel=>exact ⟨k+1,D.last,D.L,_,by omega,by omega,by go_num,HZ.out⟩
            case measure=>simp [intOf] <;> omega
      .have x2:¬(k:Int)<40:=by omega
       go_wp2_with fail
       refine (HAW.out _).mono ?_
       rintro e wz ⟨rfl,hbz⟩
       have HZ:=hid (thenB_ HB0.out (thenB_ HR.out.be hbz))
       go_wp2
       go_ret
       exact ⟨rfl,HZ.out⟩
     .have x1:¬(k:Int)<l.length:=by omega
      go_wp2_with fail
      refine (HAW.out _).mono ?_
      rintro e wz ⟨rfl,hbz⟩
      have HZ:=hid (thenB_ HB0.out (thenB_ HR.out.be hbz))
      go_wp2
      go_ret
      exact ⟨rfl,HZ.out⟩
end Go.Proofs.YthfmekdbcoaolaaGreatDoor
