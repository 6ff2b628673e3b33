/- Chapter 19, the document's answer: Drop. Chapter 19, the document's answer: Expire. Chapter 19, the document's answer: Expire's walk. Chapter 19, the document's answer: rosterref18.Begin. -/
import Derived.Test.YthkadehlclcggaaGreatDoorGx75
import Derived.Test.YthkadehlclcggaaGreatDoorGx74
import Derived.Test.YthkadehlclcggaaGreatDoorGx63
import Derived.Test.YthkadehlclcggaaGreatDoorGx56
namespace Go.Proofs.YthkadehlclcggaaGreatDoor
set_option linter.unusedSimpArgs false
set_option linter.unusedVariables false
open Go.RowKit
open Go.Lib (hid)
structure ROwn (w0:World) (B:Nat) (L:List SubP) (vl:Value) (wr:World) (m:Nat):Prop where
 ex:∃ ys:List SX,wr.ownsRow w0.heap.size 39 34 vl ys.length (rows subC ys)/\ys.map (·.s)=L/\ys.length<=m/\∀ y∈ys,SubW wr B y.s y.v
theorem ROwn.nil (w0:World) (B m:Nat) (wr:World):ROwn w0 B [] (.slice none 0 0) wr m:=⟨[],⟨rfl,.inl ⟨rfl,rfl⟩⟩,rfl,Nat.zero_le _,by simp⟩
theorem ROwn.up {w0 wr:World} {B m m':Nat} {L:List SubP} {vl:Value} (h:ROwn w0 B L vl wr m) (hm:m<=m'):ROwn w0 B L vl wr m':=by
 obtain ⟨ys,h1,h2,h3,h4⟩:=h.ex
 exact ⟨ys,h1,h2,Nat.le_trans h3 hm,h4⟩
theorem ROwn.app {w0 w2 w4:World} {B m:Nat} {vl v4:Value} {x:SX} {ys:List SX} (h1:w2.ownsRow w0.heap.size 39 34 vl ys.length (rows subC ys)) (h4:∀ y∈ys,SubW w2 B y.s y.v) (hx:SubW w2 B x.s x.v) (hm:ys.length<=m) (hB:B<=w0.heap.size)
 (ho:w4.ownsRow w0.heap.size 39 34 v4 (ys.length+1) (rows subC ys++subC x)) (hb:Below w0.heap.size w2 w4) (hg:w2.grownBy w4 vl.ownBlock):ROwn w0 B ((ys++[x]).map (·.s)) v4 w4 (m+1):=by
 have f:Fr (fun k=>vl.ownBlock=some k) w2 w4:=Fr.of_grown hg (fun k e=>e)
 have kp:KeepP (fun k=>vl.ownBlock=some k) w2:=fun b ds T fr hb hT e=>by
  obtain ⟨cs,hc⟩:=own_tyU h1 e
  rw [hc] at hb
  injection hb with hb
  injection hb with _ hb _
  rcases hT with rfl|rfl <;> exact absurd hb (by decide)
 refine ⟨ys++[x],?_,rfl,by rw [List.length_append,List.length_singleton];omega,fun y hy=>?_⟩
 .rw [rows_snoc,List.length_append]
  exact ho
 .rcases List.mem_append.1 hy with r|r
  .exact (h4 y r).fr f kp (hb.mono hB)
  .rw [List.mem_singleton] at r
   subst r
   exact hx.fr f kp (hb.mono hB)
theorem drop_keep {L:List SubP} {n:Int} {j:Nat} (hj:j<L.length) (h:L[j].number≠n):dropS (L.take (j+1)) n=dropS (L.take j) n++[L[j]]:=by
 unfold dropS
 rw [List.take_succ_eq_append_getElem hj,List.filter_append,List.filter_cons_of_pos (by simpa using h)]
 rfl
theorem drop_gone {L:List SubP} {n:Int} {j:Nat} (hj:j<L.length) (h:L[j].number=n):dropS (L.take (j+1)) n=dropS (L.take j) n:=by
 unfold dropS
 rw [List.take_succ_eq_append_getElem hj,List.filter_append,List.filter_cons_of_neg (by simpa using h)]
 simp
theorem drop_has (L:List SubP) (n:Int):decide (((dropS L n).length:Int)<(L.length:Int))=hasS L n:=by
 unfold hasS
 apply decide_eq_decide.2
 unfold dropS
 induction L with
 | nil=>simp
 | cons a r ih =>
   have hle:=List.length_filter_le (fun s:SubP=>decide (s.number≠n)) r
   by_cases h:a.number=n
   .rw [List.filter_cons_of_neg (by simpa using h),List.map_cons,List.length_cons]
    exact ⟨fun _=>by rw [h];exact List.mem_cons_self,fun _=>by omega⟩
   .rw [List.filter_cons_of_pos (by simpa using h),List.map_cons,List.length_cons,List.length_cons,List.mem_cons]
    constructor
    .intro q
     exact .inr (ih.1 (by omega))
    .intro q
     rcases q with q|q
     .exact absurd q.symm h
     .have:=ih.2 q
      omega
set_option maxRecDepth 100000 in
set_option maxHeartbeats 8000000 in
theorem rtdrop_any {w:World} {N:Nat->Prop} {B:Nat} {L:List SubP} {v:Value} {c:Conf} {last n:Int} (H:RfL w N B L v) (hB:B<=w.heap.size) (hl:L.length<=1000) :
 Calls Tryz.prog 55 #[.agg (rtV c last v),.int .i64 n] w (RtuPost N B c last (dropS L n) (.bool (hasS L n)) w):=by
 obtain ⟨xs,A,cp,rfl,rfl,hcp,hmx,hrd,_,hsw⟩:=H
 rw [List.length_map] at hl
 obtain ⟨w0,hw0⟩:∃ w0,(w.alloc (.cells (rtV c last (.slice A xs.length cp)) 71)).alloc (.cells rt0 71)=w0:=⟨_,rfl⟩
 obtain ⟨hs0,hbx⟩:=rt_box hw0
 have HS0:=hid hs0
 have HBX:=hid hbx
 have HBZ:Hid (B<=w.heap.size/\B<=w0.heap.size):=hid ⟨hB,by omega⟩
 have HR:Hid (∀ W,Below w0.heap.size w0 W->Rd W 39 34 xs.length A (rows subC xs)/\(∀ x∈xs,SubW W B x.s x.v)):=hid (fun W hW=>⟨hrd.below (hbx W hW).be,fun x hx=>(hsw x hx).below (hbx W hW).be hB⟩)
 have HL:=hid hl
 have HHAS:=hid (drop_has (xs.map (·.s)) n)
 clear hs0 hbx hrd hsw hmx hB hl
 unfold rt0 at hw0
 go_enter Tryz.func55,Tryz.ntmps55
 go_upto_region 1 with (fail)
 try rw [hw0]
 clear hw0
 generalize Value.agg (rtV c last (.slice A xs.length cp))=q1
 go_wp2_with fail
 go_loopw [6,7] (fun vl i wr=>∃ j:Nat,j<=xs.length/\i=.int .i64 j/\ROwn w0 B (dropS ((xs.map (·.s)).take j) n) vl wr j/\Below w0.heap.size w0 wr) (fun _ i _=>xs.length-(intOf i).toNat)
 case atStart=>exact ⟨0,by omega,rfl,ROwn.nil _ _ _ _,Below.refl _ _⟩
 case round =>
  obtain ⟨j,hj,rfl,hO,hbw⟩:=hrel
  have HO:=hid hO
  have HBW:=hid hbw
  have c8:wr.cell? ⟨w.heap.size,8,none⟩=some (.slice A xs.length cp):=(HBX.out _ hbw).t.cell 8
  clear hO
  by_cases hlt:j<xs.length
  .obtain ⟨gb,off,rfl,hgb,hc0⟩:=sb_row (HR.out _ hbw).1 hlt
   have HRG:=hid (sb_range hc0)
   have y0:wr.cell? ⟨gb,off+j*34,none⟩=some (.int .i64 xs[j].s.number):=hc0 0 (by omega)
   have hlm:j<(xs.map (·.s)).length:=by simpa using hlt
   have ex:(xs.map (·.s))[j]=(xs[j]).s:=by simp
   have hl1000:j<=1000:=by have:=HL.out;omega
   have x0:(0:Int)<=j:=by omega
   have x1:(j:Int)<xs.length:=by omega
   have hxw:=(HR.out _ hbw).2 _ (List.getElem_mem hlt)
   have HXW:=hid hxw
   have HX1:=hid (sub_oneW hxw)
   clear hbw hc0 hxw
   by_cases hn:xs[j].s.number=n
   .have q1:(xs[j].s.number != n)=false:=by rw [hn];simp
    have HNX:Hid (ROwn w0 B (dropS ((xs.map (·.s)).take (j+1)) n) u6 wr (j+1)):=hid (by
     rw [drop_gone hlm (by rw [ex];exact hn)]
     exact HO.out.up (by omega))
    clear hn ex
    go_wp2
    go_roundw
    case rel=>exact ⟨j+1,by omega,by go_num,HNX.out,HBW.out⟩
    case measure=>simp [intOf] <;> omega
   .have q1:(xs[j].s.number != n)=true:=by simpa using hn
    obtain ⟨ys,ho,hy1,hy2,hy3⟩:=HO.out.ex
    have HOW:=hid ho
    have HSZ:=hid HBW.out.size
    have HNX:Hid (∀ v4 w4,w4.ownsRow w0.heap.size 39 34 v4 (ys.length+1) (rows subC ys++subC xs[j])->Below w0.heap.size wr w4->wr.grownBy w4 u6.ownBlock->ROwn w0 B (dropS ((xs.map (·.s)).take (j+1)) n) v4 w4 (j+1)):=hid (fun v4 w4 a b d=>by
     have h9:=ROwn.app ho hy3 HXW.out hy2 HBZ.out.2 a b d
     rw [drop_keep hlm (by rw [ex];exact hn),<-hy1,ex]
     rw [List.map_append] at h9
     exact h9)
    have hyl:ys.length<=1000:=by omega
    clear hn ex ho hy1 hy3
    generalize xs[j]=x at *
    go_wp2_with (first|(refine wpList_load_mid rfl 39 (.tmp 27) rfl gb (off+j*34) rfl (subA x.s x.v).toList _ HRG.out Tryz.underlying39 rfl (by kernel_rfl) ?_)|(refine Go.Great.wpList_buildSliceTo rfl 61 39 1 #[(0,.tmp 28)] rfl wr.heap.size rfl _ rfl Tryz.underlying61 (subC x).toArray (by as_aux_lemma=>kernel_rfl) ?_)|(at_builtin;go_must (refine wpList_app1' rfl (.tmp 23) (.tmp 29) 61 rfl w0.heap.size 39 34 560 _ Tryz.underlying61 eS39i rfl (by omega) u6 ys.length (rows subC ys) rfl HOW.out (subC x) _ rfl rfl rfl HX1.out (by unfold maxLen;omega) (by omega) HSZ.out ?_);intro v4 w4 hown4 hb4 hg4 hat4))
    have HX:=hid (HNX.out v4 w4 hown4 hb4 hg4)
    have HXB:=hid (HBW.out.trans hb4)
    clear hown4 hb4 hg4 hat4
    go_roundw
    case rel=>exact ⟨j+1,by omega,by go_num,HX.out,HXB.out⟩
    case measure=>simp [intOf] <;> omega
  .have x1:¬(j:Int)<xs.length:=by omega
   have hO:=HO.out
   rw [List.take_of_length_le (by simp;omega)] at hO
   obtain ⟨ys,ho,hy1,hy2,hy3⟩:=hO.ex
   obtain ⟨A5,c5,e5,_⟩:=RdV.of_own ho
   subst e5
   have HLN:Hid (decide (ys.length<xs.length)=hasS (xs.map (·.s)) n):=hid (by
    have h9:=HHAS.out
    rw [<-hy1,List.length_map,List.length_map] at h9
    rw [<-h9]
    exact decide_eq_decide.2 (by omega))
   have HOW:=hid ho
   have HY1:=hid hy1
   have HY3:=hid hy3
   have HS:Hid (∀ W,Below wr.heap.size wr W->W.rangeAt w.heap.size 0 (confL c)/\W.cell? ⟨w.heap.size,7,none⟩=some (.int .i64 last)/\W.cell? ⟨w.heap.size,8,none⟩=some (.slice A xs.length cp)):=hid (fun W hW=>by
    have hk:=(HBX.out _ (HBW.out.trans (hW.mono HBW.out.size))).t
    exact ⟨blk_range (off:=0) hk rfl,hk.cell 7,hk.cell 8⟩)
   have HX0:Hid (Below wr.heap.size wr wr.drew):=hid (Below.refl _ _).drew
   clear hbw hO ho hy1 hy3
   go_upto_region 7 with (fail)
   clear c8
   refine wp_region_noPanic (rgn HS.out HX0.out fun hHeld=>?_)
   refine tk 0 ?_
   refine tkm 1 #[.string (str c.host),.int .i64 c.calls,.int .i64 c.pubs,.int .i64 c.subs,.int .i64 c.least,.int .i64 c.most,.int .i64 c.usual] w.heap.size 0 (fun wq hSw=>hSw.1) Tryz.underlying26 ?_
   refine tk 2 ?_
   refine tk 3 ?_
   refine tk 4 ?_
   refine tk 5 ?_
   refine tk 6 ?_
   refine tk 7 ?_
   refine tk 8 ?_
   refine tk 9 ?_
   refine tk 10 ?_
   refine tk 11 ?_
   refine rd1 12 fun K hK=>?_
   rw [if_pos (by rfl)]
   refine wp_store_mid 71 (.tmp 4) (.tmp 36) rfl (w.heap.size+1) 0 (rtV c last (.slice A5 ys.length c5)) rfl rfl (blk_there (HBX.out _ (HBW.out.trans (HX0.out.mono HBW.out.size))).r (Nat.le_refl 9)) (by kernel_rfl) (rtV_one rfl) ?_
   have hf:=fr_setCells (w.heap.size+1) (rtV c last (.slice A5 ys.length c5)).toList 0 wr.drew
   have hkz:=blk_setCells (rtV c last (.slice A5 ys.length c5)).toList (off:=0) (HBX.out _ (HBW.out.trans (HX0.out.mono HBW.out.size))).r (Nat.le_refl 9)
   have hku:=(HBX.out _ (HBW.out.trans (HX0.out.mono HBW.out.size))).t.fr hf (by omega)
   obtain ⟨u,hu⟩:∃ u,wr.drew.setCells (w.heap.size+1) 0 (rtV c last (.slice A5 ys.length c5)).toList=u:=⟨_,rfl⟩
   rw [hu] at hf hkz hku ⊢
   clear hu
   have HF:=hid hf
   have HKZ:Hid (Blk u (w.heap.size+1) 71 (rtV c last (.slice A5 ys.length c5))):=hid hkz
   have HKU:=hid hku
   clear hf hkz hku
   refine bk hK (⟨blk_range (off:=0) HKU.out rfl,HKU.out.cell 7,HKU.out.cell 8⟩) fun hHeld=>?_
   clear hK K
   refine tk 13 ?_
   refine dn9 (NoPanic.normal ?_)
   clear hHeld
   have hbd:Below w0.heap.size w0 wr.drew:=HBW.out.trans (HX0.out.mono HBW.out.size)
   have hbu:Below w.heap.size w u:=below_upfr (HBX.out _ hbd).be (Nat.le_refl _) HF.out (fun k e=>by omega)
   have HFIN:Hid (RtuPost N B c last (dropS (xs.map (·.s)) n) (.bool (hasS (xs.map (·.s)) n)) w (.returned (.tuple #[.agg (rtV c last (.slice A5 ys.length c5)),.bool (decide (ys.length<xs.length))])) u):=hid ⟨_,by rw [HLN.out],by
    have hso:(wr.drew).ownsRow w0.heap.size 39 34 (.slice A5 ys.length c5) ys.length (rows subC ys):=own_fr HOW.out (Fr.of_below (F:=fun _=>False) HX0.out) (fun _ _ h=>h)
    have h9:=rfl_own (N':=fun k=>N k\/w.heap.size<=k) (B:=B) (own_fr hso HF.out (fun k hk e=>by have:=(hso.lt k hk).1;have:=HS0.out;omega)) (fun k hk=>.inr (by have:=HS0.out;omega)) (fun y hy=>(((HY3.out y hy).below HX0.out (Nat.le_trans HBZ.out.2 HBW.out.size)).fr HF.out (keepP_blk (HBX.out _ hbd).r (by decide) (by decide)) (HF.out.to_below (Nat.le_trans HBZ.out.1 (HBX.out _ hbd).be.size) (fun k e=>by have:=HBZ.out.1;omega))))
    rw [HY1.out] at h9
    exact h9,hbu⟩
   go_wp2_with fail
   refine ret_cell2 rfl rfl rfl rfl HKZ.out _ Tryz.underlying71 rfl (by kernel_rfl) ?_
   exact HFIN.out
theorem exp_due {L:List SubP} {now:Int} {j:Nat} (hj:j<L.length) (h:dueS now L[j]=true):expS (L.take (j+1)) now=expS (L.take j) now++[overS L[j] timeoutN]/\goneS (L.take (j+1)) now=goneS (L.take j) now++[L[j].number]:=by
 unfold expS goneS
 rw [List.take_succ_eq_append_getElem hj]
 constructor
 .rw [List.map_append,List.map_cons,List.map_nil,if_pos h]
 .rw [List.filter_append,List.filter_cons_of_pos h,List.map_append]
  rfl
theorem exp_not {L:List SubP} {now:Int} {j:Nat} (hj:j<L.length) (h:dueS now L[j]=false):expS (L.take (j+1)) now=expS (L.take j) now++[L[j]]/\goneS (L.take (j+1)) now=goneS (L.take j) now:=by
 unfold expS goneS
 rw [List.take_succ_eq_append_getElem hj]
 constructor
 .rw [List.map_append,List.map_cons,List.map_nil,if_neg (by simp [h])]
 .rw [List.filter_append,List.filter_cons_of_neg (by simp [h])]
  simp
theorem gone_len (L:List SubP) (now:Int):(goneS L now).length<=L.length:=by
 unfold goneS
 rw [List.length_map]
 exact List.length_filter_le _ _
def ovS (s:SubP):SubP:=⟨s.number,s.who,s.watcher,s.ev,2,timeoutN,s.until_,s.dlg⟩
def RtePost (N:Nat->Prop) (B:Nat) (c:Conf) (last:Int) (L:List SubP) (g:List Int) (w:World) (e:Ending) (w':World):Prop:=∃ v' u,e=.returned (.tuple #[.agg (rtV c last v'),u])/\RdV w' 3 1 g.length u (g.map (Value.int .i64))/\RfL w' (fun k=>N k\/w.heap.size<=k) B L v'/\Below w.heap.size w w'
structure RXe (w0:World) (B:Nat) (L:List SubP) (now:Int) (j:Nat) (vl vg:Value) (wr:World):Prop where
 l:ROwn w0 B (expS (L.take j) now) vl wr j
 g:wr.ownsRow w0.heap.size 3 1 vg (goneS (L.take j) now).length ((goneS (L.take j) now).map (Value.int .i64))
 be:Below w0.heap.size w0 wr
theorem own_ne {w:World} {base n m s1 s2:Nat} {e1 e2:TypeId} {v u:Value} {xs ys:List Value} (h:w.ownsRow base e1 s1 v n xs) (k:w.ownsRow base e2 s2 u m ys) (hne:e1≠e2) {g:Nat} (h1:v.ownBlock=some g) (h2:u.ownBlock=some g):False:=by
 obtain ⟨c1,e1⟩:=own_tyU h h1
 obtain ⟨c2,e2⟩:=own_tyU k h2
 rw [e1] at e2
 injection e2 with e2
 injection e2 with _ e2 _
 exact hne e2
theorem RXe.keep {w0 wr w2 w4:World} {B j:Nat} {L:List SubP} {now:Int} {vl vg v4:Value} {x:SX} {ys:List SX} (h:RXe w0 B L now j vl vg wr) (hB:B<=w0.heap.size) (hj:j<L.length) (hx:x.s=L[j]) (hd:dueS now L[j]=false) (hb2:Below wr.heap.size wr w2) (hxw:SubW wr B x.s x.v)
 (h1:wr.ownsRow w0.heap.size 39 34 vl ys.length (rows subC ys)) (h2:ys.map (·.s)=expS (L.take j) now) (h3:ys.length<=j) (h4:∀ y∈ys,SubW wr B y.s y.v)
 (ho:w4.ownsRow w0.heap.size 39 34 v4 (ys.length+1) (rows subC ys++subC x)) (hb:Below w0.heap.size w2 w4) (hg:w2.grownBy w4 vl.ownBlock):RXe w0 B L now (j+1) v4 vg w4:=by
 obtain ⟨e1,e2⟩:=exp_not hj hd
 have hBr:B<=wr.heap.size:=Nat.le_trans hB h.be.size
 have o2:=own_fr h1 (Fr.of_below (F:=fun _=>False) hb2) (fun _ _ h=>h)
 have g2:=own_fr h.g (Fr.of_below (F:=fun _=>False) hb2) (fun _ _ h=>h)
 have h9:=ROwn.app o2 (fun y hy=>(h4 y hy).below hb2 hBr) (hxw.below hb2 hBr) h3 hB ho hb hg
 refine ⟨?_,?_,h.be.trans ((hb2.mono h.be.size).trans hb)⟩
 .rw [e1,<-h2,<-hx]
  rw [List.map_append] at h9
  exact h9
 .rw [e2]
  exact own_fr g2 (Fr.of_grown hg (F:=fun k=>vl.ownBlock=some k) (fun k e=>e)) (fun k q e=>own_ne o2 g2 (by decide) e q)
theorem RXe.over {w0 wr w2 w3 w4 w5:World} {B j:Nat} {L:List SubP} {now:Int} {vl vg v4 vg4:Value} {x:SX} {ys:List SX} (h:RXe w0 B L now j vl vg wr) (hB:B<=w0.heap.size) (hj:j<L.length) (hx:x.s=ovS L[j]) (hd:dueS now L[j]=true) (hb2:Below wr.heap.size wr w2) (hxw:SubW wr B x.s x.v)
 (hog:w3.ownsRow w0.heap.size 3 1 vg4 ((goneS (L.take j) now).length+1) ((goneS (L.take j) now).map (Value.int .i64)++[.int .i64 L[j].number])) (hb3:Below w0.heap.size w2 w3) (hg3:w2.grownBy w3 vg.ownBlock) (hb4:Below w3.heap.size w3 w4)
 (h1:wr.ownsRow w0.heap.size 39 34 vl ys.length (rows subC ys)) (h2:ys.map (·.s)=expS (L.take j) now) (h3:ys.length<=j) (h4:∀ y∈ys,SubW wr B y.s y.v)
 (ho:w5.ownsRow w0.heap.size 39 34 v4 (ys.length+1) (rows subC ys++subC x)) (hb:Below w0.heap.size w4 w5) (hg:w4.grownBy w5 vl.ownBlock):RXe w0 B L now (j+1) v4 vg4 w5:=by
 obtain ⟨e1,e2⟩:=exp_due hj hd
 have hBr:B<=wr.heap.size:=Nat.le_trans hB h.be.size
 have o2:=own_fr h1 (Fr.of_below (F:=fun _=>False) hb2) (fun _ _ h=>h)
 have g2:=own_fr h.g (Fr.of_below (F:=fun _=>False) hb2) (fun _ _ h=>h)
 have f3:Fr (fun k=>vg.ownBlock=some k) w2 w3:=Fr.of_grown hg3 (fun k e=>e)
 have kp3:KeepP (fun k=>vg.ownBlock=some k) w2:=fun b ds T fr hb hT e=>by
  obtain ⟨cs,hc⟩:=own_tyU g2 e
  rw [hc] at hb
  injection hb with hb
  injection hb with _ hb _
  rcases hT with rfl|rfl <;> exact absurd hb (by decide)
 have o3:=own_fr o2 f3 (fun k q e=>own_ne o2 g2 (by decide) q e)
 have s3:∀ s v,SubW wr B s v->SubW w3 B s v:=fun s v m=>(m.below hb2 hBr).fr f3 kp3 (hb3.mono hB)
 have hw0:w0.heap.size<=w3.heap.size:=Nat.le_trans h.be.size (Nat.le_trans hb2.size hb3.size)
 have o4:=own_fr o3 (Fr.of_below (F:=fun _=>False) hb4) (fun _ _ h=>h)
 have g4:=own_fr hog (Fr.of_below (F:=fun _=>False) hb4) (fun _ _ h=>h)
 have h9:=ROwn.app o4 (fun y hy=>(s3 _ _ (h4 y hy)).below hb4 (Nat.le_trans hB hw0)) ((s3 _ _ hxw).below hb4 (Nat.le_trans hB hw0)) h3 hB ho hb hg
 refine ⟨?_,?_,h.be.trans ((hb2.mono h.be.size).trans (hb3.trans ((hb4.mono hw0).trans hb)))⟩
 .rw [e1,<-h2]
  rw [List.map_append] at h9
  have hx9:overS L[j] timeoutN=x.s:=hx.symm
  rw [hx9]
  exact h9
 .rw [e2]
  have h8:=own_fr g4 (Fr.of_grown hg (F:=fun k=>vl.ownBlock=some k) (fun k e=>e)) (fun k q e=>own_ne o4 g4 (by decide) e q)
  rw [List.length_append,List.map_append]
  exact h8
set_option maxRecDepth 100000 in
set_option maxHeartbeats 8000000 in
theorem rtexpire_any {w:World} {N:Nat->Prop} {B:Nat} {L:List SubP} {v:Value} {c:Conf} {last now:Int} (H:RfL w N B L v) (hB:B<=w.heap.size) (hl:L.length<=1000) :
 Calls Tryz.prog 56 #[.agg (rtV c last v),.int .i64 now] w (RtePost N B c last (expS L now) (goneS L now) w):=by
 obtain ⟨xs,A,cp,rfl,rfl,hcp,hmx,hrd,_,hsw⟩:=H
 rw [List.length_map] at hl
 obtain ⟨w0,hw0⟩:∃ w0,(w.alloc (.cells (rtV c last (.slice A xs.length cp)) 71)).alloc (.cells rt0 71)=w0:=⟨_,rfl⟩
 obtain ⟨hs0,hbx⟩:=rt_box hw0
 have HS0:=hid hs0
 have HBX:=hid hbx
 have HBZ:Hid (B<=w.heap.size/\B<=w0.heap.size):=hid ⟨hB,by omega⟩
 have HR:Hid (∀ W,Below w0.heap.size w0 W->Rd W 39 34 xs.length A (rows subC xs)/\(∀ x∈xs,SubW W B x.s x.v)):=hid (fun W hW=>⟨hrd.below (hbx W hW).be,fun x hx=>(hsw x hx).below (hbx W hW).be hB⟩)
 have HL:=hid hl
 have H0:Hid (RXe w0 B (xs.map (·.s)) now 0 (.slice none 0 0) (.slice none 0 0) w0):=hid ⟨ROwn.nil _ _ _ _,⟨rfl,.inl ⟨rfl,rfl⟩⟩,Below.refl _ _⟩
 clear hs0 hbx hrd hsw hmx hB hl
 unfold rt0 at hw0
 go_enter Tryz.func56,Tryz.ntmps56
 go_upto_region 1 with (fail)
 try rw [hw0]
 clear hw0
 generalize Value.agg (rtV c last (.slice A xs.length cp))=q1
 go_wp2_with fail
 go_loopw [6,7,8] (fun vl vg i wr=>∃ j:Nat,j<=xs.length/\i=.int .i64 j/\RXe w0 B (xs.map (·.s)) now j vl vg wr) (fun _ _ i _=>xs.length-(intOf i).toNat)
 case atStart=>exact ⟨0,by omega,rfl,H0.out⟩
 case round =>
  obtain ⟨j,hj,rfl,hX⟩:=hrel
  have HX:=hid hX
  have c8:wr.cell? ⟨w.heap.size,8,none⟩=some (.slice A xs.length cp):=(HBX.out _ hX.be).t.cell 8
  clear hX
  by_cases hlt:j<xs.length
  .obtain ⟨gb,off,rfl,hgb,hc0⟩:=sb_row (HR.out _ HX.out.be).1 hlt
   have HRG:=hid (sb_range hc0)
   have hlm:j<(xs.map (·.s)).length:=by simpa using hlt
   have HLM:=hid hlm
   have EX:Hid (∀ h:j<(xs.map (·.s)).length,(xs.map (·.s))[j]'h=(xs[j]).s):=hid (fun h=>by rw [List.getElem_map])
   have hl1000:j<=1000:=by have:=HL.out;omega
   have x0:(0:Int)<=j:=by omega
   have x1:(j:Int)<xs.length:=by omega
   have hxw:=(HR.out _ HX.out.be).2 _ (List.getElem_mem hlt)
   have HXW:=hid hxw
   have HOX:=hid (subA_one (s:=xs[j].s) hxw.ev.one hxw.d.one)
   have HX1:=hid (sub_oneW hxw)
   have hovw:SubW wr B (ovS xs[j].s) xs[j].v:=⟨hxw.ev,hxw.d⟩
   have HX2:=hid (sub_oneW (x:=⟨ovS xs[j].s,xs[j].v⟩) hovw)
   have HOVW:=hid hovw
   obtain ⟨ys,ho,hy1,hy2,hy3⟩:=HX.out.l.ex
   have HOW:=hid ho
   have HY:=hid (And.intro hy1 (And.intro hy2 hy3))
   have hyl:ys.length<=1000:=by omega
   have hgl:(goneS ((xs.map (·.s)).take j) now).length<=1000:=Nat.le_trans (gone_len _ _) (by rw [List.length_take];omega)
   have HKEEP:Hid (dueS now xs[j].s=false->∀ w2 w4 v4,Below wr.heap.size wr w2->w4.ownsRow w0.heap.size 39 34 v4 (ys.length+1) (rows subC ys++subC xs[j])->Below w0.heap.size w2 w4->w2.grownBy w4 u6.ownBlock->RXe w0 B (xs.map (·.s)) now (j+1) v4 u7 w4):=hid (fun hd w2 w4 v4 b2 a b d=>HX.out.keep HBZ.out.2 HLM.out (EX.out _).symm (by rw [EX.out];exact hd) b2 HXW.out HOW.out HY.out.1 HY.out.2.1 HY.out.2.2 a b d)
   have HOVER:Hid (dueS now xs[j].s=true->∀ w2 w3 w4 w5 v4 vg4,Below wr.heap.size wr w2->w3.ownsRow w0.heap.size 3 1 vg4 ((goneS ((xs.map (·.s)).take j) now).length+1) ((goneS ((xs.map (·.s)).take j) now).map (Value.int .i64)++[.int .i64 xs[j].s.number])->Below w0.heap.size w2 w3->w2.grownBy w3 u7.ownBlock->Below w3.heap.size w3 w4->w5.ownsRow w0.heap.size 39 34 v4 (ys.length+1) (rows subC ys++subC ⟨ovS xs[j].s,xs[j].v⟩)->Below w0.heap.size w4 w5->w4.grownBy w5 u6.ownBlock->RXe w0 B (xs.map (·.s)) now (j+1) v4 vg4 w5):=hid (fun hd w2 w3 w4 w5 v4 vg4 b2 a b d b4 a5 b5 d5=>HX.out.over (x:=⟨ovS xs[j].s,xs[j].v⟩) HBZ.out.2 HLM.out (by rw [EX.out]) (by rw [EX.out];exact hd) b2 HOVW.out (by rw [EX.out];exact a) b d b4 HOW.out HY.out.1 HY.out.2.1 HY.out.2.2 a5 b5 d5)
   have HSZ:=hid HX.out.be.size
   have HDU:Hid (dueS now xs[j].s=(decide (xs[j].s.state≠2)&&decide (xs[j].s.until_<=now))):=hid rfl
   clear hc0 hxw hovw ho hy1 hy2 hy3 hlm
   generalize xs[j]=x at *
   obtain ⟨s,sv⟩:=x
   go_upto_region 7 with (first|(refine wpList_load_mid rfl 39 (.tmp 20) rfl gb (off+j*34) rfl (subA s sv).toList _ HRG.out Tryz.underlying39 rfl (by kernel_rfl) ?_)|(refine wpl_store rfl 39 (.tmp 9) (.tmp 21) rfl wr.heap.size 0 rfl (subA s sv) rfl (sub_blk0 wr) (Nat.le_refl 34) (subA s sv) rfl (by kernel_rfl) HOX.out ?_;intro w2 hk2 hf2))
   have HB2:Hid (Below wr.heap.size wr w2):=hid (((Below.refl wr.heap.size wr).alloc (Nat.le_refl _) _).trans (hf2.to_below (by simp) (fun k e=>by omega)))
   have HK2:=hid hk2
   have p5:w2.cell? ⟨wr.heap.size,5,none⟩=some (.int .i64 s.state):=hk2.cell 5
   have p7:w2.cell? ⟨wr.heap.size,7,none⟩=some (.int .i64 s.until_):=hk2.cell 7
   have p0:w2.cell? ⟨wr.heap.size,0,none⟩=some (.int .i64 s.number):=hk2.cell 0
   have p6:=hk2.cell 6
   have g5:=hk2.frozen 5
   have g6:=hk2.frozen 6
   have hs2:wr.heap.size<w2.heap.size:=by have:=(Array.getElem?_eq_some_iff.1 hk2).1;exact this
   have HS2:=hid hs2
   clear hf2 hk2 hs2 c8
   by_cases hd:dueS now s=true
   .have hd9:=hd
    rw [HDU.out,Bool.and_eq_true] at hd9
    have z1:(s.state != 2)=true:=by simpa using hd9.1
    have z2:decide (s.until_<=now)=true:=hd9.2
    have z3:s.until_<=now:=by simpa using hd9.2
    have HNX:=hid (HOVER.out hd)
    clear hd hd9 HKEEP HOVER HDU
    go_upto_region 9 with (fail)
    obtain ⟨w3,hw3⟩:∃ w3,(w2.setCell ⟨wr.heap.size,5,none⟩ (.int .i64 2)).setCell ⟨wr.heap.size,6,none⟩ (.string ⟨#[116,105,109,101,111,117,116]⟩)=w3:=⟨_,rfl⟩
    have hk3:Blk w3 wr.heap.size 39 (subA (ovS s) sv):=hw3▸blk_setCells [.int .i64 2,.string ⟨#[116,105,109,101,111,117,116]⟩] (off:=5) HK2.out (show 7<=34 by omega)
    have hf3:Fr (fun k=>k=wr.heap.size) w2 w3:=hw3▸((Fr.refl (fun k=>k=wr.heap.size) w2).set (p:=⟨wr.heap.size,5,none⟩) (fun _=>rfl) _).set (p:=⟨wr.heap.size,6,none⟩) (fun _=>rfl) _
    rw [hw3]
    have HB3:Hid (Below wr.heap.size wr w3):=hid (HB2.out.trans (hf3.to_below HB2.out.size (fun k e=>by omega)))
    have HK3:=hid hk3
    have HG3:=hid (own_fr HX.out.g (Fr.of_below (F:=fun _=>False) HB3.out) (fun _ _ h=>h))
    have HO3:=hid (own_fr HOW.out (Fr.of_below (F:=fun _=>False) HB3.out) (fun _ _ h=>h))
    have p0:w3.cell? ⟨wr.heap.size,0,none⟩=some (.int .i64 s.number):=hk3.cell 0
    have HS3:Hid (w0.heap.size<=w3.heap.size):=hid (Nat.le_trans HSZ.out HB3.out.size)
    have HN3:Hid (∀ k,u7.ownBlock=some k->k<wr.heap.size):=hid (fun k hk=>(HX.out.g.lt k hk).2)
    clear hw3 hk3 hf3 p5 p6 p7 g5 g6
    go_upto_region 10 with (at_builtin;go_must (refine wpList_app1' rfl (.tmp 33) (.tmp 36) 22 rfl w0.heap.size 3 1 8 _ Tryz.underlying22 eI3i rfl (by omega) u7 (goneS ((xs.map (·.s)).take j) now).length ((goneS ((xs.map (·.s)).take j) now).map (Value.int .i64)) rfl HG3.out [.int .i64 s.number] _ rfl (by first|rfl|(simp;done)) rfl (by simp [Value.oneCell']) (by unfold maxLen;omega) (by omega) HS3.out ?_);intro vg4 w4 hown4 hb4 hg4 hat4)
    have HK4:Hid (Blk w4 wr.heap.size 39 (subA (ovS s) sv)):=hid (HK3.out.fr (Fr.of_grown hg4 (F:=fun k=>u7.ownBlock=some k) (fun k e=>e)) (fun e=>by have:=HN3.out _ e;omega))
    have HO4:=hid (own_fr HO3.out (Fr.of_grown hg4 (F:=fun k=>u7.ownBlock=some k) (fun k e=>e)) (fun k q e=>own_ne HO3.out HG3.out (by decide) q e))
    have HS4:Hid (w0.heap.size<=w4.heap.size):=hid (Nat.le_trans HS3.out hb4.size)
    have HN4:=hid (fun v5 w5 a b d=>HNX.out w3 w4 w4 w5 v5 vg4 HB3.out hown4 hb4 hg4 (Below.refl _ _) a b d)
    clear hown4 hb4 hg4 hat4 p0
    go_wp2_with (first|(refine wpl_load rfl 39 (.tmp 9) rfl wr.heap.size 0 rfl HK4.out (subA (ovS s) sv).toList rfl _ Tryz.underlying39 rfl (by kernel_rfl) ?_)|(refine Go.Great.wpList_buildSliceTo rfl 61 39 1 #[(0,.tmp 39)] rfl w4.heap.size rfl _ rfl Tryz.underlying61 (subC ⟨ovS s,sv⟩).toArray (by as_aux_lemma=>kernel_rfl) ?_)|(at_builtin;go_must (refine wpList_app1' rfl (.tmp 38) (.tmp 40) 61 rfl w0.heap.size 39 34 560 _ Tryz.underlying61 eS39i rfl (by omega) u6 ys.length (rows subC ys) rfl HO4.out (subC ⟨ovS s,sv⟩) _ rfl rfl rfl HX2.out (by unfold maxLen;omega) (by omega) HS4.out ?_);intro v5 w5 hown5 hb5 hg5 hat5))
    have HZ:=hid (HN4.out v5 w5 hown5 hb5 hg5)
    clear hown5 hb5 hg5 hat5
    go_roundw
    case rel=>exact ⟨j+1,by omega,by go_num,HZ.out⟩
    case measure=>simp [intOf] <;> omega
   .have hd8:dueS now s=false:=by simpa using hd
    have HNX:=hid (HKEEP.out hd8)
    have hd9:=hd8
    rw [HDU.out,Bool.and_eq_false_iff] at hd9
    have HO2:=hid (own_fr HOW.out (Fr.of_below (F:=fun _=>False) HB2.out) (fun _ _ h=>h))
    have HS3:Hid (w0.heap.size<=w2.heap.size):=hid (Nat.le_trans HSZ.out HB2.out.size)
    have HN4:=hid (fun v5 w5 a b d=>HNX.out w2 w5 v5 HB2.out a b d)
    clear hd hd8 HKEEP HOVER HDU
    by_cases ht:s.state=2
    .have z1:(s.state != 2)=false:=by rw [ht];rfl
     clear hd9 ht
     go_wp2_with (first|(refine wpl_load rfl 39 (.tmp 9) rfl wr.heap.size 0 rfl HK2.out (subA s sv).toList rfl _ Tryz.underlying39 rfl (by kernel_rfl) ?_)|(refine Go.Great.wpList_buildSliceTo rfl 61 39 1 #[(0,.tmp 39)] rfl w2.heap.size rfl _ rfl Tryz.underlying61 (subC ⟨s,sv⟩).toArray (by as_aux_lemma=>kernel_rfl) ?_)|(at_builtin;go_must (refine wpList_app1' rfl (.tmp 38) (.tmp 40) 61 rfl w0.heap.size 39 34 560 _ Tryz.underlying61 eS39i rfl (by omega) u6 ys.length (rows subC ys) rfl HO2.out (subC ⟨s,sv⟩) _ rfl rfl rfl HX1.out (by unfold maxLen;omega) (by omega) HS3.out ?_);intro v5 w5 hown5 hb5 hg5 hat5))
     have HZ:=hid (HN4.out v5 w5 hown5 hb5 hg5)
     clear hown5 hb5 hg5 hat5
     go_roundw
     case rel=>exact ⟨j+1,by omega,by go_num,HZ.out⟩
     case measure=>simp [intOf] <;> omega
    .have z1:(s.state != 2)=true:=by simpa using ht
     have z2:decide (s.until_<=now)=false:=by
      rcases hd9 with h|h
      .exact absurd (of_decide_eq_false h) (by simpa using ht)
      .exact h
     have z3:¬s.until_<=now:=by simpa using z2
     clear hd9 ht
     go_wp2_with (first|(refine wpl_load rfl 39 (.tmp 9) rfl wr.heap.size 0 rfl HK2.out (subA s sv).toList rfl _ Tryz.underlying39 rfl (by kernel_rfl) ?_)|(refine Go.Great.wpList_buildSliceTo rfl 61 39 1 #[(0,.tmp 39)] rfl w2.heap.size rfl _ rfl Tryz.underlying61 (subC ⟨s,sv⟩).toArray (by as_aux_lemma=>kernel_rfl) ?_)|(at_builtin;go_must (refine wpList_app1' rfl (.tmp 38) (.tmp 40) 61 rfl w0.heap.size 39 34 560 _ Tryz.underlying61 eS39i rfl (by omega) u6 ys.length (rows subC ys) rfl HO2.out (subC ⟨s,sv⟩) _ rfl rfl rfl HX1.out (by unfold maxLen;omega) (by omega) HS3.out ?_);intro v5 w5 hown5 hb5 hg5 hat5))
     have HZ:=hid (HN4.out v5 w5 hown5 hb5 hg5)
     clear hown5 hb5 hg5 hat5
     go_roundw
     case rel=>exact ⟨j+1,by omega,by go_num,HZ.out⟩
     case measure=>simp [intOf] <;> omega
  .have x1:¬(j:Int)<xs.length:=by omega
   have hO:=HX.out.l
   have hG:=HX.out.g
   rw [List.take_of_length_le (by simp;omega)] at hO hG
   obtain ⟨ys,ho,hy1,hy2,hy3⟩:=hO.ex
   obtain ⟨A5,c5,e5,_⟩:=RdV.of_own ho
   subst e5
   have HOW:=hid ho
   have HGW:=hid hG
   have HY:=hid (And.intro hy1 hy3)
   have HXB:=hid HX.out.be
   have HK:=hid (HBX.out _ HX.out.be)
   have c0:=HK.out.t.cell 0
   have c1:=HK.out.t.cell 1
   have c2:=HK.out.t.cell 2
   have c3:=HK.out.t.cell 3
   have c4:=HK.out.t.cell 4
   have c5':=HK.out.t.cell 5
   have c6:=HK.out.t.cell 6
   have c7:=HK.out.t.cell 7
   clear hO hG ho hy1 hy2 hy3
   go_wp2_with (refine wpl_store rfl 71 (.tmp 4) (.tmp 47) rfl (w.heap.size+1) 0 rfl (rtV c last (.slice A5 ys.length c5)) rfl HK.out.r (Nat.le_refl 9) (rtV c last (.slice A5 ys.length c5)) rfl (by kernel_rfl) (rtV_one rfl) ?_;intro wz hkz hfz)
   refine ret_cell2 rfl rfl rfl rfl hkz _ Tryz.underlying71 rfl (by kernel_rfl) ⟨_,_,rfl,?_,?_,below_upfr HK.out.be (Nat.le_refl _) hfz (fun k e=>by omega)⟩
   .exact RdV.of_own (own_fr HGW.out hfz (fun k hk e=>by have:=(HGW.out.lt k hk).1;have:=HS0.out;omega))
   .have h9:=rfl_own (N':=fun k=>N k\/w.heap.size<=k) (B:=B) (own_fr HOW.out hfz (fun k hk e=>by have:=(HOW.out.lt k hk).1;have:=HS0.out;omega)) (fun k hk=>.inr (by have:=HS0.out;omega)) (fun y hy=>((HY.out.2 y hy).fr hfz (keepP_blk HK.out.r (by decide) (by decide)) (hfz.to_below (Nat.le_trans HBZ.out.1 HK.out.be.size) (fun k e=>by have:=HBZ.out.1;omega))))
    rw [HY.out.1] at h9
    exact h9
theorem dlgw_none (w:World) (B:Nat):DlgW w B noDlg nilV:=⟨.inr (PrM.nil w),.inr (PrM.nil w),.inr (PrM.nil w),.inr (PrM.nil w),.inr (PrM.nil w),.inr (PrM.nil w),.inr (PrM.nil w),.inr (PrM.nil w),.inr (RdV.nil _ _ _)⟩
theorem dlg_blk0 (W:World):Blk (W.alloc (.cells dlg0 37)) W.heap.size 37 dlg0:=Blk.new W _ _
theorem adr_blk0 (W:World):Blk (W.alloc (.cells addr0 34)) W.heap.size 34 addr0:=Blk.new W _ _
def RBgPost (B:Nat) (r:ReqP) (tag:T) (w:World) (e:Ending) (w':World):Prop:=∃ v,e=.returned (.tuple #[.agg (dlgA ((begR r tag).dlg.getD noDlg) v),.int .i64 (begR r tag).err])/\DlgW w' B ((begR r tag).dlg.getD noDlg) v/\Below w.heap.size w w'
set_option maxRecDepth 100000 in
set_option maxHeartbeats 16000000 in
theorem rBegin_any {r:ReqP} {tag:T} {q:RqV} {B:Nat} {w:World} (hB:B<=w.heap.size) (h:ReqB w B r q) (hz:ReqZ r) (ht:tag.length<=9223372036854775807) :
 Calls Tryz.prog 94 #[.agg (reqA r q),.string (str tag)] w (RBgPost B r tag w):=by
 obtain ⟨tp,th,fp,fh,fa,op,oh,oa,ev,co,ro,ac⟩:=q
 obtain ⟨w0,hw0⟩:∃ w0,(w.alloc (.cells (reqA r ⟨tp,th,fp,fh,fa,op,oh,oa,ev,co,ro,ac⟩) 45)).alloc (.cells dlg0 37)=w0:=⟨_,rfl⟩
 have hb0:Below w.heap.size w w0:=hw0▸((Below.refl _ _).alloc (Nat.le_refl _) _).alloc (by simp) _
 have hs0:w0.heap.size=w.heap.size+2:=by rw [<-hw0];simp
 have hka:Blk w0 w.heap.size 45 (reqA r ⟨tp,th,fp,fh,fa,op,oh,oa,ev,co,ro,ac⟩):=hw0▸(Blk.new w _ _).alloc _
 have hkb:Blk w0 (w.heap.size+1) 37 dlg0:=hw0▸Blk.new' _ _ _ (by simp)
 have HBO:Hid (∀ W,Below w0.heap.size w0 W->ReqB W B r ⟨tp,th,fp,fh,fa,op,oh,oa,ev,co,ro,ac⟩/\B<=W.heap.size):=hid (fun W hW=>⟨h.below ((hb0.mono hB).trans (hW.mono (Nat.le_trans hB hb0.size))),Nat.le_trans hB (Nat.le_trans hb0.size hW.size)⟩)
 have HTK:Hid (∀ W,Calls Tryz.prog 130 #[.string (str tag)] W fun e w'=>e=.returned (.bool (tokB tag))/\W=w'):=hid (fun W=>rtoken_any tag W ht)
 have HKA:Hid (∀ W,Below w0.heap.size w0 W->Blk W w.heap.size 45 (reqA r ⟨tp,th,fp,fh,fa,op,oh,oa,ev,co,ro,ac⟩)):=hid (fun W hW=>hka.fr (Fr.of_below (F:=fun _=>False) hW) (fun h=>h))
 have HKB:Hid (∀ W,Below w0.heap.size w0 W->Blk W (w.heap.size+1) 37 dlg0):=hid (fun W hW=>hkb.fr (Fr.of_below (F:=fun _=>False) hW) (fun h=>h))
 have HB0:=hid hb0
 have HS0:=hid hs0
 have HW:=hid (beg_ways r tag)
 have HZ:=hid hz
 have HBB:=hid hB
 obtain ⟨xs,hxs,⟨A,cc,rfl,hcl,_,hcr⟩,hcx⟩:=h.co
 have HCR:Hid (∀ W,Below w0.heap.size w0 W->RdB W B 8 xs.length A (rows cxC xs)/\∀ x∈xs,PrB W B x.a.uri.params x.vp/\PrB W B x.a.uri.headers x.vh):=hid (fun W hW=>by
  have hbb:=(hb0.mono hB).trans (hW.mono (Nat.le_trans hB hb0.size))
  exact ⟨hcr.below hbb,fun x hx=>⟨(hcx x hx).1.below hbb,(hcx x hx).2.below hbb⟩⟩)
 have HXS:=hid hxs
 clear hb0 hka hkb hB h hz ht hcr hcx hxs hs0
 unfold dlg0 at hw0
 go_enter Tryz.func94,Tryz.ntmps94
 go_upto_region 1 with (fail)
 try rw [hw0]
 clear hw0
 generalize Value.agg (reqA r ⟨tp,th,fp,fh,fa,op,oh,oa,ev,.slice A xs.length cc,ro,ac⟩)=q0
 go_upto_region 2 with (refine wpl_store rfl 37 (.tmp 6) (.tmp 8) rfl w0.heap.size 0 rfl dlg0 rfl (dlg_blk0 w0) (Nat.le_refl 26) dlg0 rfl (by kernel_rfl) dlg0_one ?_;intro w1 hk6 hf6)
 have b1:Below w0.heap.size w0 w1:=((Below.refl w0.heap.size w0).alloc (Nat.le_refl _) _).trans (hf6.to_below (by simp) (fun k e=>by omega))
 have HB1:=hid b1
 have HK6:=hid hk6
 have HK4:=hid (HKB.out _ b1)
 have HBW1:=hid (HB0.out.trans (b1.mono HB0.out.size))
 have hc:=HKA.out _ b1
 have c25:w1.cell? ⟨w.heap.size,25,none⟩=some (.string (str r.ftag)):=hc.cell 25
 have c26:w1.cell? ⟨w.heap.size,26,none⟩=some (.string (str r.ttag)):=hc.cell 26
 have c32:w1.cell? ⟨w.heap.size,32,none⟩=some (.slice A xs.length cc):=hc.cell 32
 clear b1 hk6 hf6 hc
 rcases HW.out with ⟨h1,hx⟩|⟨h1,h2,hx⟩|⟨h1,h2,h3,hx⟩|⟨h1,h2,h3,h4,hx⟩|⟨h1,h2,h3,k,h4,hx⟩
 .have q1:=emp_not h1
  have HE:=hid hx
  clear hx h1
  go_wp2_with (first|(refine wpl_load rfl 37 (.tmp 6) rfl w0.heap.size 0 rfl HK6.out dlg0.toList rfl _ Tryz.underlying37 rfl (by kernel_rfl) ?_)|(refine wpl_store rfl 37 (.tmp 4) (.tmp 22) rfl (w.heap.size+1) 0 rfl dlg0 rfl HK4.out (Nat.le_refl 26) dlg0 rfl (by kernel_rfl) dlg0_one ?_;intro wz hkz hfz))
  refine ret_cell2 rfl rfl rfl rfl hkz _ Tryz.underlying37 rfl (by kernel_rfl) ⟨nilV,by rw [HE.out];rfl,by rw [HE.out];exact dlgw_none _ _,?_⟩
  exact below_upfr HBW1.out (Nat.le_refl _) hfz (fun k e=>by omega)
 .have q1:=emp_is h1
  have q2:=emp_is h2
  have HE:=hid hx
  clear hx h1 h2
  go_wp2_with (first|(refine wpl_load rfl 37 (.tmp 6) rfl w0.heap.size 0 rfl HK6.out dlg0.toList rfl _ Tryz.underlying37 rfl (by kernel_rfl) ?_)|(refine wpl_store rfl 37 (.tmp 4) (.tmp 22) rfl (w.heap.size+1) 0 rfl dlg0 rfl HK4.out (Nat.le_refl 26) dlg0 rfl (by kernel_rfl) dlg0_one ?_;intro wz hkz hfz))
  refine ret_cell2 rfl rfl rfl rfl hkz _ Tryz.underlying37 rfl (by kernel_rfl) ⟨nilV,by rw [HE.out];rfl,by rw [HE.out];exact dlgw_none _ _,?_⟩
  exact below_upfr HBW1.out (Nat.le_refl _) hfz (fun k e=>by omega)
 .have q1:=emp_is h1
  have q2:=emp_not h2
  rw [h3] at HTK
  have HE:=hid hx
  clear hx h1 h2 h3
  go_wp2_with (first|(go_at_call 130;refine (HTK.out _).mono ?_;rintro e wt ⟨rfl,rfl⟩)|(refine wpl_load rfl 37 (.tmp 6) rfl w0.heap.size 0 rfl HK6.out dlg0.toList rfl _ Tryz.underlying37 rfl (by kernel_rfl) ?_)|(refine wpl_store rfl 37 (.tmp 4) (.tmp 22) rfl (w.heap.size+1) 0 rfl dlg0 rfl HK4.out (Nat.le_refl 26) dlg0 rfl (by kernel_rfl) dlg0_one ?_;intro wz hkz hfz))
  refine ret_cell2 rfl rfl rfl rfl hkz _ Tryz.underlying37 rfl (by kernel_rfl) ⟨nilV,by rw [HE.out];rfl,by rw [HE.out];exact dlgw_none _ _,?_⟩
  exact below_upfr HBW1.out (Nat.le_refl _) hfz (fun k e=>by omega)
 .have q1:=emp_is h1
  have q2:=emp_not h2
  rw [h3] at HTK
  have HE:=hid hx
  have hxl:xs.length≠1:=by rw [<-HXS.out,List.length_map] at h4;exact h4
  have q3:((xs.length:Int) != 1)=true:=by simp;omega
  clear hx h1 h2 h3 h4 hxl
  go_wp2_with (first|(go_at_call 130;refine (HTK.out _).mono ?_;rintro e wt ⟨rfl,rfl⟩)|(refine wpl_load rfl 37 (.tmp 6) rfl w0.heap.size 0 rfl HK6.out dlg0.toList rfl _ Tryz.underlying37 rfl (by kernel_rfl) ?_)|(refine wpl_store rfl 37 (.tmp 4) (.tmp 27) rfl (w.heap.size+1) 0 rfl dlg0 rfl HK4.out (Nat.le_refl 26) dlg0 rfl (by kernel_rfl) dlg0_one ?_;intro wz hkz hfz))
  refine ret_cell2 rfl rfl rfl rfl hkz _ Tryz.underlying37 rfl (by kernel_rfl) ⟨nilV,by rw [HE.out];rfl,by rw [HE.out];exact dlgw_none _ _,?_⟩
  exact below_upfr HBW1.out (Nat.le_refl _) hfz (fun k e=>by omega)
 .have q1:=emp_is h1
  have q2:=emp_not h2
  rw [h3] at HTK
  have HE:=hid hx
  obtain ⟨vp,vh,va,rfl⟩:∃ vp vh va,xs=[⟨k,vp,vh,va⟩]:=by
   have h9:=HXS.out
   rw [h4] at h9
   match xs,h9 with
   | [⟨a,b,c,d⟩],h9 =>
     have h8:a=k:=by simpa using h9
     subst h8
     exact ⟨_,_,_,rfl⟩
  have HTL:Hid (tag.length<=64):=hid (by unfold tokB at h3;simp only [Bool.and_eq_true,decide_eq_true_eq] at h3;exact h3.1.2)
  have HCO:=hid h4
  obtain ⟨gb,off,rfl,hgb,_⟩:=id ((HCR.out _ (Below.refl _ _)).1.2 (Nat.zero_lt_one))
  obtain ⟨hfr,hto,hev,_,hro⟩:=(HBO.out _ (Below.refl _ _)).1
  obtain ⟨⟨A1,c1,rfl,_⟩,⟨A2,c2,rfl,_⟩,⟨A3,c3,rfl,_⟩⟩:=hfr
  obtain ⟨⟨A4,c4,rfl,_⟩,⟨A5,c5,rfl,_⟩,⟨Ao,ca,rfl,_⟩⟩:=hto
  obtain ⟨Ar,cr,rfl,_⟩:=hro
  obtain ⟨⟨A6,c6,e6,_⟩,⟨A7,c7,e7,_⟩⟩:=(HCR.out _ (Below.refl _ _)).2 ⟨k,vp,vh,va⟩ (by simp)
  have e6':vp=.slice A6 k.uri.params.length c6:=e6
  have e7':vh=.slice A7 k.uri.headers.length c7:=e7
  clear e6 e7
  subst e6' e7'
  clear hx h1 h2 h3 h4 hcl hev hgb
  go_upto_region 6 with (go_at_call 130;refine (HTK.out _).mono ?_;rintro e wt ⟨rfl,rfl⟩)
  clear q1 q2 c25 c26 c32
  have HR5:=hid (HKA.out _ HB1.out)
  go_upto_region 7 with (first|(refine wpl_load rfl 34 (.tmp 28) rfl w.heap.size 17 rfl HR5.out (addrA r.to_ (.slice A4 r.to_.uri.params.length c4) (.slice A5 r.to_.uri.headers.length c5) (.slice Ao r.to_.params.length ca)).toList rfl _ Tryz.underlying34 rfl (by kernel_rfl) ?_)|(refine wpl_store rfl 34 (.tmp 7) (.tmp 29) rfl w1.heap.size 0 rfl (addrA r.to_ (.slice A4 r.to_.uri.params.length c4) (.slice A5 r.to_.uri.headers.length c5) (.slice Ao r.to_.params.length ca)) rfl (adr_blk0 w1) (Nat.le_refl 8) (addrA r.to_ (.slice A4 r.to_.uri.params.length c4) (.slice A5 r.to_.uri.headers.length c5) (.slice Ao r.to_.params.length ca)) rfl (by kernel_rfl) (addrA_one rfl rfl rfl) ?_;intro w2 hk7 hf7))
  have b2:Below w1.heap.size w1 w2:=((Below.refl w1.heap.size w1).alloc (Nat.le_refl _) _).trans (hf7.to_below (by simp) (fun k e=>by omega))
  have HB2:=hid (HB1.out.trans (b2.mono HB1.out.size))
  have HK7:=hid hk7
  have HK62:=hid (HK6.out.fr (Fr.of_below (F:=fun _=>False) b2) (fun h=>h))
  have c24:w2.cell? ⟨w.heap.size,24,none⟩=some (.slice Ao r.to_.params.length ca):=(HKA.out _ HB2.out).cell 24
  have c24a:(w2.alloc (.cells #[] 95)).cell? ⟨w.heap.size,24,none⟩=some (.slice Ao r.to_.params.length ca):=((HKA.out _ HB2.out).alloc _).cell 24
  have hn:r.to_.params.length<=2000000:=HZ.out.to_.a
  have hoe:Hid ((w2.alloc (.cells #[] 95)).ownsRow w2.heap.size 95 3 (.slice (some ⟨w2.heap.size,0,none⟩) 0 0) 0 []):=hid (own_empty (Blk.new w2 _ _) (Nat.le_refl _))
  have hra:Hid (RdB (w2.alloc (.cells #[] 95)) B 3 r.to_.params.length Ao (rows parC r.to_.params)):=hid (by
   obtain ⟨A',c',e',_,_,h9⟩:=(HBO.out _ (HB2.out.trans ((Below.refl w2.heap.size w2).alloc (Nat.le_refl _) (.cells #[] 95) |>.mono HB2.out.size))).1.to_.a
   injection e' with e1 e2 e3
   rw [e1]
   exact h9)
  have HONE:=hid (rows_one3p r.to_.params)
  clear b2 hk7 hf7
  go_upto_region 8 with (first|(at_builtin;(refine wpList_app_slb rfl (.tmp 30) (.tmp 33) 28 rfl w2.heap.size 95 3 40 _ Tryz.underlying28 eC95 rfl (by omega) _ _ _ rfl hoe.out _ rfl hra.out HONE.out (by unfold maxLen;omega) (by omega) (by simp) ?_);intro v1 w3 hown1 hb1 hg1 hat1;rw [Nat.zero_add,List.nil_append] at hown1;have HO1:=hid hown1;have HB3:Hid (Below w2.heap.size w2 w3):=hid (((Below.refl w2.heap.size w2).alloc (Nat.le_refl _) (.cells #[] 95)).trans hb1);have hs3:w2.heap.size<=w3.heap.size:=HB3.out.size;clear hown1 hb1 hg1 hat1)|(at_builtin;go_must (refine wpList_app1' rfl (.tmp 34) (.tmp 37) 28 rfl w2.heap.size 95 3 40 _ Tryz.underlying28 eC95 rfl (by omega) _ _ _ rfl HO1.out [.string ⟨#[116,97,103]⟩,.string (str tag),.bool true] _ rfl (by simp) rfl (by simp [Value.oneCell']) (by unfold maxLen;omega) (by omega) (by omega) ?_);intro v4 w6 hown6 hb6 hg6 hat6;obtain ⟨g9,c9,rfl⟩:=own_pos hown6 (by omega);have HO6:=hid hown6;have HB6:Hid (Below w2.heap.size w2 w6):=hid (HB3.out.trans hb6);have hk6b:=HK7.out.fr (Fr.of_below (F:=fun _=>False) HB6.out) (fun h=>h);have HK7B:=hid hk6b;have x7:=hk6b.cell 7;have j7:=hk6b.frozen 7;have gl7:w1.heap.size<w6.heap.size:=hk6b.lt;clear hown6 hb6 hg6 hat6 hk6b))
  obtain ⟨w8,hw8⟩:∃ w8,w6.setCell ⟨w1.heap.size,7,none⟩ (.slice (some ⟨g9,0,none⟩) (r.to_.params.length+1) c9)=w8:=⟨_,rfl⟩
  have hk8:Blk w8 w1.heap.size 34 (addrA (tagged r.to_ tag) (.slice A4 r.to_.uri.params.length c4) (.slice A5 r.to_.uri.headers.length c5) (.slice (some ⟨g9,0,none⟩) (r.to_.params.length+1) c9)):=hw8▸blk_setCells [.slice (some ⟨g9,0,none⟩) (r.to_.params.length+1) c9] (off:=7) HK7B.out (show 8<=8 by omega)
  have hf8:Fr (fun k=>k=w1.heap.size) w6 w8:=hw8▸((Fr.refl (fun k=>k=w1.heap.size) w6).set (p:=⟨w1.heap.size,7,none⟩) (fun _=>rfl) _)
  have hl1:w0.heap.size<w1.heap.size:=HK6.out.lt
  have HM8:Hid (PrM w8 (tagged r.to_ tag).params (.slice (some ⟨g9,0,none⟩) (r.to_.params.length+1) c9)):=hid ((tag_prm HO6.out).fr hf8 (keepP_blk HK7B.out (by decide) (by decide)))
  have HB8:Hid (Below w0.heap.size w0 w8):=hid ((HB2.out.trans (HB6.out.mono HB2.out.size)).trans (hf8.to_below (Nat.le_trans HB2.out.size HB6.out.size) (fun k e=>by omega)))
  have hk68:=(HK62.out.fr (Fr.of_below (F:=fun _=>False) HB6.out) (fun h=>h)).fr hf8 (by omega)
  have HK8:Hid (∀ W,Below w8.heap.size w8 W->Blk W w1.heap.size 34 (addrA (tagged r.to_ tag) (.slice A4 r.to_.uri.params.length c4) (.slice A5 r.to_.uri.headers.length c5) (.slice (some ⟨g9,0,none⟩) (r.to_.params.length+1) c9))/\Blk W w0.heap.size 37 dlg0):=hid (fun W hW=>⟨hk8.fr (Fr.of_below (F:=fun _=>False) hW) (fun h=>h),hk68.fr (Fr.of_below (F:=fun _=>False) hW) (fun h=>h)⟩)
  have HBX:Hid (∀ W,Below w8.heap.size w8 W->Below w0.heap.size w0 W):=hid (fun W hW=>HB8.out.trans (hW.mono HB8.out.size))
  have HCH:Hid (∀ W,Below w8.heap.size w8 W->Calls Tryz.prog 131 #[.agg #[.string (str r.to_.display),.string (str r.to_.uri.scheme),.string (str r.to_.uri.user),.string (str r.to_.uri.host),.int .i64 r.to_.uri.port,.slice A4 r.to_.uri.params.length c4,.slice A5 r.to_.uri.headers.length c5,.slice (some ⟨g9,0,none⟩) (r.to_.params.length+1) c9]] W (AckPost (tagged r.to_ tag) W)):=hid (fun W hW=>qCheck_any (a:=tagged r.to_ tag) (Nat.le_refl _) ⟨PrB.up (HBO.out W (HBX.out W hW)).1.to_.p (HBO.out W (HBX.out W hW)).2,PrB.up (HBO.out W (HBX.out W hW)).1.to_.h (HBO.out W (HBX.out W hW)).2,(HM8.out.below hW).prB⟩ ⟨HZ.out.toZ.d,HZ.out.toZ.u,fun q hq=>by
   rcases List.mem_append.1 hq with hq|hq
   .exact HZ.out.toZ.p q hq
   .simp only [List.mem_singleton] at hq
    subst hq
    exact ⟨by show 3<=_;omega,by have:=HTL.out;show tag.length<=_;omega⟩⟩)
  rw [hw8]
  clear hw8 hk8 hf8 hk68 x7 j7 c24 c24a hoe hra HONE gl7 hl1 HO1 HB3 hs3
  unfold AckPost at HCH
  by_cases hE:addrE (tagged r.to_ tag)=0
  .have HE2:Hid (begR r tag=⟨some (begD r tag k),0⟩):=hid (HE.out.trans (if_neg (by simp [hE])))
   rw [hE] at HCH
   clear hE
   have HS:Hid (∀ W,Below w8.heap.size w8 W->W.cell? ⟨w.heap.size,27,none⟩=some (.string (str r.callid))/\W.rangeAt w1.heap.size 0 [.string (str r.to_.display),.string (str r.to_.uri.scheme),.string (str r.to_.uri.user),.string (str r.to_.uri.host),.int .i64 r.to_.uri.port,.slice A4 r.to_.uri.params.length c4,.slice A5 r.to_.uri.headers.length c5,.slice (some ⟨g9,0,none⟩) (r.to_.params.length+1) c9]/\W.rangeAt w.heap.size 9 [.string (str r.from_.display),.string (str r.from_.uri.scheme),.string (str r.from_.uri.user),.string (str r.from_.uri.host),.int .i64 r.from_.uri.port,.slice A1 r.from_.uri.params.length c1,.slice A2 r.from_.uri.headers.length c2,.slice A3 r.from_.params.length c3]/\W.cell? ⟨w.heap.size,32,none⟩=some (.slice (some ⟨gb,off,none⟩) 1 cc)/\W.rangeAt gb (off+1) [.string (str k.uri.scheme),.string (str k.uri.user),.string (str k.uri.host),.int .i64 k.uri.port,.slice A6 k.uri.params.length c6,.slice A7 k.uri.headers.length c7]/\W.cell? ⟨w.heap.size,33,none⟩=some (.slice Ar r.routes.length cr)/\W.cell? ⟨w.heap.size,28,none⟩=some (.int .i64 r.seq)):=hid (fun W hW=>by
    have h9:=HKA.out W (HBX.out W hW)
    have h7:=(HK8.out W hW).1
    obtain ⟨gb',off',e',_,hc⟩:=(HCR.out W (HBX.out W hW)).1.2 (Nat.zero_lt_one)
    injection e' with e'
    injection e' with e1 e2 _
    subst e1 e2
    refine ⟨h9.cell 27,blk_range (off:=0) h7 rfl,blk_range (off:=9) h9 rfl,h9.cell 32,fun j v hj=>?_,h9.cell 33,h9.cell 28⟩
    rw [Nat.add_assoc]
    exact hc (1+j) v (by
     have hl:j<6:=(List.getElem?_eq_some_iff.1 hj).1
     match j,hl with
     | 0,_=>exact hj
     | 1,_=>exact hj
     | 2,_=>exact hj
     | 3,_=>exact hj
     | 4,_=>exact hj
     | 5,_=>exact hj))
   go_upto_region 10 with (first|(refine wpl_load rfl 34 (.tmp 7) rfl w1.heap.size 0 rfl (HK8.out _ (Below.refl _ _)).1 (addrA (tagged r.to_ tag) (.slice A4 r.to_.uri.params.length c4) (.slice A5 r.to_.uri.headers.length c5) (.slice (some ⟨g9,0,none⟩) (r.to_.params.length+1) c9)).toList rfl _ Tryz.underlying34 rfl (by kernel_rfl) ?_)|(go_at_call 131;refine (HCH.out _ (Below.refl _ _)).mono ?_;rintro e w9 ⟨rfl,hb9⟩;have HB9:=hid hb9;clear hb9))
   have HX0:Hid (Below w8.heap.size w8 w9.drew):=hid (HB9.out.trans (Below.refl w8.heap.size w9).drew)
   have HK4X:=hid (HKB.out _ (HBX.out _ HX0.out))
   refine wp_region_noPanic (rgn HS.out HX0.out fun hHeld=>?_)
   refine tk 0 ?_
   refine tk 1 ?_
   refine tkm 2 #[.string (str r.to_.display),.string (str r.to_.uri.scheme),.string (str r.to_.uri.user),.string (str r.to_.uri.host),.int .i64 r.to_.uri.port,.slice A4 r.to_.uri.params.length c4,.slice A5 r.to_.uri.headers.length c5,.slice (some ⟨g9,0,none⟩) (r.to_.params.length+1) c9] w1.heap.size 0 (fun wq hSw=>hSw.2.1) Tryz.underlying34 ?_
   refine tk 3 ?_
   refine tkm 4 #[.string (str r.from_.display),.string (str r.from_.uri.scheme),.string (str r.from_.uri.user),.string (str r.from_.uri.host),.int .i64 r.from_.uri.port,.slice A1 r.from_.uri.params.length c1,.slice A2 r.from_.uri.headers.length c2,.slice A3 r.from_.params.length c3] w.heap.size 9 (fun wq hSw=>hSw.2.2.1) Tryz.underlying34 ?_
   refine tk 5 ?_
   refine tk 6 ?_
   refine tk 7 ?_
   refine tk 8 ?_
   refine tkm 9 #[.string (str k.uri.scheme),.string (str k.uri.user),.string (str k.uri.host),.int .i64 k.uri.port,.slice A6 k.uri.params.length c6,.slice A7 k.uri.headers.length c7] gb (off+1) (fun wq hSw=>hSw.2.2.2.2.1) Tryz.underlying32 ?_
   refine tk 10 ?_
   refine tk 11 ?_
   refine tk 12 ?_
   refine tk 13 ?_
   refine tk 14 ?_
   refine rd1 15 fun K hK=>?_
   rw [if_pos (by rfl)]
   refine wp_store_mid 37 (.tmp 4) (.tmp 60) rfl (w.heap.size+1) 0 (dlgA (begD r tag k) ⟨.slice none 0 0,.slice A4 r.to_.uri.params.length c4,.slice A5 r.to_.uri.headers.length c5,.slice (some ⟨g9,0,none⟩) (r.to_.params.length+1) c9,.slice A1 r.from_.uri.params.length c1,.slice A2 r.from_.uri.headers.length c2,.slice A3 r.from_.params.length c3,.slice A6 k.uri.params.length c6,.slice A7 k.uri.headers.length c7,.slice Ar r.routes.length cr⟩) rfl rfl (blk_there HK4X.out (Nat.le_refl 26)) (by kernel_rfl) (dlgA_one ⟨rfl,rfl,rfl,rfl,rfl,rfl,rfl,rfl,rfl⟩) ?_
   have hf:=fr_setCells (w.heap.size+1) (dlgA (begD r tag k) ⟨.slice none 0 0,.slice A4 r.to_.uri.params.length c4,.slice A5 r.to_.uri.headers.length c5,.slice (some ⟨g9,0,none⟩) (r.to_.params.length+1) c9,.slice A1 r.from_.uri.params.length c1,.slice A2 r.from_.uri.headers.length c2,.slice A3 r.from_.params.length c3,.slice A6 k.uri.params.length c6,.slice A7 k.uri.headers.length c7,.slice Ar r.routes.length cr⟩).toList 0 w9.drew
   have hkz:Blk (World.setCells w9.drew (w.heap.size+1) 0 (dlgA (begD r tag k) ⟨.slice none 0 0,.slice A4 r.to_.uri.params.length c4,.slice A5 r.to_.uri.headers.length c5,.slice (some ⟨g9,0,none⟩) (r.to_.params.length+1) c9,.slice A1 r.from_.uri.params.length c1,.slice A2 r.from_.uri.headers.length c2,.slice A3 r.from_.params.length c3,.slice A6 k.uri.params.length c6,.slice A7 k.uri.headers.length c7,.slice Ar r.routes.length cr⟩).toList) (w.heap.size+1) 37 (dlgA (begD r tag k) ⟨.slice none 0 0,.slice A4 r.to_.uri.params.length c4,.slice A5 r.to_.uri.headers.length c5,.slice (some ⟨g9,0,none⟩) (r.to_.params.length+1) c9,.slice A1 r.from_.uri.params.length c1,.slice A2 r.from_.uri.headers.length c2,.slice A3 r.from_.params.length c3,.slice A6 k.uri.params.length c6,.slice A7 k.uri.headers.length c7,.slice Ar r.routes.length cr⟩):=blk_setCells (dlgA (begD r tag k) ⟨.slice none 0 0,.slice A4 r.to_.uri.params.length c4,.slice A5 r.to_.uri.headers.length c5,.slice (some ⟨g9,0,none⟩) (r.to_.params.length+1) c9,.slice A1 r.from_.uri.params.length c1,.slice A2 r.from_.uri.headers.length c2,.slice A3 r.from_.params.length c3,.slice A6 k.uri.params.length c6,.slice A7 k.uri.headers.length c7,.slice Ar r.routes.length cr⟩).toList (off:=0) HK4X.out (Nat.le_refl 26)
   obtain ⟨u,hu⟩:∃ u,World.setCells w9.drew (w.heap.size+1) 0 (dlgA (begD r tag k) ⟨.slice none 0 0,.slice A4 r.to_.uri.params.length c4,.slice A5 r.to_.uri.headers.length c5,.slice (some ⟨g9,0,none⟩) (r.to_.params.length+1) c9,.slice A1 r.from_.uri.params.length c1,.slice A2 r.from_.uri.headers.length c2,.slice A3 r.from_.params.length c3,.slice A6 k.uri.params.length c6,.slice A7 k.uri.headers.length c7,.slice Ar r.routes.length cr⟩).toList=u:=⟨_,rfl⟩
   rw [hu] at hf hkz ⊢
   clear hu
   have HKZ:=hid hkz
   have HFIN:Hid (DlgW u B (begD r tag k) ⟨.slice none 0 0,.slice A4 r.to_.uri.params.length c4,.slice A5 r.to_.uri.headers.length c5,.slice (some ⟨g9,0,none⟩) (r.to_.params.length+1) c9,.slice A1 r.from_.uri.params.length c1,.slice A2 r.from_.uri.headers.length c2,.slice A3 r.from_.params.length c3,.slice A6 k.uri.params.length c6,.slice A7 k.uri.headers.length c7,.slice Ar r.routes.length cr⟩/\Below w.heap.size w u):=hid (by
    have hbw:=HBX.out _ HX0.out
    have hr:=(HBO.out _ hbw).1
    have hx:=(HCR.out _ hbw).2 ⟨k,.slice A6 k.uri.params.length c6,.slice A7 k.uri.headers.length c7,va⟩ (by simp)
    have hd:DlgW w9.drew B (begD r tag k) ⟨.slice none 0 0,.slice A4 r.to_.uri.params.length c4,.slice A5 r.to_.uri.headers.length c5,.slice (some ⟨g9,0,none⟩) (r.to_.params.length+1) c9,.slice A1 r.from_.uri.params.length c1,.slice A2 r.from_.uri.headers.length c2,.slice A3 r.from_.params.length c3,.slice A6 k.uri.params.length c6,.slice A7 k.uri.headers.length c7,.slice Ar r.routes.length cr⟩:=⟨.inl hr.to_.p,.inl hr.to_.h,.inr (HM8.out.below HX0.out),.inl hr.from_.p,.inl hr.from_.h,.inl hr.from_.a,.inl hx.1,.inl hx.2,.inl hr.ro⟩
    have hbf:Below w.heap.size w w9.drew:=HB0.out.trans (hbw.mono HB0.out.size)
    exact ⟨hd.fr hf (keepP_blk HK4X.out (by decide) (by decide)) (hf.to_below (HBO.out _ hbw).2 (fun k e=>by have:=HBB.out;omega)),below_upfr hbf (Nat.le_refl _) hf (fun k e=>by omega)⟩)
   have hS9:=HS.out _ HX0.out
   have HSU:Hid (u.cell? ⟨w.heap.size,27,none⟩=some (.string (str r.callid))/\u.rangeAt w1.heap.size 0 [.string (str r.to_.display),.string (str r.to_.uri.scheme),.string (str r.to_.uri.user),.string (str r.to_.uri.host),.int .i64 r.to_.uri.port,.slice A4 r.to_.uri.params.length c4,.slice A5 r.to_.uri.headers.length c5,.slice (some ⟨g9,0,none⟩) (r.to_.params.length+1) c9]/\u.rangeAt w.heap.size 9 [.string (str r.from_.display),.string (str r.from_.uri.scheme),.string (str r.from_.uri.user),.string (str r.from_.uri.host),.int .i64 r.from_.uri.port,.slice A1 r.from_.uri.params.length c1,.slice A2 r.from_.uri.headers.length c2,.slice A3 r.from_.params.length c3]/\u.cell? ⟨w.heap.size,32,none⟩=some (.slice (some ⟨gb,off,none⟩) 1 cc)/\u.rangeAt gb (off+1) [.string (str k.uri.scheme),.string (str k.uri.user),.string (str k.uri.host),.int .i64 k.uri.port,.slice A6 k.uri.params.length c6,.slice A7 k.uri.headers.length c7]/\u.cell? ⟨w.heap.size,33,none⟩=some (.slice Ar r.routes.length cr)/\u.cell? ⟨w.heap.size,28,none⟩=some (.int .i64 r.seq)):=hid (by
    have hbw:=HBX.out _ HX0.out
    have h9:=(HKA.out _ hbw).fr hf (by omega)
    have hl1:w0.heap.size<w1.heap.size:=HK6.out.lt
    have h7:=(HK8.out _ HX0.out).1.fr hf (by have:=HS0.out;omega)
    have hgb:gb<B:=by
     obtain ⟨gb',off',e',hlt,_⟩:=(HCR.out _ hbw).1.2 (Nat.zero_lt_one)
     injection e' with e'
     injection e' with e1 e2 _
     rw [e1]
     exact hlt
    refine ⟨h9.cell 27,blk_range (off:=0) h7 rfl,blk_range (off:=9) h9 rfl,h9.cell 32,fun j v hj=>?_,h9.cell 33,h9.cell 28⟩
    exact ((hf.to_below (B:=B) (HBO.out _ hbw).2 (fun k e=>by have:=HBB.out;omega)).cell (p:=⟨gb,off+1+j,none⟩) hgb).trans (hS9.2.2.2.2.1 j v hj))
   clear hf hkz hS9
   refine bk hK (HSU.out) fun hHeld=>?_
   clear hK K
   refine tk 16 ?_
   refine dn9 (NoPanic.normal ?_)
   clear hHeld
   go_wp2_with fail
   refine ret_cell2 rfl rfl rfl rfl HKZ.out _ Tryz.underlying37 rfl (by kernel_rfl) ⟨⟨.slice none 0 0,.slice A4 r.to_.uri.params.length c4,.slice A5 r.to_.uri.headers.length c5,.slice (some ⟨g9,0,none⟩) (r.to_.params.length+1) c9,.slice A1 r.from_.uri.params.length c1,.slice A2 r.from_.uri.headers.length c2,.slice A3 r.from_.params.length c3,.slice A6 k.uri.params.length c6,.slice A7 k.uri.headers.length c7,.slice Ar r.routes.length cr⟩,by rw [HE2.out];rfl,by rw [HE2.out];exact HFIN.out.1,HFIN.out.2⟩
  .have HE2:Hid (begR r tag=⟨none,addrE (tagged r.to_ tag)⟩):=hid (HE.out.trans (if_pos hE))
   generalize addrE (tagged r.to_ tag)=ae at *
   have dE:(ae != 0)=true:=by simpa using hE
   clear hE
   have HS:Hid (∀ W,Below w8.heap.size w8 W->W.rangeAt w0.heap.size 0 dlg0.toList/\W.rangeAt w1.heap.size 0 [.string (str r.to_.display),.string (str r.to_.uri.scheme),.string (str r.to_.uri.user),.string (str r.to_.uri.host),.int .i64 r.to_.uri.port,.slice A4 r.to_.uri.params.length c4,.slice A5 r.to_.uri.headers.length c5,.slice (some ⟨g9,0,none⟩) (r.to_.params.length+1) c9]):=hid (fun W hW=>⟨blk_range (off:=0) (HK8.out W hW).2 rfl,blk_range (off:=0) (HK8.out W hW).1 rfl⟩)
   go_upto_region 9 with (first|(refine wpl_load rfl 34 (.tmp 7) rfl w1.heap.size 0 rfl (HK8.out _ (Below.refl _ _)).1 (addrA (tagged r.to_ tag) (.slice A4 r.to_.uri.params.length c4) (.slice A5 r.to_.uri.headers.length c5) (.slice (some ⟨g9,0,none⟩) (r.to_.params.length+1) c9)).toList rfl _ Tryz.underlying34 rfl (by kernel_rfl) ?_)|(go_at_call 131;refine (HCH.out _ (Below.refl _ _)).mono ?_;rintro e w9 ⟨rfl,hb9⟩;have HB9:=hid hb9;clear hb9))
   have HX0:Hid (Below w8.heap.size w8 w9.drew):=hid (HB9.out.trans (Below.refl w8.heap.size w9).drew)
   refine wp_region_noPanic (rgn HS.out HX0.out fun hHeld=>?_)
   refine tkm 0 dlg0 w0.heap.size 0 (fun wq hSw=>hSw.1) Tryz.underlying37 ?_
   refine tkm 1 #[.string (str r.to_.display),.string (str r.to_.uri.scheme),.string (str r.to_.uri.user),.string (str r.to_.uri.host),.int .i64 r.to_.uri.port,.slice A4 r.to_.uri.params.length c4,.slice A5 r.to_.uri.headers.length c5,.slice (some ⟨g9,0,none⟩) (r.to_.params.length+1) c9] w1.heap.size 0 (fun wq hSw=>hSw.2) Tryz.underlying34 ?_
   refine rd1 2 fun K hK=>?_
   go_simp
   refine (HCH.out _ HX0.out).mono ?_
   rintro e w10 ⟨rfl,hb10⟩
   have HX1:Hid (Below w8.heap.size w8 w10):=hid (thenB_ HX0.out hb10)
   clear hb10
   go_wp2_with fail
   refine bk hK (HS.out _ HX1.out) fun hHeld=>?_
   clear hK K
   refine rd1 3 fun K hK=>?_
   rw [if_pos (by rfl)]
   have hk4:=HKB.out _ (HBX.out _ HX1.out)
   refine wp_store_mid 37 (.tmp 4) (.tmp 43) rfl (w.heap.size+1) 0 dlg0 rfl rfl (blk_there hk4 (Nat.le_refl 26)) (by kernel_rfl) dlg0_one ?_
   have hf:=fr_setCells (w.heap.size+1) dlg0.toList 0 w10
   have hkz:Blk (World.setCells w10 (w.heap.size+1) 0 dlg0.toList) (w.heap.size+1) 37 dlg0:=blk_setCells dlg0.toList (off:=0) hk4 (Nat.le_refl 26)
   obtain ⟨u,hu⟩:∃ u,World.setCells w10 (w.heap.size+1) 0 dlg0.toList=u:=⟨_,rfl⟩
   rw [hu] at hf hkz ⊢
   clear hu
   have HKZ:=hid hkz
   have HFIN:Hid (Below w.heap.size w u):=hid (below_upfr (HB0.out.trans ((HBX.out _ HX1.out).mono HB0.out.size)) (Nat.le_refl _) hf (fun k e=>by omega))
   have HSU:Hid (u.rangeAt w0.heap.size 0 dlg0.toList/\u.rangeAt w1.heap.size 0 [.string (str r.to_.display),.string (str r.to_.uri.scheme),.string (str r.to_.uri.user),.string (str r.to_.uri.host),.int .i64 r.to_.uri.port,.slice A4 r.to_.uri.params.length c4,.slice A5 r.to_.uri.headers.length c5,.slice (some ⟨g9,0,none⟩) (r.to_.params.length+1) c9]):=hid (by
    have hl1:w0.heap.size<w1.heap.size:=HK6.out.lt
    exact ⟨blk_range (off:=0) ((HK8.out _ HX1.out).2.fr hf (by have:=HS0.out;omega)) rfl,blk_range (off:=0) ((HK8.out _ HX1.out).1.fr hf (by have:=HS0.out;omega)) rfl⟩)
   clear hf hkz hk4
   refine bk hK (HSU.out) fun hHeld=>?_
   clear hK K
   refine tk 4 ?_
   refine dn9 (NoPanic.normal ?_)
   clear hHeld
   go_wp2_with fail
   refine ret_cell2 rfl rfl rfl rfl HKZ.out _ Tryz.underlying37 rfl (by kernel_rfl) ⟨nilV,by rw [HE2.out];rfl,by rw [HE2.out];exact dlgw_none _ _,HFIN.out⟩
end Go.Proofs.YthkadehlclcggaaGreatDoor
