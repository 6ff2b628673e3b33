/- Chapter 16: the document's answer, Do, whole; beside the store. Chapter 16: small documents; somebody's publications in the document's list. Chapter 16: the two stores behind acts. -/
import Derived.Test.YthfmekdbcoaolaaGreatDoorGy45
import Derived.Test.YthfmekdbcoaolaaGreatDoorGy47
import Derived.Test.YthfmekdbcoaolaaGreatDoorGy48
import Derived.Test.YthfmekdbcoaolaaGreatDoorGy49
import Derived.Test.YthfmekdbcoaolaaGreatDoorGy50
import Derived.Test.YthfmekdbcoaolaaGreatDoorGy51
import Derived.Test.YthfmekdbcoaolaaGreatDoorGy43
import Derived.Test.YthfmekdbcoaolaaGreatDoorGy44
import Derived.Deep.RegionWith
import Derived.Deep.RegionLaw
namespace Go.Proofs.YthfmekdbcoaolaaGreatDoor
set_option linter.unusedSimpArgs false
set_option linter.unusedVariables false
open Go.RowKit
open Go.Lib (hid)
set_option maxRecDepth 100000 in
theorem rdo_any {w:World} {N:Nat->Prop} {B:Nat} {c:Conf} {last now:Int} {L:List Pub} {v:Value} {l:List TM} {a:AskP} {At An:Option Addr} {ct cn:Nat} (H:RL w N B L v) (Q:StQ c last L l) (hB:B<=w.heap.size) (hd:DocB w B a.doc (.slice At a.doc.tups.length ct) (.slice An a.doc.notes.length cn)) (hs:AskS a) (he:a.has=true->a.doc.ent.length<=99999990) (hla:last<=1000000) :
 Calls Tryz.prog 29 #[.agg (rsV c last v),.int .i64 now,.agg #[.string (str a.who),.string (str a.mtch),.int .i64 a.exp,.bool a.has,.string (str a.doc.ent),.slice At a.doc.tups.length ct,.slice An a.doc.notes.length cn,.string (str a.tag)]] w (RDoPost N B c (doR c last L now a) w):=by
 cases h:argE L now a with
 | true=>exact rdo_arg H Q hB hd hs he hla h
 | false =>
   by_cases hm:a.mtch=[]
   .cases hk:secK c a.exp with
    | false=>exact rdo_423n H Q hB hd hs he hla h hm hk
    | true =>
      by_cases hx:a.has=false\/secN c a.exp=0
      .exact rdo_400n H Q hB hd hs he hla h hm hk hx
      .have hx1:a.has=true:=by
        cases hh:a.has with
        | true=>rfl
        | false=>exact absurd (.inl hh) hx
       have hx2:secN c a.exp≠0:=fun q=>hx (.inr q)
       by_cases hl:c.pubs<=(L.length:Int)
       .exact rdo_503 H Q hB hd hs he hla h hm hk hx1 hx2 hl
       .exact rdo_new4 H Q hB hd hs he hla h hm hk hx1 hx2 hl
   .rcases plc_ways L a.mtch with ⟨_,hf⟩|⟨j,hj,hp,htg⟩
    .exact rdo_412a H Q hB hd hs he hla h hm hf
    .by_cases hw:L[j].who=a.who
     .cases hk:secK c a.exp with
      | false=>exact rdo_423o H Q hB hd hs he hla h hm hj hp htg hw hk
      | true =>
        rcases Decidable.em (secN c a.exp=0) with hy|hy
        .rcases Bool.eq_false_or_eq_true a.has with hx|hx
         .exact rdo_400o H Q hB hd hs he hla h hm hj hp htg hw hk hx hy
         .exact rdo_drop H Q hB hd hs he hla h hm hj hp htg hw hk hx hy
        .exact rdo_put H Q hB hd hs he hla h hm hj hp htg hw hk hy
     .exact rdo_412b H Q hB hd hs he hla h hm hj hp htg hw
def RDoTwo (B p:Nat) (c:Conf) (last1:Int) (L1:List Pub) (r:DoR) (w:World) (e:Ending) (w':World):Prop:=∃ v',e=.returned (.tuple #[.agg (rsV c r.last v'),.agg #[.int .i64 r.told.status,.int .i64 r.told.exp,.string (str r.told.tag),.bool r.told.changed],.int .i64 r.err])/\Two B w' p c last1 L1 r.L v'/\Below w.heap.size w w'
theorem rdo_two {w:World} {B p:Nat} {c:Conf} {last last1 now:Int} {L L1:List Pub} {v:Value} {l:List TM} {a:AskP} {At An:Option Addr} {ct cn:Nat} (H:Two B w p c last1 L1 L v) (Q:StQ c last L l) (hB:B<=w.heap.size) (hd:DocB w B a.doc (.slice At a.doc.tups.length ct) (.slice An a.doc.notes.length cn)) (hs:AskS a) (he:a.has=true->a.doc.ent.length<=99999990) (hla:last<=1000000) :
 Calls Tryz.prog 29 #[.agg (rsV c last v),.int .i64 now,.agg #[.string (str a.who),.string (str a.mtch),.int .i64 a.exp,.bool a.has,.string (str a.doc.ent),.slice At a.doc.tups.length ct,.slice An a.doc.notes.length cn,.string (str a.tag)]] w (RDoTwo B p c last1 L1 (doR c last L now a) w):=by
 obtain ⟨F,h1,h2,h3⟩:=H
 refine (rdo_any h3 Q hB hd hs he hla).mono ?_
 rintro e w' ⟨v',rfl,h4,h5⟩
 refine ⟨v',rfl,⟨F,h1.below h5,h2,h4.mono fun k hk q=>?_⟩,h5⟩
 rcases q with q|q
 .exact q
 .exact ⟨Nat.le_trans hB q,fun hF=>by have:=h1.lt hF;omega⟩
def smallB (a:AskP):Bool:=decide (a.doc.tups.length<=40)&&decide (a.doc.notes.length<=40)&&decide (a.doc.ent.length<=500)
set_option maxRecDepth 100000 in
theorem small_any (a:AskP) (At An:Option Addr) (ct cn:Nat) (w:World):Calls Tryz.prog 23 #[.agg #[.string (str a.who),.string (str a.mtch),.int .i64 a.exp,.bool a.has,.string (str a.doc.ent),.slice At a.doc.tups.length ct,.slice An a.doc.notes.length cn,.string (str a.tag)]] w fun e w'=>e=.returned (.bool (smallB a))/\Below w.heap.size w w':=by
 obtain ⟨w0,hw0⟩:∃ w0,w.alloc (.cells #[.string (str a.who),.string (str a.mtch),.int .i64 a.exp,.bool a.has,.string (str a.doc.ent),.slice At a.doc.tups.length ct,.slice An a.doc.notes.length cn,.string (str a.tag)] 42)=w0:=⟨_,rfl⟩
 have hb0:Below w.heap.size w w0:=hw0▸(Below.refl _ _).alloc (Nat.le_refl _) _
 have hk:Blk w0 w.heap.size 42 #[.string (str a.who),.string (str a.mtch),.int .i64 a.exp,.bool a.has,.string (str a.doc.ent),.slice At a.doc.tups.length ct,.slice An a.doc.notes.length cn,.string (str a.tag)]:=hw0▸Blk.new w _ _
 have HB0:=hid hb0
 have c4:=hk.cell 4
 have c5:=hk.cell 5
 have c6:=hk.cell 6
 have HS:Hid (smallB a=(decide (a.doc.tups.length<=40)&&decide (a.doc.notes.length<=40)&&decide ((str a.doc.ent).size<=500))):=hid rfl
 generalize smallB a=S at *
 clear hb0 hk
 go_enter Tryz.func23,Tryz.ntmps23
 go_upto_region 1 with (fail)
 try rw [hw0]
 clear hw0
 generalize str a.doc.ent=E at *
 by_cases h1:a.doc.tups.length<=40
 .have x1:(a.doc.tups.length:Int)<=40:=by omega
  by_cases h2:a.doc.notes.length<=40
  .have x2:(a.doc.notes.length:Int)<=40:=by omega
   by_cases h3:E.size<=500
   .have x3:(E.size:Int)<=500:=by omega
    have HZ:Hid (S=true):=hid (by rw [HS.out,decide_eq_true h1,decide_eq_true h2,decide_eq_true h3];rfl)
    go_wp2
    go_ret
    exact ⟨ret_bool HZ.out.symm,HB0.out⟩
   .have x3:¬(E.size:Int)<=500:=by omega
    have HZ:Hid (S=false):=hid (by rw [HS.out,decide_eq_true h1,decide_eq_true h2,decide_eq_false h3];rfl)
    go_wp2
    go_ret
    exact ⟨ret_bool HZ.out.symm,HB0.out⟩
  .have x2:¬(a.doc.notes.length:Int)<=40:=by omega
   have HZ:Hid (S=false):=hid (by rw [HS.out,decide_eq_true h1,decide_eq_false h2];rfl)
   go_wp2
   go_ret
   exact ⟨ret_bool HZ.out.symm,HB0.out⟩
 .have x1:¬(a.doc.tups.length:Int)<=40:=by omega
  have HZ:Hid (S=false):=hid (by rw [HS.out,decide_eq_false h1];rfl)
  go_wp2
  go_ret
  exact ⟨ret_bool HZ.out.symm,HB0.out⟩
def RLivePost (L:List Pub) (who:T) (w:World) (e:Ending) (w':World):Prop:=∃ v,e=.returned v/\PubsR w' (L.filter fun p=>decide (p.who=who)) v/\Below w.heap.size w w'
structure RLv (w w0:World) (xs:List RP) (who:T) (j:Nat) (v:Value) (wr:World):Prop where
 own:∃ ys:List RP,wr.ownsRow w0.heap.size 66 7 v ys.length (rows rpC ys)/\ys.map (·.p)=((xs.map (·.p)).take j).filter (fun p=>decide (p.who=who))/\(∀ y∈ys,y∈xs)/\ys.length<=j
 be:Below w0.heap.size w0 wr
theorem RLv.skip {w w0 wr:World} {xs:List RP} {who:T} {j:Nat} {v:Value} (h:RLv w w0 xs who j v wr) (hlt:j<xs.length) (hw:¬xs[j].p.who=who):RLv w w0 xs who (j+1) v wr:=by
 obtain ⟨⟨ys,ho,hy1,hy2,hy3⟩,hb⟩:=h
 exact ⟨⟨ys,ho,by rw [hy1,who_out (L:=xs.map (·.p)) (j:=j) (who:=who) (by simpa using hlt) (by simpa using hw)],hy2,by omega⟩,hb⟩
theorem RLv.fin {w w0 wr:World} {xs:List RP} {who:T} {j:Nat} {v:Value} (h:RLv w w0 xs who j v wr) (hj:xs.length<=j) (hb0:Below w.heap.size w w0) (hd:∀ W,Below w0.heap.size w0 W->∀ x∈xs,DocB W W.heap.size x.p.doc x.vt x.vn):RLivePost (xs.map (·.p)) who w (.returned v) wr:=by
 obtain ⟨⟨ys,ho,hy1,hy2,_⟩,hb⟩:=h
 rw [List.take_of_length_le (by simp;omega)] at hy1
 obtain ⟨A',c',e,_,_,h7⟩:=RdV.of_own ho
 subst e
 exact ⟨_,rfl,⟨ys,A',c',hy1,rfl,h7,fun y hy=>hd _ hb y (hy2 y hy)⟩,thenB_ hb0 hb⟩
set_option maxRecDepth 100000 in
set_option maxHeartbeats 4000000 in
theorem rlive_any {w:World} {N:Nat->Prop} {B:Nat} {L:List Pub} {v:Value} {c:Conf} {last:Int} {who:T} (H:RL w N B L v) (hB:B<=w.heap.size) (hl:L.length<=1000):Calls Tryz.prog 25 #[.agg (rsV c last v),.string (str who)] w (RLivePost L who w):=by
 obtain ⟨xs,A,cp,rfl,rfl,hcp,hmx,hrd,_,hdoc⟩:=H
 rw [List.length_map] at hl
 obtain ⟨w0,hw0⟩:∃ w0,w.alloc (.cells (rsV c last (.slice A xs.length cp)) 60)=w0:=⟨_,rfl⟩
 have hb0:Below w.heap.size w w0:=hw0▸(Below.refl _ _).alloc (Nat.le_refl _) _
 have hk:Blk w0 w.heap.size 60 (rsV c last (.slice A xs.length cp)):=hw0▸Blk.new w _ _
 have HB0:=hid hb0
 have HK:Hid (∀ W,Below w0.heap.size w0 W->W.cell? ⟨w.heap.size,8,none⟩=some (.slice A xs.length cp)):=hid (fun W hW=>(hk.fr (Fr.of_below (F:=fun _=>False) hW) (fun h=>h)).cell 8)
 have HR:Hid (∀ W,Below w0.heap.size w0 W->Rd W 66 7 xs.length A (rows rpC xs)):=hid (fun W hW=>(hrd.below hb0).below hW)
 have HD:Hid (∀ W,Below w0.heap.size w0 W->∀ x∈xs,DocB W W.heap.size x.p.doc x.vt x.vn):=hid (fun W hW x hx=>((hdoc x hx).below ((thenB_ hb0 hW).mono hB)).up (Nat.le_trans hB (thenB_ hb0 hW).size))
 have HONE:Hid (∀ x∈xs,x.vt.oneCell'=true/\x.vn.oneCell'=true):=hid (fun x hx=>doc_one (hdoc x hx))
 have H0:Hid (RLv w w0 xs who 0 (.slice none 0 0) w0):=hid ⟨⟨[],⟨rfl,.inl ⟨rfl,rfl⟩⟩,by simp,by simp,Nat.le_refl _⟩,Below.refl _ _⟩
 clear hb0 hk hrd hdoc hmx
 go_enter Tryz.func25,Tryz.ntmps25
 go_wp2
 try rw [hw0]
 clear hw0
 go_loopw [5,6] (fun v i wr=>∃ j:Nat,j<=xs.length/\i=.int .i64 j/\RLv w w0 xs who j v wr) (fun _ i _=>xs.length-(intOf i).toNat)
 case atStart=>exact ⟨0,by omega,rfl,H0.out⟩
 case round =>
  obtain ⟨j,hj,rfl,hX⟩:=hrel
  have HX:=hid hX
  have c8:=HK.out _ hX.be
  clear hX
  by_cases hlt:j<xs.length
  .have x0:(0:Int)<=j:=by omega
   have x1:(j:Int)<xs.length:=by omega
   obtain ⟨gb,off,rfl,_,y0,y1,y2,y3,y4,y5,y6⟩:=rp_rd (HR.out _ HX.out.be) hlt
   by_cases hw:xs[j].p.who=who
   .obtain ⟨ys,ho,hy1,hy2,hy3⟩:=HX.out.own
    have q1:((str xs[j].p.who).toList == (str who).toList)=true:=by rw [strv_dec,decide_eq_true hw]
    have HO:=hid ho
    have HSZ:=hid HX.out.be.size
    have HO1:=hid (HONE.out _ (List.getElem_mem hlt))
    have HNX:Hid (∀ w4 v4,w4.ownsRow w0.heap.size 66 7 v4 (ys.length+1) (rows rpC ys++rpC xs[j])->Below w0.heap.size wr w4->RLv w w0 xs who (j+1) v4 w4):=hid (fun w4 v4 h1 h2=>by
     refine ⟨⟨ys++[xs[j]],by rw [rows_snoc,List.length_append];exact h1,?_,fun y hy=>?_,by rw [List.length_append,List.length_singleton];omega⟩,HX.out.be.trans h2⟩
     .have h9:=who_in (L:=xs.map (·.p)) (j:=j) (who:=who) (by simpa using hlt) (by simpa using hw)
      rw [h9,List.map_append,hy1]
      simp
     .rcases List.mem_append.1 hy with q|q
      .exact hy2 y q
      .rw [List.mem_singleton] at q;subst q;exact List.getElem_mem hlt)
    clear ho hy1 hy2 hw
    go_wp2_with (at_builtin;go_must (refine wpList_app1' rfl (.tmp 22) (.tmp 28) 45 rfl w0.heap.size 66 7 112 _ Tryz.underlying45 ePub rfl (by omega) _ ys.length (rows rpC ys) rfl HO.out [.int .i64 xs[j].p.number,.string (str xs[j].p.who),.string (str xs[j].p.tag),.int .i64 xs[j].p.until_,.string (str xs[j].p.doc.ent),xs[j].vt,xs[j].vn] _ rfl (by first|rfl|(simp;done)) rfl (rpC_one xs[j] HO1.out.1 HO1.out.2) (by unfold maxLen;omega) (by omega) (by have:=HSZ.out;first|exact this|(simp;omega)) ?_);intro v4 w4 hown4 hb4 hg4 hat4)
    have HZ:=hid (HNX.out w4 v4 hown4 hb4)
    clear hown4 hb4 hg4 hat4
    go_roundw
    case rel=>exact ⟨j+1,by omega,by go_num,HZ.out⟩
    case measure=>simp [intOf] <;> omega
   .have q1:((str xs[j].p.who).toList == (str who).toList)=false:=by rw [strv_dec,decide_eq_false hw]
    have HZ:=hid (HX.out.skip hlt hw)
    clear hw
    go_wp2
    go_roundw
    case rel=>exact ⟨j+1,by omega,by go_num,HZ.out⟩
    case measure=>simp [intOf] <;> omega
  .have x1:¬(j:Int)<xs.length:=by omega
   have HP:=hid (HX.out.fin (by omega) HB0.out HD.out)
   go_wp2
   go_ret
   exact HP.out
abbrev plA (last:Int) (v:Value):Array Value:=#[.string ⟨#[]⟩,.int .i64 1,.int .i64 3,.int .i64 1,.int .i64 60,.int .i64 3600,.int .i64 600,.int .i64 last,v]
theorem act_at {w:World} {B:Nat} {l:List ActX} {A:Option Addr} (h:RdB w B 10 l.length A (rows actC l)) {j:Nat} (hj:j<l.length):∃ gb off,A=some ⟨gb,off,none⟩/\gb<B/\w.cell? ⟨gb,off+j*10,none⟩=some (.bool l[j].ex)/\w.cell? ⟨gb,off+j*10+1,none⟩=some (.int .i64 l[j].now)/\w.cell? ⟨gb,off+j*10+2,none⟩=some (.string (str l[j].ask.who))/\w.cell? ⟨gb,off+j*10+3,none⟩=some (.string (str l[j].ask.mtch))/\w.cell? ⟨gb,off+j*10+4,none⟩=some (.int .i64 l[j].ask.exp)/\w.cell? ⟨gb,off+j*10+5,none⟩=some (.bool l[j].ask.has)/\w.cell? ⟨gb,off+j*10+6,none⟩=some (.string (str l[j].ask.doc.ent))/\w.cell? ⟨gb,off+j*10+7,none⟩=some l[j].vt/\w.cell? ⟨gb,off+j*10+8,none⟩=some l[j].vn/\w.cell? ⟨gb,off+j*10+9,none⟩=some (.string (str l[j].ask.tag)):=by
 obtain ⟨gb,off,e,hB,hc⟩:=h.at_ (by omega)
 have hr:∀ i,i<10->(rows actC l)[j*10+i]?=(actC l[j])[i]?:=fun i hi=>rows_at actC_len hj hi
 refine ⟨gb,off,e,hB,?_,?_,?_,?_,?_,?_,?_,?_,?_,?_⟩
 .exact hc (j*10) _ (by have:=hr 0 (by omega);rw [Nat.add_zero] at this;rw [this];rfl)
 .rw [Nat.add_assoc];exact hc (j*10+1) _ (by rw [hr 1 (by omega)];rfl)
 .rw [Nat.add_assoc];exact hc (j*10+2) _ (by rw [hr 2 (by omega)];rfl)
 .rw [Nat.add_assoc];exact hc (j*10+3) _ (by rw [hr 3 (by omega)];rfl)
 .rw [Nat.add_assoc];exact hc (j*10+4) _ (by rw [hr 4 (by omega)];rfl)
 .rw [Nat.add_assoc];exact hc (j*10+5) _ (by rw [hr 5 (by omega)];rfl)
 .rw [Nat.add_assoc];exact hc (j*10+6) _ (by rw [hr 6 (by omega)];rfl)
 .rw [Nat.add_assoc];exact hc (j*10+7) _ (by rw [hr 7 (by omega)];rfl)
 .rw [Nat.add_assoc];exact hc (j*10+8) _ (by rw [hr 8 (by omega)];rfl)
 .rw [Nat.add_assoc];exact hc (j*10+9) _ (by rw [hr 9 (by omega)];rfl)
structure FRel (w:World) (p g d:Nat) (k:Nat) (last:Int) (L:List Pub) (v:Value) (wr:World):Prop where
 be:Below w.heap.size w wr
 two:Two w.heap.size wr p (plC 3) last L L v
 bg:Blk wr g 60 #[.string ⟨#[]⟩,.int .i64 0,.int .i64 0,.int .i64 0,.int .i64 0,.int .i64 0,.int .i64 0,.int .i64 0,.slice none 0 0]
 bd:Blk wr d 60 (plA last v)
 hg:w.heap.size<=g
 hd:w.heap.size<=d
 gd:g≠d
 la:last<=k
 who:WhoS L
def FilPost (w:World) (e:Ending) (w':World):Prop:=∃ (p:Nat) (last:Int) (L:List Pub) (v:Value),e=.returned (.tuple #[.pointer (some ⟨p,0,none⟩),.agg (plA last v)])/\Two w.heap.size w' p (plC 3) last L L v/\last<=20/\WhoS L/\Below w.heap.size w w'
theorem FRel.below {w wr w':World} {p g d k:Nat} {last:Int} {L:List Pub} {v:Value} (h:FRel w p g d k last L v wr) (hb:Below wr.heap.size wr w'):FRel w p g d k last L v w' :=
 ⟨thenB_ h.be hb,h.two.below hb h.be.size,h.bg.fr (Fr.of_below (F:=fun _=>False) hb) (fun h=>h),h.bd.fr (Fr.of_below (F:=fun _=>False) hb) (fun h=>h),h.hg,h.hd,h.gd,h.la,h.who⟩
theorem FRel.next {w wr:World} {p g d k:Nat} {last:Int} {L:List Pub} {v:Value} (h:FRel w p g d k last L v wr):FRel w p g d (k+1) last L v wr :=
 ⟨h.be,h.two,h.bg,h.bd,h.hg,h.hd,h.gd,by have:=h.la;omega,h.who⟩
structure FMid (w:World) (p g d k:Nat) (last:Int) (L:List Pub) (v:Value) (r:DoR) (wr:World):Prop where
 be:Below w.heap.size w wr
 two:Two w.heap.size wr p (plC 3) r.last r.L L v
 bg:Blk wr g 60 #[.string ⟨#[]⟩,.int .i64 0,.int .i64 0,.int .i64 0,.int .i64 0,.int .i64 0,.int .i64 0,.int .i64 0,.slice none 0 0]
 bd:Blk wr d 60 (plA last v)
theorem Two.slice {w:World} {B p:Nat} {c:Conf} {last:Int} {L L2:List Pub} {v:Value} (h:Two B w p c last L L2 v):∃ A cp,v=.slice A L2.length cp:=by
 obtain ⟨F,_,_,xs,A,cp,e1,e2,_⟩:=h
 exact ⟨A,cp,by rw [e2,<-e1,List.length_map]⟩
theorem plA_cells {W:World} {d:Nat} {last:Int} {v:Value} (h:Blk W d 60 (plA last v)):W.cell? ⟨d,0,none⟩=some (.string ⟨#[]⟩)/\W.cell? ⟨d,1,none⟩=some (.int .i64 1)/\W.cell? ⟨d,2,none⟩=some (.int .i64 3)/\W.cell? ⟨d,3,none⟩=some (.int .i64 1)/\W.cell? ⟨d,4,none⟩=some (.int .i64 60)/\W.cell? ⟨d,5,none⟩=some (.int .i64 3600)/\W.cell? ⟨d,6,none⟩=some (.int .i64 600)/\W.cell? ⟨d,7,none⟩=some (.int .i64 last)/\W.cell? ⟨d,8,none⟩=some v:=⟨h.cell 0,h.cell 1,h.cell 2,h.cell 3,h.cell 4,h.cell 5,h.cell 6,h.cell 7,h.cell 8⟩
theorem FMid.below {w wr w':World} {p g d k:Nat} {last:Int} {L:List Pub} {v:Value} {r:DoR} (h:FMid w p g d k last L v r wr) (hb:Below wr.heap.size wr w'):FMid w p g d k last L v r w' :=
 ⟨thenB_ h.be hb,h.two.below hb h.be.size,h.bg.fr (Fr.of_below (F:=fun _=>False) hb) (fun h=>h),h.bd.fr (Fr.of_below (F:=fun _=>False) hb) (fun h=>h)⟩
theorem FRel.mid {w wr w':World} {p g d k:Nat} {last:Int} {L:List Pub} {v:Value} (h:FRel w p g d k last L v wr) {r:DoR} (h1:Two w.heap.size w' p (plC 3) r.last r.L L v) (h2:Below w.heap.size wr w') (h3:Stay wr w'):FMid w p g d k last L v r w' :=
 ⟨h.be.trans h2,h1,h3 _ _ _ h.bg (by decide),h3 _ _ _ h.bd (by decide)⟩
theorem FRel.fin {w wr w5 w':World} {p g d k:Nat} {last:Int} {L:List Pub} {v v':Value} (h:FRel w p g d k last L v wr) {r:DoR} (hm:FMid w p g d k last L v r w5) (h1:Two w.heap.size w' p (plC 3) r.last r.L r.L v') (h2:Below w5.heap.size w5 w') (hla:r.last<=last+1) (hw:WhoS r.L) (W:World) (hW:W=((((((((w'.setCell ⟨d,0,none⟩ (.string ⟨#[]⟩)).setCell ⟨d,1,none⟩ (.int .i64 1)).setCell ⟨d,2,none⟩ (.int .i64 3)).setCell ⟨d,3,none⟩ (.int .i64 1)).setCell ⟨d,4,none⟩ (.int .i64 60)).setCell ⟨d,5,none⟩ (.int .i64 3600)).setCell ⟨d,6,none⟩ (.int .i64 600)).setCell ⟨d,7,none⟩ (.int .i64 r.last)).setCell ⟨d,8,none⟩ v'):FRel w p g d (k+1) r.last r.L v' W:=by
 subst hW
 have f0:=Fr.of_below (F:=fun _=>False) h2
 have hd2:=hm.bd.fr f0 (fun h=>h)
 have hs:=set9_fr w' d (.string ⟨#[]⟩) (.int .i64 1) (.int .i64 3) (.int .i64 1) (.int .i64 60) (.int .i64 3600) (.int .i64 600) (.int .i64 r.last) v'
 have hb2:=thenB_ hm.be h2
 exact ⟨hb2.trans (hs.to_below hb2.size (fun k e=>by have:=h.hd;omega)),h1.set hd2 (by decide) (by decide) (by decide) hs h.hd,(hm.bg.fr f0 (fun h=>h)).fr hs h.gd,set9_blk hd2 _ _ _ _ _ _ _ _ _,h.hg,h.hd,h.gd,by have:=h.la;omega,hw⟩
theorem FRel.post {w wr:World} {p g d k:Nat} {last:Int} {L:List Pub} {v:Value} (h:FRel w p g d k last L v wr) (hk:k<=20) (Wf:World) (hW:Wf=(((((((((wr.setCell ⟨g,0,none⟩ (.string ⟨#[]⟩)).setCell ⟨g,1,none⟩ (.int .i64 1)).setCell ⟨g,2,none⟩ (.int .i64 3)).setCell ⟨g,3,none⟩ (.int .i64 1)).setCell ⟨g,4,none⟩ (.int .i64 60)).setCell ⟨g,5,none⟩ (.int .i64 3600)).setCell ⟨g,6,none⟩ (.int .i64 600)).setCell ⟨g,7,none⟩ (.int .i64 last)).setCell ⟨g,8,none⟩ v)\/Wf=World.drew (((((((((wr.setCell ⟨g,0,none⟩ (.string ⟨#[]⟩)).setCell ⟨g,1,none⟩ (.int .i64 1)).setCell ⟨g,2,none⟩ (.int .i64 3)).setCell ⟨g,3,none⟩ (.int .i64 1)).setCell ⟨g,4,none⟩ (.int .i64 60)).setCell ⟨g,5,none⟩ (.int .i64 3600)).setCell ⟨g,6,none⟩ (.int .i64 600)).setCell ⟨g,7,none⟩ (.int .i64 last)).setCell ⟨g,8,none⟩ v)):(Wf.cell? ⟨g,0,none⟩=some (.string ⟨#[]⟩)/\Wf.cell? ⟨g,1,none⟩=some (.int .i64 1)/\Wf.cell? ⟨g,2,none⟩=some (.int .i64 3)/\Wf.cell? ⟨g,3,none⟩=some (.int .i64 1)/\Wf.cell? ⟨g,4,none⟩=some (.int .i64 60)/\Wf.cell? ⟨g,5,none⟩=some (.int .i64 3600)/\Wf.cell? ⟨g,6,none⟩=some (.int .i64 600)/\Wf.cell? ⟨g,7,none⟩=some (.int .i64 last)/\Wf.cell? ⟨g,8,none⟩=some v)/\FilPost w (.returned (.tuple #[.pointer (some ⟨p,0,none⟩),.agg (plA last v)])) Wf:=by
 have hs:=set9_fr wr g (.string ⟨#[]⟩) (.int .i64 1) (.int .i64 3) (.int .i64 1) (.int .i64 60) (.int .i64 3600) (.int .i64 600) (.int .i64 last) v
 have hb:=h.be.trans (hs.to_below h.be.size (fun k e=>by have:=h.hg;omega))
 have ht:=h.two.set h.bg (by decide) (by decide) (by decide) hs h.hg
 have hk9:=set9_blk h.bg (.string ⟨#[]⟩) (.int .i64 1) (.int .i64 3) (.int .i64 1) (.int .i64 60) (.int .i64 3600) (.int .i64 600) (.int .i64 last) v
 have hla:=h.la
 rcases hW with rfl|rfl
 .exact ⟨⟨hk9.cell 0,hk9.cell 1,hk9.cell 2,hk9.cell 3,hk9.cell 4,hk9.cell 5,hk9.cell 6,hk9.cell 7,hk9.cell 8⟩,p,last,L,v,rfl,ht,by omega,h.who,hb⟩
 .have hd:=hk9.fr ((Fr.refl (fun _=>False) _).drew) (fun h=>h)
  exact ⟨⟨hd.cell 0,hd.cell 1,hd.cell 2,hd.cell 3,hd.cell 4,hd.cell 5,hd.cell 6,hd.cell 7,hd.cell 8⟩,p,last,L,v,rfl,ht.below (Below.refl _ _).drew hb.size,by omega,h.who,hb.drew⟩
set_option maxRecDepth 100000 in
set_option maxHeartbeats 8000000 in
theorem filled_any {w:World} {v:Value} (H:ActsB w w.heap.size v):Calls Tryz.prog 20 #[v] w (FilPost w):=by
 obtain ⟨l,A,cp,rfl,hcp,hmx,hl,hrd,hax⟩:=H
 have HPL:=hid (plain16_any 3)
 have HBG:Hid (∀ W,Calls Tryz.prog 10 #[.agg #[.string ⟨#[]⟩,.int .i64 1,.int .i64 3,.int .i64 1,.int .i64 60,.int .i64 3600,.int .i64 600]] W (BgnPost (plC 3) W)):=hid (fun W=>begun_any (c:=plC 3) (plC_right (by omega) (by omega)) W)
 unfold BgnPost at HBG
 have HRD:Hid (∀ W,Below w.heap.size w W->RdB W w.heap.size 10 l.length A (rows actC l)):=hid (fun W hW=>hrd.below hW)
 have HAX:Hid (∀ (k:Nat) (hk:k<l.length) W,Below w.heap.size w W->ActR W w.heap.size l[k]):=hid (fun k hk W hW=>(hax _ (List.getElem_mem hk)).below hW)
 have HL:=hid hl
 clear hrd hax hmx hl
 obtain ⟨w1,hw1⟩:∃ w1,w.alloc (.cells #[.string ⟨#[]⟩,.int .i64 0,.int .i64 0,.int .i64 0,.int .i64 0,.int .i64 0,.int .i64 0,.int .i64 0,.slice none 0 0] 60)=w1:=⟨_,rfl⟩
 have HB1:Hid (Below w.heap.size w w1):=hid (hw1▸(Below.refl _ _).alloc (Nat.le_refl _) _)
 have HG1:Hid (Blk w1 w.heap.size 60 #[.string ⟨#[]⟩,.int .i64 0,.int .i64 0,.int .i64 0,.int .i64 0,.int .i64 0,.int .i64 0,.int .i64 0,.slice none 0 0]):=hid (hw1▸Blk.new w _ _)
 go_enter Tryz.func20,Tryz.ntmps20
 go_upto_region 1 with (fail)
 try rw [hw1]
 clear hw1
 go_wp2_with fail
 refine (HPL.out _).mono ?_
 rintro e w2 ⟨rfl,hb2⟩
 have HB2:=hid (thenB_ HB1.out hb2)
 have HG2:=hid (HG1.out.fr (Fr.of_below (F:=fun _=>False) hb2) (fun h=>h))
 clear hb2
 go_wp2_with fail
 refine (HBG.out _).mono ?_
 rintro e w3 ⟨p,F,rfl,hst,hb3,hF⟩
 have HT3:Hid (Two w.heap.size w3 p (plC 3) 0 [] [] (.slice none 0 0)):=hid (Two.begin_ hst (fun k hk=>Nat.le_trans HB2.out.size (hF k hk)))
 have HB3:=hid (thenB_ HB2.out hb3)
 have HG3:=hid (HG2.out.fr (Fr.of_below (F:=fun _=>False) hb3) (fun h=>h))
 clear hst hb3 hF
 go_wp2_with fail
 refine (HPL.out _).mono ?_
 rintro e w4 ⟨rfl,hb4⟩
 have HT4:=hid (HT3.out.below hb4 HB3.out.size)
 have HB4:=hid (thenB_ HB3.out hb4)
 have HG4:=hid (HG3.out.fr (Fr.of_below (F:=fun _=>False) hb4) (fun h=>h))
 clear hb4
 go_upto_region 2 with (fail)
 obtain ⟨w5,hw5⟩:∃ w5,w4.alloc (.cells (plA 0 (.slice none 0 0)) 60)=w5:=⟨_,rfl⟩
 rw [hw5]
 have hb5:Below w4.heap.size w4 w5:=hw5▸(Below.refl _ _).alloc (Nat.le_refl _) _
 have hk5:Blk w5 w4.heap.size 60 (plA 0 (.slice none 0 0)):=hw5▸Blk.new w4 _ _
 have H0:Hid (FRel w p w.heap.size w4.heap.size 0 0 [] (.slice none 0 0) w5):=hid ⟨thenB_ HB4.out hb5,HT4.out.below hb5 HB4.out.size,HG4.out.fr (Fr.of_below (F:=fun _=>False) hb5) (fun h=>h),hk5,Nat.le_refl _,HB4.out.size,by have:=HG4.out.lt;omega,by omega,WhoS.nil⟩
 clear hb5 hk5 hw5
 generalize w4.heap.size=d at *
 go_wp2
 go_loopw [6] (fun i wr=>∃ (k:Nat) (last:Int) (L:List Pub) (v:Value),k<=l.length/\k<=20/\i=.int .i64 k/\FRel w p w.heap.size d k last L v wr) (fun i _=>l.length-(intOf i).toNat)
 case atStart=>exact ⟨0,0,[],_,Nat.zero_le _,by omega,rfl,H0.out⟩
 case round =>
  obtain ⟨k,last,L,v,hk,hk20,rfl,hR⟩:=hrel
  obtain ⟨Av,cv,rfl⟩:=hR.two.slice
  have HR:=hid hR
  clear hR
  by_cases hlt:k<l.length
  .have x0:(0:Int)<=k:=by omega
   have x1:(k:Int)<l.length:=by omega
   by_cases h20:k<20
   .have x2:(k:Int)<20:=by omega
    obtain ⟨gb,off,rfl,hgb,y0,y1,y2,y3,y4,y5,y6,y7,y8,y9⟩:=act_at (HRD.out _ HR.out.be) hlt
    have hx:=HAX.out k hlt _ HR.out.be
    obtain ⟨⟨At,ct,e1,_⟩,⟨An,cn,e2,_⟩⟩:=hx.doc
    have HX:Hid (∀ W,Below w.heap.size w W->DocB W w.heap.size l[k].ask.doc (.slice At l[k].ask.doc.tups.length ct) (.slice An l[k].ask.doc.notes.length cn)):=hid (fun W hW=>by
     have h9:=(HAX.out k hlt W hW).doc
     rw [e1,e2] at h9
     exact h9)
    have HAS:=hid hx.s
    rw [e1] at y7
    rw [e2] at y8
    have HROW:Hid (∀ W,Below w.heap.size w W->W.cell? ⟨gb,off+k*10,none⟩=some (.bool l[k].ex)/\W.cell? ⟨gb,off+k*10+1,none⟩=some (.int .i64 l[k].now)/\W.cell? ⟨gb,off+k*10+2,none⟩=some (.string (str l[k].ask.who))/\W.cell? ⟨gb,off+k*10+3,none⟩=some (.string (str l[k].ask.mtch))/\W.cell? ⟨gb,off+k*10+4,none⟩=some (.int .i64 l[k].ask.exp)/\W.cell? ⟨gb,off+k*10+5,none⟩=some (.bool l[k].ask.has)/\W.cell? ⟨gb,off+k*10+6,none⟩=some (.string (str l[k].ask.doc.ent))/\W.cell? ⟨gb,off+k*10+7,none⟩=some (.slice At l[k].ask.doc.tups.length ct)/\W.cell? ⟨gb,off+k*10+8,none⟩=some (.slice An l[k].ask.doc.notes.length cn)/\W.cell? ⟨gb,off+k*10+9,none⟩=some (.string (str l[k].ask.tag))):=hid (fun W hW=>by
     obtain ⟨gb2,off2,e3,_,q0,q1,q2,q3,q4,q5,q6,q7,q8,q9⟩:=act_at (HRD.out W hW) hlt
     injection e3 with e3
     injection e3 with e3 e4
     subst e3 e4
     rw [e1] at q7
     rw [e2] at q8
     exact ⟨q0,q1,q2,q3,q4,q5,q6,q7,q8,q9⟩)
    clear hx e1 e2
    generalize hxx:l[k]=x at *
    clear hxx
    have HSM:=hid (small_any x.ask At An ct cn)
    go_wp2_with fail
    refine (HSM.out _).mono ?_
    rintro e w6 ⟨rfl,hb6⟩
    have HR6:=hid (HR.out.below hb6)
    clear hb6 y0 y1 y2 y3 y4 y5 y6 y7 y8 y9
    obtain ⟨y0,y1,y2,y3,y4,y5,y6,y7,y8,y9⟩:=HROW.out _ HR6.out.be
    cases hsm:smallB x.ask with
    | false =>
      have HN:=hid HR6.out.next
      go_wp2
      go_roundw
      case rel=>exact ⟨k+1,last,L,_,by omega,by omega,by go_num,HN.out⟩
      case measure=>simp [intOf] <;> omega
    | true =>
      cases hex:x.ex with
      | true =>
        rw [hex] at y0
        have HN:=hid HR6.out.next
        go_wp2
        go_roundw
        case rel=>exact ⟨k+1,last,L,_,by omega,by omega,by go_num,HN.out⟩
        case measure=>simp [intOf] <;> omega
      | false =>
        rw [hex] at y0
        have HEN:Hid (x.ask.has=true->x.ask.doc.ent.length<=99999990):=hid (fun _=>by
         unfold smallB at hsm
         simp only [Bool.and_eq_true,decide_eq_true_eq] at hsm
         omega)
        have HDD:=hid HR6.out.hd
        have HLA:Hid (last<=1000000):=hid (by have:=HR6.out.la;omega)
        have HDOES:Hid (∀ W,FRel w p w.heap.size d k last L (.slice Av L.length cv) W->Calls Tryz.prog 14 #[.pointer (some ⟨p,0,none⟩),.int .i64 x.now,.agg #[.string (str x.ask.who),.string (str x.ask.mtch),.int .i64 x.ask.exp,.bool x.ask.has,.string (str x.ask.doc.ent),.slice At x.ask.doc.tups.length ct,.slice An x.ask.doc.notes.length cn,.string (str x.ask.tag)]] W fun e w'=>e=.returned (.tuple #[toldV (doR (plC 3) last L x.now x.ask).told,.int .i64 (doR (plC 3) last L x.now x.ask).err])/\FMid w p w.heap.size d k last L (.slice Av L.length cv) (doR (plC 3) last L x.now x.ask) w'):=hid (fun W hW=>(does_two hW.two hW.be.size (HX.out _ hW.be) HAS.out HEN.out HLA.out).mono (fun e w' q=>⟨q.1,hW.mid q.2.1 q.2.2.1 q.2.2.2⟩))
        obtain ⟨lq,hQ⟩:=HR6.out.two.q
        have HRDO:Hid (∀ W,FMid w p w.heap.size d k last L (.slice Av L.length cv) (doR (plC 3) last L x.now x.ask) W->Calls Tryz.prog 29 #[.agg (plA last (.slice Av L.length cv)),.int .i64 x.now,.agg #[.string (str x.ask.who),.string (str x.ask.mtch),.int .i64 x.ask.exp,.bool x.ask.has,.string (str x.ask.doc.ent),.slice At x.ask.doc.tups.length ct,.slice An x.ask.doc.notes.length cn,.string (str x.ask.tag)]] W fun e w'=>∃ v',e=.returned (.tuple #[.agg (plA (doR (plC 3) last L x.now x.ask).last v'),.agg #[.int .i64 (doR (plC 3) last L x.now x.ask).told.status,.int .i64 (doR (plC 3) last L x.now x.ask).told.exp,.string (str (doR (plC 3) last L x.now x.ask).told.tag),.bool (doR (plC 3) last L x.now x.ask).told.changed],.int .i64 (doR (plC 3) last L x.now x.ask).err])/\Two w.heap.size w' p (plC 3) (doR (plC 3) last L x.now x.ask).last (doR (plC 3) last L x.now x.ask).L (doR (plC 3) last L x.now x.ask).L v'/\Below W.heap.size W w'):=hid (fun W hW=>rdo_two hW.two hQ hW.be.size (HX.out _ hW.be) HAS.out HEN.out HLA.out)
        have HFIN:=hid (fun (w8 w9:World) (v':Value) (h1:FMid w p w.heap.size d k last L (.slice Av L.length cv) (doR (plC 3) last L x.now x.ask) w8) (h2:Two w.heap.size w9 p (plC 3) (doR (plC 3) last L x.now x.ask).last (doR (plC 3) last L x.now x.ask).L (doR (plC 3) last L x.now x.ask).L v') (h3:Below w8.heap.size w8 w9)=>HR6.out.fin h1 h2 h3 doR_last (doR_whoS HR6.out.who HAS.out.who))
        clear hQ hsm hex
        generalize doR (plC 3) last L x.now x.ask=DO at *
        go_wp2
        go_still_tail 11,(by kernel_rfl)
        go_wp2_with fail
        refine (HDOES.out _ (HR6.out.below (Below.refl _ _).drew)).mono ?_
        rintro e w8 ⟨rfl,hm8⟩
        have HM8:=hid hm8
        clear hm8 y0 y1 y2 y3 y4 y5 y6 y7 y8 y9
        have HS0:Hid (∀ W'',Below w.heap.size w W''->W''.cell? ⟨gb,off+k*10+1,none⟩=some (.int .i64 x.now)/\W''.cell? ⟨gb,off+k*10+2,none⟩=some (.string (str x.ask.who))/\W''.cell? ⟨gb,off+k*10+3,none⟩=some (.string (str x.ask.mtch))/\W''.cell? ⟨gb,off+k*10+4,none⟩=some (.int .i64 x.ask.exp)/\W''.cell? ⟨gb,off+k*10+5,none⟩=some (.bool x.ask.has)/\W''.cell? ⟨gb,off+k*10+6,none⟩=some (.string (str x.ask.doc.ent))/\W''.cell? ⟨gb,off+k*10+7,none⟩=some (.slice At x.ask.doc.tups.length ct)/\W''.cell? ⟨gb,off+k*10+8,none⟩=some (.slice An x.ask.doc.notes.length cn)/\W''.cell? ⟨gb,off+k*10+9,none⟩=some (.string (str x.ask.tag))):=hid (fun W'' hb=>(HROW.out _ hb).2)
        have HS9:Hid (∀ W'',Below w.heap.size w W''->∀ q0 q1 q2 q3 q4 q5 q6 q7 q8,(((((((((W''.setCell ⟨d,0,none⟩ q0).setCell ⟨d,1,none⟩ q1).setCell ⟨d,2,none⟩ q2).setCell ⟨d,3,none⟩ q3).setCell ⟨d,4,none⟩ q4).setCell ⟨d,5,none⟩ q5).setCell ⟨d,6,none⟩ q6).setCell ⟨d,7,none⟩ q7).setCell ⟨d,8,none⟩ q8).cell? ⟨gb,off+k*10+1,none⟩=some (.int .i64 x.now)/\(((((((((W''.setCell ⟨d,0,none⟩ q0).setCell ⟨d,1,none⟩ q1).setCell ⟨d,2,none⟩ q2).setCell ⟨d,3,none⟩ q3).setCell ⟨d,4,none⟩ q4).setCell ⟨d,5,none⟩ q5).setCell ⟨d,6,none⟩ q6).setCell ⟨d,7,none⟩ q7).setCell ⟨d,8,none⟩ q8).cell? ⟨gb,off+k*10+2,none⟩=some (.string (str x.ask.who))/\(((((((((W''.setCell ⟨d,0,none⟩ q0).setCell ⟨d,1,none⟩ q1).setCell ⟨d,2,none⟩ q2).setCell ⟨d,3,none⟩ q3).setCell ⟨d,4,none⟩ q4).setCell ⟨d,5,none⟩ q5).setCell ⟨d,6,none⟩ q6).setCell ⟨d,7,none⟩ q7).setCell ⟨d,8,none⟩ q8).cell? ⟨gb,off+k*10+3,none⟩=some (.string (str x.ask.mtch))/\(((((((((W''.setCell ⟨d,0,none⟩ q0).setCell ⟨d,1,none⟩ q1).setCell ⟨d,2,none⟩ q2).setCell ⟨d,3,none⟩ q3).setCell ⟨d,4,none⟩ q4).setCell ⟨d,5,none⟩ q5).setCell ⟨d,6,none⟩ q6).setCell ⟨d,7,none⟩ q7).setCell ⟨d,8,none⟩ q8).cell? ⟨gb,off+k*10+4,none⟩=some (.int .i64 x.ask.exp)/\(((((((((W''.setCell ⟨d,0,none⟩ q0).setCell ⟨d,1,none⟩ q1).setCell ⟨d,2,none⟩ q2).setCell ⟨d,3,none⟩ q3).setCell ⟨d,4,none⟩ q4).setCell ⟨d,5,none⟩ q5).setCell ⟨d,6,none⟩ q6).setCell ⟨d,7,none⟩ q7).setCell ⟨d,8,none⟩ q8).cell? ⟨gb,off+k*10+5,none⟩=some (.bool x.ask.has)/\(((((((((W''.setCell ⟨d,0,none⟩ q0).setCell ⟨d,1,none⟩ q1).setCell ⟨d,2,none⟩ q2).setCell ⟨d,3,none⟩ q3).setCell ⟨d,4,none⟩ q4).setCell ⟨d,5,none⟩ q5).setCell ⟨d,6,none⟩ q6).setCell ⟨d,7,none⟩ q7).setCell ⟨d,8,none⟩ q8).cell? ⟨gb,off+k*10+6,none⟩=some (.string (str x.ask.doc.ent))/\(((((((((W''.setCell ⟨d,0,none⟩ q0).setCell ⟨d,1,none⟩ q1).setCell ⟨d,2,none⟩ q2).setCell ⟨d,3,none⟩ q3).setCell ⟨d,4,none⟩ q4).setCell ⟨d,5,none⟩ q5).setCell ⟨d,6,none⟩ q6).setCell ⟨d,7,none⟩ q7).setCell ⟨d,8,none⟩ q8).cell? ⟨gb,off+k*10+7,none⟩=some (.slice At x.ask.doc.tups.length ct)/\(((((((((W''.setCell ⟨d,0,none⟩ q0).setCell ⟨d,1,none⟩ q1).setCell ⟨d,2,none⟩ q2).setCell ⟨d,3,none⟩ q3).setCell ⟨d,4,none⟩ q4).setCell ⟨d,5,none⟩ q5).setCell ⟨d,6,none⟩ q6).setCell ⟨d,7,none⟩ q7).setCell ⟨d,8,none⟩ q8).cell? ⟨gb,off+k*10+8,none⟩=some (.slice An x.ask.doc.notes.length cn)/\(((((((((W''.setCell ⟨d,0,none⟩ q0).setCell ⟨d,1,none⟩ q1).setCell ⟨d,2,none⟩ q2).setCell ⟨d,3,none⟩ q3).setCell ⟨d,4,none⟩ q4).setCell ⟨d,5,none⟩ q5).setCell ⟨d,6,none⟩ q6).setCell ⟨d,7,none⟩ q7).setCell ⟨d,8,none⟩ q8).cell? ⟨gb,off+k*10+9,none⟩=some (.string (str x.ask.tag))):=hid (fun W'' hb q0 q1 q2 q3 q4 q5 q6 q7 q8=>(HROW.out _ (hb.trans ((set9_fr W'' d q0 q1 q2 q3 q4 q5 q6 q7 q8).to_below hb.size (fun j e=>by have:=HDD.out;omega)))).2)
        obtain ⟨y1,y2,y3,y4,y5,y6,y7,y8,y9⟩:=HS0.out _ HM8.out.be
        obtain ⟨c0,c1,c2,c3,c4,c5,c6,c7,c8⟩:=plA_cells HM8.out.bd
        have HMX:=hid (HM8.out.below (Below.refl _ _).drew)
        go_wp2_with fail
        go_region_law (first|(go_simp;go_at_call 29;refine (HRDO.out _ HMX.out).mono ?_;rintro e w9 ⟨v9,rfl,ht9,hb9⟩;obtain ⟨A9,c9,rfl⟩:=ht9.slice;have HT9:=hid ht9;have HB89:=hid hb9;have HM9:=hid (HMX.out.below hb9);have HB9:=hid (thenB_ HMX.out.be hb9);have hk9:=HMX.out.bd.fr (Fr.of_below (F:=fun _=>False) hb9) (fun h=>h);obtain ⟨m0,m1,m2,m3,m4,m5,m6,m7,m8⟩:=plA_cells hk9;have n0:=hk9.frozen 0;have n1:=hk9.frozen 1;have n2:=hk9.frozen 2;have n3:=hk9.frozen 3;have n4:=hk9.frozen 4;have n5:=hk9.frozen 5;have n6:=hk9.frozen 6;have n7:=hk9.frozen 7;have n8:=hk9.frozen 8;clear ht9 hb9 hk9))
        all_goals
         have HZ:=hid (HFIN.out _ w9 _ HMX.out HT9.out HB89.out _ rfl)
         clear m0 m1 m2 m3 m4 m5 m6 m7 m8 n0 n1 n2 n3 n4 n5 n6 n7 n8
         go_wp2
         go_roundw
         case rel=>first|exact ⟨k+1,_,_,_,by omega,by omega,by go_num,HZ.out⟩|exact ⟨k+1,_,_,_,by omega,by omega,by go_num,HZ.out.below (Below.refl _ _).drew⟩
         case measure=>simp [intOf] <;> omega
   .have x2:¬(k:Int)<20:=by omega
    obtain ⟨c0,c1,c2,c3,c4,c5,c6,c7,c8⟩:=plA_cells HR.out.bd
    have g0:=HR.out.bg.cell 0
    have f0:=HR.out.bg.frozen 0
    have g1:=HR.out.bg.cell 1
    have f1:=HR.out.bg.frozen 1
    have g2:=HR.out.bg.cell 2
    have f2:=HR.out.bg.frozen 2
    have g3:=HR.out.bg.cell 3
    have f3:=HR.out.bg.frozen 3
    have g4:=HR.out.bg.cell 4
    have f4:=HR.out.bg.frozen 4
    have g5:=HR.out.bg.cell 5
    have f5:=HR.out.bg.frozen 5
    have g6:=HR.out.bg.cell 6
    have f6:=HR.out.bg.frozen 6
    have g7:=HR.out.bg.cell 7
    have f7:=HR.out.bg.frozen 7
    have g8:=HR.out.bg.cell 8
    have f8:=HR.out.bg.frozen 8
    have HP:=hid (HR.out.post hk20)
    go_wp2
    go_region
    all_goals
     obtain ⟨⟨e0,e1,e2,e3,e4,e5,e6,e7,e8⟩,_⟩:=HP.out _ (.inl rfl)
     have HPP:=hid (HP.out _ (.inr rfl)).2
     go_wp2
     exact bodyPost_ret (v:=.tuple #[.pointer (some ⟨p,0,none⟩),.agg (plA last (.slice Av L.length cv))]) (by simp [results,Tryz.results20,go_sem,e0,e1,e2,e3,e4,e5,e6,e7,e8]) rfl HPP.out
  .have x1:¬(k:Int)<l.length:=by omega
   obtain ⟨c0,c1,c2,c3,c4,c5,c6,c7,c8⟩:=plA_cells HR.out.bd
   have g0:=HR.out.bg.cell 0
   have f0:=HR.out.bg.frozen 0
   have g1:=HR.out.bg.cell 1
   have f1:=HR.out.bg.frozen 1
   have g2:=HR.out.bg.cell 2
   have f2:=HR.out.bg.frozen 2
   have g3:=HR.out.bg.cell 3
   have f3:=HR.out.bg.frozen 3
   have g4:=HR.out.bg.cell 4
   have f4:=HR.out.bg.frozen 4
   have g5:=HR.out.bg.cell 5
   have f5:=HR.out.bg.frozen 5
   have g6:=HR.out.bg.cell 6
   have f6:=HR.out.bg.frozen 6
   have g7:=HR.out.bg.cell 7
   have f7:=HR.out.bg.frozen 7
   have g8:=HR.out.bg.cell 8
   have f8:=HR.out.bg.frozen 8
   have HP:=hid (HR.out.post hk20)
   go_wp2
   go_region
   all_goals
    obtain ⟨⟨e0,e1,e2,e3,e4,e5,e6,e7,e8⟩,_⟩:=HP.out _ (.inl rfl)
    have HPP:=hid (HP.out _ (.inr rfl)).2
    go_wp2
    exact bodyPost_ret (v:=.tuple #[.pointer (some ⟨p,0,none⟩),.agg (plA last (.slice Av L.length cv))]) (by simp [results,Tryz.results20,go_sem,e0,e1,e2,e3,e4,e5,e6,e7,e8]) rfl HPP.out
theorem ActsB.on {w w':World} {v:Value} (h:ActsB w w.heap.size v) (hb:Below w.heap.size w w'):ActsB w' w'.heap.size v:=by
 obtain ⟨l,A,c,h1,h2,h3,h4,h5,h6⟩:=h
 exact ⟨l,A,c,h1,h2,h3,h4,h5.on hb,fun x hx=>⟨(h6 x hx).doc.on hb,(h6 x hx).s,(h6 x hx).lo,(h6 x hx).hi⟩⟩
end Go.Proofs.YthfmekdbcoaolaaGreatDoor
