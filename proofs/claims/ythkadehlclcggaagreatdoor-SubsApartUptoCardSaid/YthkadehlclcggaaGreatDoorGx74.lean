/- Chapter 19, the document's answer: its list, Place, lasting. Chapter 19, the document's answer: lasting. Chapter 19, the document's answer: Tag, Is. Chapter 19, the document's answer: Match. Chapter 19, the document's answer: Take. Chapter 19, the document's answer: Ints, few. Chapter 19, the document's answer: a table with one changed. -/
import Derived.Test.YthkadehlclcggaaGreatDoorGx66
import Derived.Test.YthkadehlclcggaaGreatDoorGx68
import Derived.Test.YthkadehlclcggaaGreatDoorGx54
import Derived.Test.YthkadehlclcggaaGreatDoorGx23
import Derived.Test.YthkadehlclcggaaGreatDoorGx55
import Derived.Test.YthkadehlclcggaaGreatDoorGx72
import Derived.Test.YthkadehlclcggaaGreatDoorGx02
import Derived.Test.YthkadehlclcggaaGreatDoorGx26
namespace Go.Proofs.YthkadehlclcggaaGreatDoor
set_option linter.unusedSimpArgs false
set_option linter.unusedVariables false
open Go.RowKit
open Go.Lib (hid)
def PrX (w:World) (B:Nat) (l:List Par) (v:Value):Prop:=PrB w B l v\/PrM w l v
def TxX (w:World) (B:Nat) (l:List T) (v:Value):Prop:=SlB w B 1 l.length v (rows noteC l)\/RdV w 9 1 l.length v (rows noteC l)
section
variable {w w':World} {B:Nat} {F:Nat->Prop}
theorem PrX.fr {l:List Par} {v:Value} (h:PrX w B l v) (hf:Fr F w w') (hk:KeepP F w) (hb:Below B w w'):PrX w' B l v:=h.imp (fun h=>h.below hb) (fun h=>h.fr hf hk)
theorem TxX.fr {l:List T} {v:Value} (h:TxX w B l v) (hf:Fr F w w') (hk:KeepP F w) (hb:Below B w w'):TxX w' B l v:=h.imp (fun h=>h.below hb) (fun h=>h.fr hf (fun b cs fr hb=>hk b cs _ fr hb (.inr rfl)))
theorem PrX.prB {l:List Par} {v:Value} (h:PrX w B l v) (hB:B<=w.heap.size):PrB w w.heap.size l v:=h.elim (fun h=>h.up hB) (fun h=>h.prB)
theorem TxX.slB {l:List T} {v:Value} (h:TxX w B l v) (hB:B<=w.heap.size):SlB w w.heap.size 1 l.length v (rows noteC l):=h.elim (fun h=>h.up hB) (fun h=>SlB.of_rdv h)
theorem PrX.one {l:List Par} {v:Value} (h:PrX w B l v):v.oneCell'=true:=by
 rcases h with ⟨A,c,rfl,_⟩|⟨A,c,rfl,_⟩ <;> rfl
theorem TxX.one {l:List T} {v:Value} (h:TxX w B l v):v.oneCell'=true:=by
 rcases h with ⟨A,c,rfl,_⟩|⟨A,c,rfl,_⟩ <;> rfl
end
structure DlgW (w:World) (B:Nat) (d:Dlg) (v:SlV):Prop where
 lp:PrX w B d.loc.uri.params v.lp
 lh:PrX w B d.loc.uri.headers v.lh
 la:PrX w B d.loc.params v.la
 rp:PrX w B d.rem.uri.params v.rp
 rh:PrX w B d.rem.uri.headers v.rh
 ra:PrX w B d.rem.params v.ra
 tp:PrX w B d.tgt.params v.tp
 th:PrX w B d.tgt.headers v.th
 ro:TxX w B d.routes v.ro
structure SubW (w:World) (B:Nat) (s:SubP) (v:SlV):Prop where
 ev:PrX w B s.ev.params v.ev
 d:DlgW w B s.dlg v
section
variable {w w':World} {B:Nat} {F:Nat->Prop}
theorem DlgW.fr {d:Dlg} {v:SlV} (h:DlgW w B d v) (hf:Fr F w w') (hk:KeepP F w) (hb:Below B w w'):DlgW w' B d v:=⟨h.lp.fr hf hk hb,h.lh.fr hf hk hb,h.la.fr hf hk hb,h.rp.fr hf hk hb,h.rh.fr hf hk hb,h.ra.fr hf hk hb,h.tp.fr hf hk hb,h.th.fr hf hk hb,h.ro.fr hf hk hb⟩
theorem SubW.fr {s:SubP} {v:SlV} (h:SubW w B s v) (hf:Fr F w w') (hk:KeepP F w) (hb:Below B w w'):SubW w' B s v:=⟨h.ev.fr hf hk hb,h.d.fr hf hk hb⟩
theorem DlgW.below {d:Dlg} {v:SlV} (h:DlgW w B d v) (hb:Below w.heap.size w w') (hB:B<=w.heap.size):DlgW w' B d v:=h.fr (Fr.of_below (F:=fun _=>False) hb) (KeepP.none w) (hb.mono hB)
theorem SubW.below {s:SubP} {v:SlV} (h:SubW w B s v) (hb:Below w.heap.size w w') (hB:B<=w.heap.size):SubW w' B s v:=h.fr (Fr.of_below (F:=fun _=>False) hb) (KeepP.none w) (hb.mono hB)
theorem DlgW.one {d:Dlg} {v:SlV} (h:DlgW w B d v):v.Ok:=⟨h.lp.one,h.lh.one,h.la.one,h.rp.one,h.rh.one,h.ra.one,h.tp.one,h.th.one,h.ro.one⟩
end
def RfL (w:World) (N:Nat->Prop) (B:Nat) (L:List SubP) (v:Value):Prop :=
 ∃ (xs:List SX) (A:Option Addr) (c:Nat),xs.map (·.s)=L/\v=.slice A xs.length c/\xs.length<=c/\c<=maxLen/\Rd w 39 34 xs.length A (rows subC xs)/\(0<xs.length->∀ a,A=some a->N a.block)/\∀ x∈xs,SubW w B x.s x.v
theorem RfL.nil (w:World) (N:Nat->Prop) (B:Nat):RfL w N B [] (.slice none 0 0):=⟨[],none,0,rfl,rfl,Nat.le_refl _,by unfold maxLen;omega,Rd.nil _ _ _ _,fun h=>absurd h (by simp),by simp⟩
theorem RfL.mono {w:World} {N N':Nat->Prop} {B:Nat} {L:List SubP} {v:Value} (h:RfL w N B L v) (hN:∀ k,k<w.heap.size->N k->N' k):RfL w N' B L v:=by
 obtain ⟨xs,A,c,h1,h2,h3,h4,h5,h6,h7⟩:=h
 refine ⟨xs,A,c,h1,h2,h3,h4,h5,fun hn a ha=>hN _ ?_ (h6 hn a ha),h7⟩
 obtain ⟨gb,off,e,hlt,_⟩:=h5.at_ hn
 rw [ha] at e
 injection e with e
 rw [e]
 exact hlt
theorem RfL.fr {w w':World} {N F:Nat->Prop} {B:Nat} {L:List SubP} {v:Value} (h:RfL w N B L v) (hf:Fr F w w') (hN:∀ k,N k->¬F k) (hm:∀ s v,SubW w B s v->SubW w' B s v):RfL w' N B L v:=by
 obtain ⟨xs,A,c,h1,h2,h3,h4,h5,h6,h7⟩:=h
 refine ⟨xs,A,c,h1,h2,h3,h4,⟨h5.1,fun hn=>?_⟩,h6,fun x hx=>hm _ _ (h7 x hx)⟩
 obtain ⟨gb,off,cs,fr,e,hb,hc⟩:=h5.2 hn
 have hlt:gb<w.heap.size:=(Array.getElem?_eq_some_iff.1 hb).1
 exact ⟨gb,off,cs,fr,e,(hf.block gb hlt (hN _ (h6 hn _ e))).trans hb,hc⟩
theorem RfL.below {w w':World} {N:Nat->Prop} {B:Nat} {L:List SubP} {v:Value} (h:RfL w N B L v) (hb:Below w.heap.size w w') (hB:B<=w.heap.size):RfL w' N B L v :=
 h.fr (Fr.of_below (F:=fun _=>False) hb) (fun _ _ h=>h) (fun _ _ m=>m.below hb hB)
abbrev rtV (c:Conf) (last:Int) (v:Value):Array Value:=#[.string (str c.host),.int .i64 c.calls,.int .i64 c.pubs,.int .i64 c.subs,.int .i64 c.least,.int .i64 c.most,.int .i64 c.usual,.int .i64 last,v]
def plcS (L:List SubP) (n:Int):Int:=match L.findIdx? (fun s=>decide (s.number=n)) with|some i=>i|none=>-1
theorem plcS_at {L:List SubP} {n:Int} {j:Nat} (hj:j<L.length) (hno:∀ p∈L.take j,p.number≠n) (h:L[j].number=n):plcS L n=j:=by
 have:L.findIdx? (fun s=>decide (s.number=n))=some j:=by
  rw [List.findIdx?_eq_some_iff_getElem]
  refine ⟨hj,by simpa using h,fun i hi=>?_⟩
  have h9:=hno (L[i]'(by omega)) (List.mem_take_iff_getElem.2 ⟨i,by omega,rfl⟩)
  simpa using h9
 unfold plcS
 rw [this]
theorem plcS_no {L:List SubP} {n:Int} (hno:∀ p∈L,p.number≠n):plcS L n=-1:=by
 have:L.findIdx? (fun s=>decide (s.number=n))=none:=by
  rw [List.findIdx?_eq_none_iff]
  intro x hx
  simpa using hno x hx
 unfold plcS
 rw [this]
theorem plcS_ways (L:List SubP) (n:Int):(plcS L n=-1/\L.find? (fun s=>decide (s.number=n))=none)\/∃ j,∃ h:j<L.length,plcS L n=j/\L.find? (fun s=>decide (s.number=n))=some L[j]/\L[j].number=n:=by
 cases e:L.findIdx? (fun s=>decide (s.number=n)) with
 | none =>
   refine .inl ⟨by unfold plcS;rw [e],?_⟩
   rw [List.findIdx?_eq_none_iff] at e
   rw [List.find?_eq_none]
   intro x hx
   simpa using e x hx
 | some j =>
   refine .inr ⟨j,?_⟩
   have e9:=e
   rw [List.findIdx?_eq_some_iff_getElem] at e
   obtain ⟨hj,h1,h2⟩:=e
   refine ⟨hj,by unfold plcS;rw [e9],?_,by simpa using h1⟩
   rw [List.find?_eq_some_iff_getElem]
   exact ⟨h1,j,hj,rfl,fun i hi=>by simpa using h2 i hi⟩
theorem sb_row {w:World} {A:Option Addr} {l:List SX} (h:Rd w 39 34 l.length A (rows subC l)) {i:Nat} (hi:i<l.length) :
 ∃ gb off,A=some ⟨gb,off,none⟩/\gb<w.heap.size/\∀ j,j<34->w.cell? ⟨gb,off+i*34+j,none⟩=(subC l[i])[j]?:=rd_row subC_len h hi
theorem sb_range {w:World} {gb off i:Nat} {x:SX} (h:∀ j,j<34->w.cell? ⟨gb,off+i*34+j,none⟩=(subC x)[j]?):w.rangeAt gb (off+i*34) (subC x):=fun j v hj=>by
 rw [h j (by have:=(List.getElem?_eq_some_iff.1 hj).1;rw [subC_len] at this;exact this)]
 exact hj
def PlsPost (L:List SubP) (n:Int) (w:World) (e:Ending) (w':World):Prop:=e=.returned (.int .i64 (plcS L n))/\Below w.heap.size w w'
set_option maxRecDepth 100000 in
theorem rplace_any {w:World} {N:Nat->Prop} {B:Nat} {L:List SubP} {v:Value} {c:Conf} {last n:Int} (H:RfL w N B L v) (hl:L.length<=2000000):Calls Tryz.prog 31 #[.agg (rtV c last v),.int .i64 n] w (PlsPost L n w):=by
 obtain ⟨xs,A,cp,rfl,rfl,hcp,hmx,hrd,_,_⟩:=H
 rw [List.length_map] at hl
 clear hmx
 obtain ⟨w0,hw0⟩:∃ w0,w.alloc (.cells (rtV c last (.slice A xs.length cp)) 71)=w0:=⟨_,rfl⟩
 have hb0:Below w.heap.size w w0:=hw0▸(Below.refl _ _).alloc (Nat.le_refl _) _
 have hk:Blk w0 w.heap.size 71 (rtV c last (.slice A xs.length cp)):=hw0▸Blk.new w _ _
 have HP:Hid (∀ m:Int,plcS (xs.map (·.s)) n=m->PlsPost (xs.map (·.s)) n w (.returned (.int .i64 m)) w0):=hid (fun m h=>⟨by rw [h],hb0⟩)
 have HR:=hid (hrd.below hb0)
 have c8:=hk.cell 8
 clear hb0 hk hrd
 go_enter Tryz.func31,Tryz.ntmps31
 go_wp2
 try rw [hw0]
 clear hw0
 go_loop [5] (fun i=>∃ j:Nat,j<=xs.length/\i=.int .i64 j/\∀ p∈(xs.map (·.s)).take j,p.number≠n) (fun i=>xs.length-(intOf i).toNat)
 case atStart=>exact ⟨0,by omega,rfl,by simp⟩
 case round =>
  obtain ⟨j,hj,rfl,hno⟩:=hrel
  have HNO:=hid hno
  clear hno
  by_cases hlt:j<xs.length
  .have x0:(0:Int)<=j:=by omega
   have x1:(j:Int)<xs.length:=by omega
   obtain ⟨gb,off,rfl,_,hc⟩:=sb_row HR.out hlt
   have y0:w0.cell? ⟨gb,off+j*34,none⟩=some (.int .i64 xs[j].s.number):=hc 0 (by omega)
   clear hc
   by_cases ht:xs[j].s.number=n
   .have HT:=hid (HP.out j (plcS_at (by simpa using hlt) HNO.out (by simpa using ht)))
    have q1:(xs[j].s.number == n)=true:=by simpa using ht
    clear ht
    go_wp2
    go_ret
    exact HT.out
   .have q1:(xs[j].s.number == n)=false:=by simpa using ht
    have HN2:Hid (∀ p∈(xs.map (·.s)).take (j+1),p.number≠n):=hid (by
     intro p hp
     rw [List.take_succ_eq_append_getElem (by simpa using hlt),List.mem_append] at hp
     rcases hp with hp|hp
     .exact HNO.out p hp
     .rw [List.mem_singleton] at hp
      rw [hp]
      simpa using ht)
    clear ht
    go_wp2
    go_round
    case rel=>exact ⟨j+1,by omega,by go_num,HN2.out⟩
    case measure=>simp [intOf] <;> omega
  .have x1:¬(j:Int)<xs.length:=by omega
   have HT:=hid (HP.out (-1) (plcS_no (by
    have:=HNO.out
    rwa [List.take_of_length_le (by simp;omega)] at this)))
   go_wp2
   go_ret
   exact HT.out
def LtnPost (s:SubP) (v:SlV) (now n:Int) (w:World) (e:Ending) (w':World):Prop:=e=.returned (.agg (subA (lastsS s now n) v))/\Below w.heap.size w w'
set_option maxRecDepth 100000 in
set_option maxHeartbeats 4000000 in
theorem rlasting_any {s:SubP} {v:SlV} {now n:Int} (w:World) (h1:v.ev.oneCell'=true) (h2:v.Ok) (m0:0<=now) (m1:now<=549755813888) (n0:0<=n) (n1:n<=2147483647):Calls Tryz.prog 95 #[.agg (subA s v),.int .i64 now,.int .i64 n] w (LtnPost s v now n w):=by
 obtain ⟨w0,hw0⟩:∃ w0,(w.alloc (.cells (subA s v) 39)).alloc (.cells sub0 39)=w0:=⟨_,rfl⟩
 have hb0:Below w.heap.size w w0:=hw0▸((Below.refl _ _).alloc (Nat.le_refl _) _).alloc (by simp) _
 have hka:Blk w0 w.heap.size 39 (subA s v):=hw0▸(Blk.new w _ _).alloc _
 have hkb:Blk w0 (w.heap.size+1) 39 sub0:=hw0▸Blk.new' _ _ _ (by simp)
 have HB0:=hid hb0
 have HO:Hid (∀ s',(subA s' v).all (·.oneCell')=true):=hid (fun s'=>subA_one h1 h2)
 obtain ⟨w2,hw2⟩:∃ w2,w0.setCell ⟨w.heap.size,7,none⟩ (.int .i64 (now+10*n))=w2:=⟨_,rfl⟩
 have hf:Fr (fun k=>k=w.heap.size) w0 w2:=hw2▸(Fr.refl (fun k=>k=w.heap.size) w0).set (p:=⟨w.heap.size,7,none⟩) (fun _=>rfl) _
 have HD:Hid (Blk w2 w.heap.size 39 (subA { s with until_:=now+10*n } v)):=hid (hw2▸blk_setCells [.int .i64 (now+10*n)] (off:=7) hka (show 8<=34 by omega))
 have HR2:=hid (hkb.fr hf (by omega))
 have HB2:=hid (below_upfr hb0 (Nat.le_refl _) hf (fun k e=>by omega))
 have c7:=hka.cell 7
 have f7:=hka.frozen 7
 clear hb0 hka hkb h1 h2 hf
 unfold sub0 at hw0
 go_enter Tryz.func95,Tryz.ntmps95
 go_upto_region 2 with (fail)
 try rw [hw0]
 try rw [hw2]
 clear hw2 hw0 c7 f7
 by_cases hn:n=0
 .subst hn
  obtain ⟨w3,hw3⟩:∃ w3,(w2.setCell ⟨w.heap.size,5,none⟩ (.int .i64 2)).setCell ⟨w.heap.size,6,none⟩ (.string ⟨#[116,105,109,101,111,117,116]⟩)=w3:=⟨_,rfl⟩
  have hf:Fr (fun k=>k=w.heap.size) w2 w3:=hw3▸((Fr.refl (fun k=>k=w.heap.size) w2).set (p:=⟨w.heap.size,5,none⟩) (fun _=>rfl) _).set (p:=⟨w.heap.size,6,none⟩) (fun _=>rfl) _
  have HD3:Hid (Blk w3 w.heap.size 39 (subA { s with until_:=now+10*0,state:=2,reason:=timeoutN } v)):=hid (hw3▸blk_setCells [.int .i64 2,.string ⟨#[116,105,109,101,111,117,116]⟩] (off:=5) HD.out (show 7<=34 by omega))
  have HR3:=hid (HR2.out.fr hf (by omega))
  have HB3:=hid (below_upfr HB2.out (Nat.le_refl _) hf (fun k e=>by omega))
  have c5:=HD.out.cell 5
  have f5:=HD.out.frozen 5
  have c6:=HD.out.cell 6
  have f6:=HD.out.frozen 6
  clear hf
  go_upto_region 4 with (fail)
  try rw [hw3]
  clear hw3 c5 f5 c6 f6
  go_wp2_with (first|(refine wpl_load rfl 39 (.tmp 3) rfl w.heap.size 0 rfl HD3.out (subA { s with until_:=now+10*0,state:=2,reason:=timeoutN } v).toList rfl _ Tryz.underlying39 rfl (by kernel_rfl) ?_)|(refine wpl_store rfl 39 (.tmp 6) (.tmp 16) rfl (w.heap.size+1) 0 rfl (subA { s with until_:=now+10*0,state:=2,reason:=timeoutN } v) rfl HR3.out (Nat.le_refl 34) (subA { s with until_:=now+10*0,state:=2,reason:=timeoutN } v) rfl (by kernel_rfl) (HO.out _) ?_;intro wz hkz hfz))
  refine ret_cell rfl rfl rfl hkz _ Tryz.underlying39 rfl (by kernel_rfl) ⟨?_,below_upfr HB3.out (Nat.le_refl _) hfz (fun k e=>by omega)⟩
  unfold lastsS
  rw [if_pos rfl,Int.mul_zero,Int.add_zero]
  rfl
 .have q1:(n == 0)=false:=by simpa using hn
  have HN:=hid hn
  clear hn
  go_wp2_with (first|(refine wpl_load rfl 39 (.tmp 3) rfl w.heap.size 0 rfl HD.out (subA { s with until_:=now+10*n } v).toList rfl _ Tryz.underlying39 rfl (by kernel_rfl) ?_)|(refine wpl_store rfl 39 (.tmp 6) (.tmp 16) rfl (w.heap.size+1) 0 rfl (subA { s with until_:=now+10*n } v) rfl HR2.out (Nat.le_refl 34) (subA { s with until_:=now+10*n } v) rfl (by kernel_rfl) (HO.out _) ?_;intro wz hkz hfz))
  refine ret_cell rfl rfl rfl hkz _ Tryz.underlying39 rfl (by kernel_rfl) ⟨?_,below_upfr HB2.out (Nat.le_refl _) hfz (fun k e=>by omega)⟩
  unfold lastsS
  rw [if_neg HN.out]
theorem rval_any {l:List Par} {n:T} {v:Value} {B:Nat} {w:World} (hB:B<=w.heap.size) (h:PrB w B l v) (hs:∀ p∈l,parS p) (hn:n.length<=140737488351232) :
 Calls Tryz.prog 58 #[v,.string (str n)] w fun e w'=>e=.returned (.tuple #[.string (str (valP l n).1),.bool (valP l n).2])/\Below w.heap.size w w':=by
 obtain ⟨A,c,rfl,hl,hc,hr⟩:=h
 have:=rValue_any (c:=c) hB hr (Nat.le_trans hl hc) hs hn
 rw [valueV_is] at this
 exact this
set_option maxHeartbeats 2000000 in
theorem rtag_any {a:AddrP} {vp vh va:Value} {B:Nat} {w:World} (hB:B<=w.heap.size) (h:PrB w B a.params va) (hs:∀ p∈a.params,parS p) :
 Calls Tryz.prog 24 #[.agg (addrA a vp vh va)] w (TagPost a w):=by
 obtain ⟨w0,hw0⟩:∃ w0,w.alloc (.cells (addrA a vp vh va) 34)=w0:=⟨_,rfl⟩
 have hb0:Below w.heap.size w w0:=hw0▸(Below.refl _ _).alloc (Nat.le_refl _) _
 have hk0:Blk w0 w.heap.size 34 (addrA a vp vh va):=hw0▸Blk.new w _ _
 have HV:Hid (Calls Tryz.prog 58 #[va,.string ⟨#[116,97,103]⟩] w0 _):=hid (rval_any (n:=tagN) (Nat.le_trans hB hb0.size) (h.below (hb0.mono hB)) hs (by show 3<=_;omega))
 have HB0:=hid hb0
 have c7:w0.cell? ⟨w.heap.size,7,none⟩=some va:=hk0.cell 7
 unfold TagPost tagA
 generalize (valP a.params tagN).1=T1 at *
 generalize (valP a.params tagN).2=T2 at *
 clear hb0 hk0 h hs hB
 go_enter Tryz.func24,Tryz.ntmps24
 go_upto_region 1 with (fail)
 try rw [hw0]
 clear hw0
 generalize Value.agg (addrA a vp vh va)=q0
 go_wp2_with fail
 refine (HV.out).mono ?_
 rintro e w1 ⟨rfl,hb1⟩
 have HB1:=hid (HB0.out.trans (hb1.mono HB0.out.size))
 clear hb1 c7
 go_wp2
 go_ret
 exact ⟨rfl,HB1.out⟩
set_option maxHeartbeats 4000000 in
theorem rIs_any {a b:EvP} {va vb:Value} {B:Nat} {w:World} (hB:B<=w.heap.size) (ha:PrB w B a.params va) (hb:PrB w B b.params vb) (sa:∀ p∈a.params,parS p) (sb:∀ p∈b.params,parS p) :
 Calls Tryz.prog 97 #[.agg #[.string (str a.name),va],.agg #[.string (str b.name),vb]] w (IsPost a b w):=by
 obtain ⟨w0,hw0⟩:∃ w0,(w.alloc (.cells #[.string (str a.name),va] 30)).alloc (.cells #[.string (str b.name),vb] 30)=w0:=⟨_,rfl⟩
 have hb0:Below w.heap.size w w0:=hw0▸((Below.refl _ _).alloc (Nat.le_refl _) _).alloc (by simp) _
 have hka:Blk w0 w.heap.size 30 #[.string (str a.name),va]:=hw0▸(Blk.new w _ _).alloc _
 have hkb:Blk w0 (w.heap.size+1) 30 #[.string (str b.name),vb]:=hw0▸Blk.new' _ _ _ (by simp)
 have HA:Hid (∀ W,Below w0.heap.size w0 W->Calls Tryz.prog 58 #[va,.string ⟨#[105,100]⟩] W _):=hid (fun W hW=>rval_any (n:=idN) (Nat.le_trans hB (Nat.le_trans hb0.size hW.size)) (ha.below ((hb0.mono hB).trans (hW.mono (Nat.le_trans hB hb0.size)))) sa (by show 2<=_;omega))
 have HBV:Hid (∀ W,Below w0.heap.size w0 W->Calls Tryz.prog 58 #[vb,.string ⟨#[105,100]⟩] W _):=hid (fun W hW=>rval_any (n:=idN) (Nat.le_trans hB (Nat.le_trans hb0.size hW.size)) (hb.below ((hb0.mono hB).trans (hW.mono (Nat.le_trans hB hb0.size)))) sb (by show 2<=_;omega))
 have HKA:Hid (∀ W,Below w0.heap.size w0 W->W.cell? ⟨w.heap.size,0,none⟩=some (.string (str a.name))/\W.cell? ⟨w.heap.size,1,none⟩=some va/\W.cell? ⟨w.heap.size+1,0,none⟩=some (.string (str b.name))/\W.cell? ⟨w.heap.size+1,1,none⟩=some vb):=hid (fun W hW=>by
  have k1:=hka.fr (Fr.of_below (F:=fun _=>False) hW) (fun h=>h)
  have k2:=hkb.fr (Fr.of_below (F:=fun _=>False) hW) (fun h=>h)
  exact ⟨k1.cell 0,k1.cell 1,k2.cell 0,k2.cell 1⟩)
 have HB0:=hid hb0
 have HW:=hid (is_ways a b)
 obtain ⟨c0,c1,d0,d1⟩:=HKA.out _ (Below.refl _ _)
 unfold IsPost
 generalize evIs a b=R at *
 generalize (valP a.params idN).2=f1 at *
 generalize (valP b.params idN).2=f2 at *
 generalize (valP a.params idN).1=x1 at *
 generalize (valP b.params idN).1=x2 at *
 clear hb0 hka hkb ha hb sa sb hB
 go_enter Tryz.func97,Tryz.ntmps97
 go_upto_region 1 with (fail)
 try rw [hw0]
 clear hw0
 go_wp2_with fail
 refine (HA.out _ (Below.refl _ _)).mono ?_
 rintro e w1 ⟨rfl,hb1⟩
 have HB1:=hid hb1
 clear hb1 c0 c1 d0 d1
 obtain ⟨c0,c1,d0,d1⟩:=HKA.out _ HB1.out
 go_wp2_with fail
 refine (HBV.out _ HB1.out).mono ?_
 rintro e w2 ⟨rfl,hb2⟩
 have HB2:=hid (thenB_ HB1.out hb2)
 clear hb2 c0 c1 d0 d1
 obtain ⟨c0,c1,d0,d1⟩:=HKA.out _ HB2.out
 have HBB:=hid (HB0.out.trans (HB2.out.mono HB0.out.size))
 rcases HW.out with ⟨h1,hR⟩|⟨h1,h2,hR⟩|⟨h1,h2,h3,hR⟩|⟨h1,h2,h3,hR⟩
 .have t1:=beq_no (s:=str a.name) (t:=str b.name) (fun q=>h1 (str_inj q))
  have HR:=hid hR
  clear h1 hR
  go_wp2
  go_ret
  exact ⟨ret_bool HR.out.symm,HBB.out⟩
 .have t1:=beq_yes (s:=str a.name) (t:=str b.name) (by rw [h1])
  have t2:(f1 == f2)=false:=by simpa using h2
  have HR:=hid hR
  clear h1 h2 hR
  go_wp2
  go_ret
  exact ⟨ret_bool HR.out.symm,HBB.out⟩
 .have t1:=beq_yes (s:=str a.name) (t:=str b.name) (by rw [h1])
  have t3:=beq_no (s:=str x1) (t:=str x2) (fun q=>h3 (str_inj q))
  have HR:=hid hR
  subst h2
  clear h1 h3 hR
  go_wp2
  go_ret
  exact ⟨ret_bool HR.out.symm,HBB.out⟩
 .have t1:=beq_yes (s:=str a.name) (t:=str b.name) (by rw [h1])
  have t3:=beq_yes (s:=str x1) (t:=str x2) (by rw [h3])
  have HR:=hid hR
  subst h2
  clear h1 h3 hR
  go_wp2
  go_ret
  exact ⟨ret_bool HR.out.symm,HBB.out⟩
set_option maxRecDepth 100000 in
set_option maxHeartbeats 16000000 in
theorem rMatch_any {d:Dlg} {v:SlV} {r:ReqP} {q:RqV} {B:Nat} {w:World} (hB:B<=w.heap.size) (h1:PrB w B d.loc.params v.la) (h2:PrB w B d.rem.params v.ra) (s1:∀ p∈d.loc.params,parS p) (s2:∀ p∈d.rem.params,parS p) :
 Calls Tryz.prog 60 #[.agg (dlgA d v),.agg (reqA r q)] w (MatPost d r w):=by
 obtain ⟨w0,hw0⟩:∃ w0,(w.alloc (.cells (dlgA d v) 37)).alloc (.cells (reqA r q) 45)=w0:=⟨_,rfl⟩
 have hb0:Below w.heap.size w w0:=hw0▸((Below.refl _ _).alloc (Nat.le_refl _) _).alloc (by simp) _
 have hka:Blk w0 w.heap.size 37 (dlgA d v):=hw0▸(Blk.new w _ _).alloc _
 have hkb:Blk w0 (w.heap.size+1) 45 (reqA r q):=hw0▸Blk.new' _ _ _ (by simp)
 have HBO:Hid (∀ W,Below w0.heap.size w0 W->PrB W B d.loc.params v.la/\PrB W B d.rem.params v.ra/\B<=W.heap.size):=hid (fun W hW=>⟨h1.below ((hb0.mono hB).trans (hW.mono (Nat.le_trans hB hb0.size))),h2.below ((hb0.mono hB).trans (hW.mono (Nat.le_trans hB hb0.size))),Nat.le_trans hB (Nat.le_trans hb0.size hW.size)⟩)
 have HL:Hid (∀ W,Below w0.heap.size w0 W->Calls Tryz.prog 24 #[.agg #[.string (str d.loc.display),.string (str d.loc.uri.scheme),.string (str d.loc.uri.user),.string (str d.loc.uri.host),.int .i64 d.loc.uri.port,v.lp,v.lh,v.la]] W fun e w'=>e=.returned (.string (str (tagA d.loc)))/\Below W.heap.size W w'):=hid (fun W hW=>rtag_any (HBO.out W hW).2.2 (HBO.out W hW).1 s1)
 have HR:Hid (∀ W,Below w0.heap.size w0 W->Calls Tryz.prog 24 #[.agg #[.string (str d.rem.display),.string (str d.rem.uri.scheme),.string (str d.rem.uri.user),.string (str d.rem.uri.host),.int .i64 d.rem.uri.port,v.rp,v.rh,v.ra]] W fun e w'=>e=.returned (.string (str (tagA d.rem)))/\Below W.heap.size W w'):=hid (fun W hW=>rtag_any (HBO.out W hW).2.2 (HBO.out W hW).2.1 s2)
 have HS:Hid (∀ W,Below w0.heap.size w0 W->W.cell? ⟨w.heap.size,0,none⟩=some (.string (str d.callid))/\W.cell? ⟨w.heap.size,1,none⟩=some (.string (str d.loc.display))/\W.cell? ⟨w.heap.size,2,none⟩=some (.string (str d.loc.uri.scheme))/\W.cell? ⟨w.heap.size,3,none⟩=some (.string (str d.loc.uri.user))/\W.cell? ⟨w.heap.size,4,none⟩=some (.string (str d.loc.uri.host))/\W.cell? ⟨w.heap.size,5,none⟩=some (.int .i64 d.loc.uri.port)/\W.cell? ⟨w.heap.size,6,none⟩=some (v.lp)/\W.cell? ⟨w.heap.size,7,none⟩=some (v.lh)/\W.cell? ⟨w.heap.size,8,none⟩=some (v.la)/\W.cell? ⟨w.heap.size,9,none⟩=some (.string (str d.rem.display))/\W.cell? ⟨w.heap.size,10,none⟩=some (.string (str d.rem.uri.scheme))/\W.cell? ⟨w.heap.size,11,none⟩=some (.string (str d.rem.uri.user))/\W.cell? ⟨w.heap.size,12,none⟩=some (.string (str d.rem.uri.host))/\W.cell? ⟨w.heap.size,13,none⟩=some (.int .i64 d.rem.uri.port)/\W.cell? ⟨w.heap.size,14,none⟩=some (v.rp)/\W.cell? ⟨w.heap.size,15,none⟩=some (v.rh)/\W.cell? ⟨w.heap.size,16,none⟩=some (v.ra)/\W.cell? ⟨w.heap.size+1,25,none⟩=some (.string (str r.ftag))/\W.cell? ⟨w.heap.size+1,26,none⟩=some (.string (str r.ttag))/\W.cell? ⟨w.heap.size+1,27,none⟩=some (.string (str r.callid))):=hid (fun W hW=>by
  have k1:=hka.fr (Fr.of_below (F:=fun _=>False) hW) (fun h=>h)
  have k2:=hkb.fr (Fr.of_below (F:=fun _=>False) hW) (fun h=>h)
  exact ⟨k1.cell 0,k1.cell 1,k1.cell 2,k1.cell 3,k1.cell 4,k1.cell 5,k1.cell 6,k1.cell 7,k1.cell 8,k1.cell 9,k1.cell 10,k1.cell 11,k1.cell 12,k1.cell 13,k1.cell 14,k1.cell 15,k1.cell 16,k2.cell 25,k2.cell 26,k2.cell 27⟩)
 have HB0:=hid hb0
 have HX0:Hid (Below w0.heap.size w0 w0.drew):=hid (Below.refl _ _).drew
 have HW:=hid (mat_ways d r)
 unfold MatPost
 generalize matchB d r=R at *
 clear hb0 hka hkb hB h1 h2 s1 s2 HBO
 go_enter Tryz.func60,Tryz.ntmps60
 go_upto_region 1 with (fail)
 try rw [hw0]
 clear hw0
 generalize Value.agg (dlgA d v)=q0
 generalize Value.agg (reqA r q)=q1
 rcases HW.out with ⟨h1,hR⟩|⟨h1,h2,hR⟩|⟨h1,h2,h3,hR⟩|⟨h1,h2,h3,hR⟩
 .have t1:=beq_no (s:=str r.callid) (t:=str d.callid) (fun q=>h1 (str_inj q))
  have HE:=hid hR
  clear h1 hR
  refine wp_region_noPanic (rgn HS.out HX0.out fun hHeld=>?_)
  refine tk 0 ?_
  refine tk 1 ?_
  refine tk 2 ?_
  refine tk 3 ?_
  refine tk 4 ?_
  refine tk 5 ?_
  refine tkv 6 undef (Or.inr ⟨?_,rfl⟩) ?_
  .rfl
  refine tkv 7 undef (Or.inr ⟨?_,rfl⟩) ?_
  .rfl
  refine tkv 8 undef (Or.inr ⟨?_,rfl⟩) ?_
  .rfl
  refine tkv 9 undef (Or.inr ⟨?_,rfl⟩) ?_
  .rfl
  refine tkv 10 undef (Or.inr ⟨?_,rfl⟩) ?_
  .rfl
  refine tkv 11 undef (Or.inr ⟨?_,rfl⟩) ?_
  .rfl
  refine tk 12 ?_
  refine tk 13 ?_
  refine tkv 14 undef (Or.inr ⟨?_,rfl⟩) ?_
  .rfl
  refine tkv 15 undef (Or.inr ⟨?_,rfl⟩) ?_
  .rfl
  refine tkv 16 undef (Or.inr ⟨?_,rfl⟩) ?_
  .rfl
  refine tkv 17 undef (Or.inr ⟨?_,rfl⟩) ?_
  .rfl
  refine tkv 18 undef (Or.inr ⟨?_,rfl⟩) ?_
  .rfl
  refine tkv 19 undef (Or.inr ⟨?_,rfl⟩) ?_
  .rfl
  refine tk 20 ?_
  refine tk 21 ?_
  refine dn9 (NoPanic.normal ?_)
  go_wp2
  go_ret
  exact ⟨ret_bool HE.out.symm,HB0.out.drew⟩
 .have t1:=beq_yes (s:=str r.callid) (t:=str d.callid) (by rw [h1])
  have t2:=beq_no (s:=str r.ttag) (t:=str (tagA d.loc)) (fun q=>h2 (str_inj q))
  have HE:=hid hR
  clear h1 h2 hR
  refine wp_region_noPanic (rgn HS.out HX0.out fun hHeld=>?_)
  refine tk 0 ?_
  refine tk 1 ?_
  refine tk 2 ?_
  refine tk 3 ?_
  refine tk 4 ?_
  refine tk 5 ?_
  refine tk 6 ?_
  refine tk 7 ?_
  refine tk 8 ?_
  refine tk 9 ?_
  refine rd1 10 fun K hK=>?_
  go_simp
  refine (HL.out _ HX0.out).mono ?_
  rintro e w3 ⟨rfl,hb1⟩
  have HX3:Hid (Below w0.heap.size w0 w3):=hid (thenB_ HX0.out hb1)
  clear hb1
  go_wp2_with fail
  refine bk hK (HS.out _ HX3.out) fun hHeld=>?_
  clear hK K
  refine tk 11 ?_
  refine tk 12 ?_
  refine tk 13 ?_
  refine tkv 14 undef (Or.inr ⟨?_,rfl⟩) ?_
  .rfl
  refine tkv 15 undef (Or.inr ⟨?_,rfl⟩) ?_
  .rfl
  refine tkv 16 undef (Or.inr ⟨?_,rfl⟩) ?_
  .rfl
  refine tkv 17 undef (Or.inr ⟨?_,rfl⟩) ?_
  .rfl
  refine tkv 18 undef (Or.inr ⟨?_,rfl⟩) ?_
  .rfl
  refine tkv 19 undef (Or.inr ⟨?_,rfl⟩) ?_
  .rfl
  refine tk 20 ?_
  refine tk 21 ?_
  refine dn9 (NoPanic.normal ?_)
  go_wp2
  go_ret
  exact ⟨ret_bool HE.out.symm,HB0.out.trans (HX3.out.mono HB0.out.size)⟩
 .have t1:=beq_yes (s:=str r.callid) (t:=str d.callid) (by rw [h1])
  have t2:=beq_yes (s:=str r.ttag) (t:=str (tagA d.loc)) (by rw [h2])
  have t3:=beq_no (s:=str r.ftag) (t:=str (tagA d.rem)) (fun q=>h3 (str_inj q))
  have HE:=hid hR
  clear h1 h2 h3 hR
  refine wp_region_noPanic (rgn HS.out HX0.out fun hHeld=>?_)
  refine tk 0 ?_
  refine tk 1 ?_
  refine tk 2 ?_
  refine tk 3 ?_
  refine tk 4 ?_
  refine tk 5 ?_
  refine tk 6 ?_
  refine tk 7 ?_
  refine tk 8 ?_
  refine tk 9 ?_
  refine rd1 10 fun K hK=>?_
  go_simp
  refine (HL.out _ HX0.out).mono ?_
  rintro e w3 ⟨rfl,hb1⟩
  have HX3:Hid (Below w0.heap.size w0 w3):=hid (thenB_ HX0.out hb1)
  clear hb1
  go_wp2_with fail
  refine bk hK (HS.out _ HX3.out) fun hHeld=>?_
  clear hK K
  refine tk 11 ?_
  refine tk 12 ?_
  refine tk 13 ?_
  refine tk 14 ?_
  refine tk 15 ?_
  refine tk 16 ?_
  refine tk 17 ?_
  refine rd1 18 fun K hK=>?_
  go_simp
  refine (HR.out _ HX3.out).mono ?_
  rintro e w4 ⟨rfl,hb1⟩
  have HX4:Hid (Below w0.heap.size w0 w4):=hid (thenB_ HX3.out hb1)
  clear hb1
  go_wp2_with fail
  refine bk hK (HS.out _ HX4.out) fun hHeld=>?_
  clear hK K
  refine tk 19 ?_
  refine tk 20 ?_
  refine tk 21 ?_
  refine dn9 (NoPanic.normal ?_)
  go_wp2
  go_ret
  exact ⟨ret_bool HE.out.symm,HB0.out.trans (HX4.out.mono HB0.out.size)⟩
 .have t1:=beq_yes (s:=str r.callid) (t:=str d.callid) (by rw [h1])
  have t2:=beq_yes (s:=str r.ttag) (t:=str (tagA d.loc)) (by rw [h2])
  have t3:=beq_yes (s:=str r.ftag) (t:=str (tagA d.rem)) (by rw [h3])
  have HE:=hid hR
  clear h1 h2 h3 hR
  refine wp_region_noPanic (rgn HS.out HX0.out fun hHeld=>?_)
  refine tk 0 ?_
  refine tk 1 ?_
  refine tk 2 ?_
  refine tk 3 ?_
  refine tk 4 ?_
  refine tk 5 ?_
  refine tk 6 ?_
  refine tk 7 ?_
  refine tk 8 ?_
  refine tk 9 ?_
  refine rd1 10 fun K hK=>?_
  go_simp
  refine (HL.out _ HX0.out).mono ?_
  rintro e w3 ⟨rfl,hb1⟩
  have HX3:Hid (Below w0.heap.size w0 w3):=hid (thenB_ HX0.out hb1)
  clear hb1
  go_wp2_with fail
  refine bk hK (HS.out _ HX3.out) fun hHeld=>?_
  clear hK K
  refine tk 11 ?_
  refine tk 12 ?_
  refine tk 13 ?_
  refine tk 14 ?_
  refine tk 15 ?_
  refine tk 16 ?_
  refine tk 17 ?_
  refine rd1 18 fun K hK=>?_
  go_simp
  refine (HR.out _ HX3.out).mono ?_
  rintro e w4 ⟨rfl,hb1⟩
  have HX4:Hid (Below w0.heap.size w0 w4):=hid (thenB_ HX3.out hb1)
  clear hb1
  go_wp2_with fail
  refine bk hK (HS.out _ HX4.out) fun hHeld=>?_
  clear hK K
  refine tk 19 ?_
  refine tk 20 ?_
  refine tk 21 ?_
  refine dn9 (NoPanic.normal ?_)
  go_wp2
  go_ret
  exact ⟨ret_bool HE.out.symm,HB0.out.trans (HX4.out.mono HB0.out.size)⟩
def RTkPost (B:Nat) (d:Dlg) (r:ReqP) (w:World) (e:Ending) (w':World):Prop:=∃ v',e=.returned (.tuple #[.agg (dlgA (takR d r).dlg v'),.int .i64 (takR d r).err])/\DlgW w' B (takR d r).dlg v'/\Below w.heap.size w w'
set_option maxRecDepth 100000 in
set_option maxHeartbeats 16000000 in
theorem rTake_any {d:Dlg} {v:SlV} {r:ReqP} {q:RqV} {B:Nat} {w:World} (hB:B<=w.heap.size) (hm:DlgW w B d v) (hr:ReqB w B r q) (s1:∀ p∈d.loc.params,parS p) (s2:∀ p∈d.rem.params,parS p) :
 Calls Tryz.prog 96 #[.agg (dlgA d v),.agg (reqA r q)] w (RTkPost B d r w):=by
 obtain ⟨w0,hw0⟩:∃ w0,((w.alloc (.cells (dlgA d v) 37)).alloc (.cells (reqA r q) 45)).alloc (.cells dlg0 37)=w0:=⟨_,rfl⟩
 have hb0:Below w.heap.size w w0:=hw0▸(((Below.refl _ _).alloc (Nat.le_refl _) _).alloc (by simp) _).alloc (by simp;omega) _
 have hka:Blk w0 w.heap.size 37 (dlgA d v):=hw0▸((Blk.new w _ _).alloc _).alloc _
 have hkb:Blk w0 (w.heap.size+1) 45 (reqA r q):=hw0▸(Blk.new' _ _ _ (by simp)).alloc _
 have hkc:Blk w0 (w.heap.size+1+1) 37 dlg0:=hw0▸Blk.new' _ _ _ (by simp)
 have HM0:=hid (hm.below hb0 hB)
 have HMA:=hid (rMatch_any (v:=v) (q:=q) (d:=d) (r:=r) (w:=w0) (Nat.le_refl _) ((hm.below hb0 hB).la.prB (Nat.le_trans hB hb0.size)) ((hm.below hb0 hB).ra.prB (Nat.le_trans hB hb0.size)) s1 s2)
 have HRB:Hid (∀ W,Below w.heap.size w W->ReqB W B r q/\B<=W.heap.size):=hid (fun W hW=>⟨hr.below (hW.mono hB),Nat.le_trans hB hW.size⟩)
 have HKA:Hid (∀ W,Below w0.heap.size w0 W->Blk W w.heap.size 37 (dlgA d v)):=hid (fun W hW=>hka.fr (Fr.of_below (F:=fun _=>False) hW) (fun h=>h))
 have HKB:Hid (∀ W,Below w0.heap.size w0 W->Blk W (w.heap.size+1) 45 (reqA r q)):=hid (fun W hW=>hkb.fr (Fr.of_below (F:=fun _=>False) hW) (fun h=>h))
 have HKC:Hid (∀ W,Below w0.heap.size w0 W->Blk W (w.heap.size+1+1) 37 dlg0):=hid (fun W hW=>hkc.fr (Fr.of_below (F:=fun _=>False) hW) (fun h=>h))
 have HB0:=hid hb0
 have HW:=hid (tak_ways d r)
 have HONE:=hid hm.one
 unfold MatPost at HMA
 have HBZ:=hid hB
 clear hb0 hka hkb hkc hB hm hr s1 s2
 unfold dlg0 at hw0
 go_enter Tryz.func96,Tryz.ntmps96
 go_upto_region 1 with (fail)
 try rw [hw0]
 clear hw0
 generalize hq0:Value.agg (dlgA d v)=q0
 generalize hq1:Value.agg (reqA r q)=q1
 rw [hq0,hq1] at HMA
 go_wp2_with (first|(refine wpl_load rfl 37 (.tmp 2) rfl w.heap.size 0 rfl (HKA.out _ (Below.refl _ _)) (dlgA d v).toList rfl _ Tryz.underlying37 rfl (by kernel_rfl) ?_)|(refine wpl_load rfl 45 (.tmp 3) rfl (w.heap.size+1) 0 rfl (HKB.out _ (Below.refl _ _)) (reqA r q).toList rfl _ Tryz.underlying45 rfl (by kernel_rfl) ?_)|fail)
 refine (HMA.out).mono ?_
 rintro e w1 ⟨rfl,hb1⟩
 have HK1:=hid (HKA.out _ hb1)
 have HK2:=hid (HKB.out _ hb1)
 have HK3:=hid (HKC.out _ hb1)
 have HM1:=hid (HM0.out.below hb1 (Nat.le_trans HBZ.out HB0.out.size))
 have HB1:=hid (HB0.out.trans (hb1.mono HB0.out.size))
 clear hb1 HMA HM0 HKA HKB HKC
 have c24:w1.cell? ⟨w.heap.size,24,none⟩=some (.int .i64 d.lastIn):=HK1.out.cell 24
 have c28:w1.cell? ⟨w.heap.size+1,28,none⟩=some (.int .i64 r.seq):=HK2.out.cell 28
 have j24:=HK1.out.frozen 24
 rcases HW.out with ⟨h1,hx⟩|⟨h1,h2,hx⟩|⟨h1,h2,k,h3,hx⟩|⟨h1,h2,h3,hx⟩
 .have HE:=hid hx
  rw [h1]
  clear hx h1
  go_wp2_with (first|(refine wpl_load rfl 37 (.tmp 2) rfl w.heap.size 0 rfl HK1.out (dlgA d v).toList rfl _ Tryz.underlying37 rfl (by kernel_rfl) ?_)|(refine wpl_store rfl 37 (.tmp 4) (.tmp 10) rfl (w.heap.size+1+1) 0 rfl (dlgA d v) rfl HK3.out (Nat.le_refl 26) (dlgA d v) rfl (by kernel_rfl) (dlgA_one HONE.out) ?_;intro wz hkz hfz))
  refine ret_cell2 rfl rfl rfl rfl hkz _ Tryz.underlying37 rfl (by kernel_rfl) ⟨v,by rw [HE.out];rfl,by rw [HE.out];exact HM1.out.fr hfz (keepP_blk HK3.out (by decide) (by decide)) (hfz.to_below (Nat.le_trans HBZ.out HB1.out.size) (fun k e=>by have:=HBZ.out;omega)),?_⟩
  exact below_upfr HB1.out (Nat.le_refl _) hfz (fun k e=>by omega)
 .have HE:=hid hx
  rw [h1]
  have d2:decide (r.seq<=d.lastIn)=true:=decide_eq_true h2
  clear hx h1
  go_wp2_with (first|(refine wpl_load rfl 37 (.tmp 2) rfl w.heap.size 0 rfl HK1.out (dlgA d v).toList rfl _ Tryz.underlying37 rfl (by kernel_rfl) ?_)|(refine wpl_store rfl 37 (.tmp 4) (.tmp 16) rfl (w.heap.size+1+1) 0 rfl (dlgA d v) rfl HK3.out (Nat.le_refl 26) (dlgA d v) rfl (by kernel_rfl) (dlgA_one HONE.out) ?_;intro wz hkz hfz))
  refine ret_cell2 rfl rfl rfl rfl hkz _ Tryz.underlying37 rfl (by kernel_rfl) ⟨v,by rw [HE.out];rfl,by rw [HE.out];exact HM1.out.fr hfz (keepP_blk HK3.out (by decide) (by decide)) (hfz.to_below (Nat.le_trans HBZ.out HB1.out.size) (fun k e=>by have:=HBZ.out;omega)),?_⟩
  exact below_upfr HB1.out (Nat.le_refl _) hfz (fun k e=>by omega)
 .have HE:=hid hx
  rw [h1]
  have d2:decide (r.seq<=d.lastIn)=false:=decide_eq_false (by omega)
  have q2:¬r.seq<=d.lastIn:=by omega
  obtain ⟨w2,hw2⟩:∃ w2,w1.setCell ⟨w.heap.size,24,none⟩ (.int .i64 r.seq)=w2:=⟨_,rfl⟩
  have hf:Fr (fun k=>k=w.heap.size) w1 w2:=hw2▸(Fr.refl (fun k=>k=w.heap.size) w1).set (p:=⟨w.heap.size,24,none⟩) (fun _=>rfl) _
  have HD:Hid (Blk w2 w.heap.size 37 (dlgA { d with lastIn:=r.seq } v)):=hid (hw2▸blk_setCells [.int .i64 r.seq] (off:=24) HK1.out (show 25<=26 by omega))
  have HM2:=hid (HM1.out.fr hf (keepP_blk HK1.out (by decide) (by decide)) (hf.to_below (Nat.le_trans HBZ.out HB1.out.size) (fun k e=>by have:=HBZ.out;omega)))
  have HR2:=hid (HK3.out.fr hf (by omega))
  have HB2:=hid (below_upfr HB1.out (Nat.le_refl _) hf (fun k e=>by omega))
  obtain ⟨xs,hxs,⟨A,cc,hco,_,_,hcr⟩,hcx⟩:=(HRB.out _ HB2.out).1.co
  obtain ⟨x,rfl,rfl⟩:∃ x,xs=[x]/\x.a=k:=by
   rw [h3] at hxs
   match xs,hxs with
   | [x],h9=>exact ⟨x,rfl,by simpa using h9⟩
  obtain ⟨gb,off,rfl,hgb,_⟩:=id (hcr.2 (Nat.zero_lt_one))
  obtain ⟨k1,k2,k3,k4,k5,k6⟩:=cx_cells hcr
  have c32:w2.cell? ⟨w.heap.size+1,32,none⟩=some (.slice (some ⟨gb,off,none⟩) 1 cc):=by
   have h9:=(HK2.out.fr hf (by omega)).cell 32
   exact h9.trans (congrArg some hco)
  have HP1:=hid (hcx x (by simp)).1
  have HP2:=hid (hcx x (by simp)).2
  clear hx h1 h2 h3 hxs hco hf hcr hcx
  go_upto_region 7 with (fail)
  try rw [hw2]
  clear hw2 c24 c28 j24
  have HO1:Hid (x.vp.oneCell'=true/\x.vh.oneCell'=true):=hid ⟨PrX.one (.inl HP1.out),PrX.one (.inl HP2.out)⟩
  go_upto_region 8 with (refine wpl_store rfl 32 (.tmp 29) (.tmp 28) rfl w.heap.size 17 rfl #[.string (str x.a.uri.scheme),.string (str x.a.uri.user),.string (str x.a.uri.host),.int .i64 x.a.uri.port,x.vp,x.vh] rfl HD.out (show 23<=26 by omega) (dlgA { d with lastIn:=r.seq,tgt:=x.a.uri } { v with tp:=x.vp,th:=x.vh }) rfl (by kernel_rfl) (uriA_one (u:=x.a.uri) HO1.out.1 HO1.out.2) ?_;intro wy hky hfy)
  have HKY:=hid hky
  have HRY:=hid (HR2.out.fr hfy (by omega))
  have hkp:=keepP_blk HD.out (by decide) (by decide)
  have hby:Below B w2 wy:=hfy.to_below (Nat.le_trans HBZ.out HB2.out.size) (fun k e=>by have:=HBZ.out;omega)
  have HMY:Hid (DlgW wy B { d with lastIn:=r.seq,tgt:=x.a.uri } { v with tp:=x.vp,th:=x.vh }):=hid (by
   have h9:=HM2.out.fr hfy hkp hby
   exact ⟨h9.lp,h9.lh,h9.la,h9.rp,h9.rh,h9.ra,.inl (HP1.out.below hby),.inl (HP2.out.below hby),h9.ro⟩)
  have HBY:=hid (below_upfr HB2.out (Nat.le_refl _) hfy (fun k e=>by omega))
  have HOY:=hid (dlgA_one (d:={ d with lastIn:=r.seq,tgt:=x.a.uri }) HMY.out.one)
  clear hky hfy hkp hby
  go_wp2_with (first|(refine wpl_load rfl 37 (.tmp 2) rfl w.heap.size 0 rfl HKY.out (dlgA { d with lastIn:=r.seq,tgt:=x.a.uri } { v with tp:=x.vp,th:=x.vh }).toList rfl _ Tryz.underlying37 rfl (by kernel_rfl) ?_)|(refine wpl_store rfl 37 (.tmp 4) (.tmp 30) rfl (w.heap.size+1+1) 0 rfl (dlgA { d with lastIn:=r.seq,tgt:=x.a.uri } { v with tp:=x.vp,th:=x.vh }) rfl HRY.out (Nat.le_refl 26) (dlgA { d with lastIn:=r.seq,tgt:=x.a.uri } { v with tp:=x.vp,th:=x.vh }) rfl (by kernel_rfl) HOY.out ?_;intro wz hkz hfz))
  refine ret_cell2 rfl rfl rfl rfl hkz _ Tryz.underlying37 rfl (by kernel_rfl) ⟨{ v with tp:=x.vp,th:=x.vh },by rw [HE.out];rfl,by rw [HE.out];exact HMY.out.fr hfz (keepP_blk HRY.out (by decide) (by decide)) (hfz.to_below (Nat.le_trans HBZ.out HBY.out.size) (fun k e=>by have:=HBZ.out;omega)),?_⟩
  exact below_upfr HBY.out (Nat.le_refl _) hfz (fun k e=>by omega)
 .have HE:=hid hx
  rw [h1]
  have d2:decide (r.seq<=d.lastIn)=false:=decide_eq_false (by omega)
  have q2:¬r.seq<=d.lastIn:=by omega
  obtain ⟨xs,hxs,⟨A,cc,hco,_,_,_⟩,_⟩:=(HRB.out _ HB1.out).1.co
  have hxl:xs.length≠1:=by rw [<-hxs,List.length_map] at h3;exact h3
  have q3:((xs.length:Int) == 1)=false:=by simp;omega
  have c32:w1.cell? ⟨w.heap.size+1,32,none⟩=some (.slice A xs.length cc):=by rw [<-hco];exact HK2.out.cell 32
  have HD:Hid (Blk (w1.setCell ⟨w.heap.size,24,none⟩ (.int .i64 r.seq)) w.heap.size 37 (dlgA { d with lastIn:=r.seq } v)):=hid (blk_setCells [.int .i64 r.seq] (off:=24) HK1.out (show 25<=26 by omega))
  have hf:Fr (fun k=>k=w.heap.size) w1 (w1.setCell ⟨w.heap.size,24,none⟩ (.int .i64 r.seq)):=(Fr.refl (fun k=>k=w.heap.size) w1).set (p:=⟨w.heap.size,24,none⟩) (fun _=>rfl) _
  have HM2:Hid (DlgW (w1.setCell ⟨w.heap.size,24,none⟩ (.int .i64 r.seq)) B { d with lastIn:=r.seq } v):=hid (by
   have h9:=HM1.out.fr hf (keepP_blk HK1.out (by decide) (by decide)) (hf.to_below (Nat.le_trans HBZ.out HB1.out.size) (fun k e=>by have:=HBZ.out;omega))
   exact ⟨h9.lp,h9.lh,h9.la,h9.rp,h9.rh,h9.ra,h9.tp,h9.th,h9.ro⟩)
  have HR2:=hid (HK3.out.fr hf (by omega))
  have HB2:=hid (below_upfr HB1.out (Nat.le_refl _) hf (fun k e=>by omega))
  clear hx h1 h2 h3 hxl hxs hco hf
  go_wp2_with (first|(refine wpl_load rfl 37 (.tmp 2) rfl w.heap.size 0 rfl HD.out (dlgA { d with lastIn:=r.seq } v).toList rfl _ Tryz.underlying37 rfl (by kernel_rfl) ?_)|(refine wpl_store rfl 37 (.tmp 4) (.tmp 30) rfl (w.heap.size+1+1) 0 rfl (dlgA { d with lastIn:=r.seq } v) rfl HR2.out (Nat.le_refl 26) (dlgA { d with lastIn:=r.seq } v) rfl (by kernel_rfl) (dlgA_one HONE.out) ?_;intro wz hkz hfz))
  refine ret_cell2 rfl rfl rfl rfl hkz _ Tryz.underlying37 rfl (by kernel_rfl) ⟨v,by rw [HE.out];rfl,by rw [HE.out];exact HM2.out.fr hfz (keepP_blk HR2.out (by decide) (by decide)) (hfz.to_below (Nat.le_trans HBZ.out HB2.out.size) (fun k e=>by have:=HBZ.out;omega)),?_⟩
  exact below_upfr HB2.out (Nat.le_refl _) hfz (fun k e=>by omega)
def SameI (a b:List Int) (j:Nat):Prop:=a.take j=b.take j
theorem int_at {w:World} {A:Option Addr} {a:List Int} (h:Rd w 3 1 a.length A (a.map (Value.int .i64))) {j:Nat} (hj:j<a.length):∃ gb off,A=some ⟨gb,off,none⟩/\w.cell? ⟨gb,off+j,none⟩=some (.int .i64 a[j]):=by
 obtain ⟨gb,off,e,_,hc⟩:=h.at_ (by omega)
 exact ⟨gb,off,e,hc j _ (by simp [hj])⟩
set_option maxRecDepth 100000 in
set_option maxHeartbeats 4000000 in
theorem rtints_any {a b:List Int} {A1 A2:Option Addr} {c1 c2:Nat} {w:World} (h1:Rd w 3 1 a.length A1 (a.map (Value.int .i64))) (h2:Rd w 3 1 b.length A2 (b.map (Value.int .i64))) (l1:a.length<=maxLen) (l2:b.length<=maxLen) :
 Calls Tryz.prog 57 #[.slice A1 a.length c1,.slice A2 b.length c2] w fun e w'=>e=.returned (.bool (decide (a=b)))/\∃ n,w'=w.drewN n:=by
 unfold maxLen at l1 l2
 have H1:=hid h1
 have H2:=hid h2
 clear h1 h2
 by_cases hl:a.length=b.length
 .have HL:=hid hl
  have zl:((a.length:Int) != b.length)=false:=by rw [hl];simp
  clear hl
  go_enter Tryz.func57,Tryz.ntmps57
  go_wp2
  go_loopw [5] (fun i wr=>∃ j:Nat,j<=a.length/\i=.int .i64 j/\SameI a b j/\∃ n,wr=w.drewN n) (fun i _=>a.length-(intOf i).toNat)
  case atStart=>exact ⟨0,by omega,rfl,by simp [SameI],0,rfl⟩
  case round =>
   obtain ⟨j,hj,rfl,hS,n,rfl⟩:=hrel
   have HS:=hid hS
   clear hS
   by_cases hlt:j<a.length
   .have hlb:j<b.length:=by have:=HL.out;omega
    have x0:(0:Int)<=j:=by omega
    have x1:(j:Int)<a.length:=by omega
    have x2:(j:Int)<b.length:=by omega
    obtain ⟨gb,off,rfl,y0⟩:=int_at H1.out hlt
    obtain ⟨gb2,off2,rfl,z0⟩:=int_at H2.out hlb
    have HNO:Hid (a[j]≠b[j]->decide (a=b)=false):=hid (fun q=>decide_eq_false fun h=>q (by subst h;rfl))
    have HST:Hid (a[j]=b[j]->SameI a b (j+1)):=hid (fun q=>by
     have h:=HS.out
     unfold SameI at *
     rw [List.take_succ_eq_append_getElem hlt,List.take_succ_eq_append_getElem hlb,h,q])
    clear HS
    generalize a[j]=p at *
    generalize b[j]=q at *
    by_cases he:p=q
    .have HX:=hid (HST.out he)
     have hne:(p != q)=false:=by rw [he];simp
     clear he
     go_wp2
     go_quiet (fail)
     go_wp2
     go_roundw
     case rel=>exact ⟨j+1,by omega,by go_num,HX.out,_,by first|rfl|exact World.drewN_drewN _ _ _⟩
     case measure=>simp [intOf] <;> omega
    .have HX:=hid (HNO.out he)
     have hne:(p != q)=true:=by simpa using he
     clear he
     go_wp2
     go_quiet (fail)
     go_wp2
     go_ret
     exact ⟨ret_bool HX.out.symm,_,by first|rfl|exact World.drewN_drewN _ _ _⟩
   .have x1:¬(j:Int)<a.length:=by omega
    have HX:Hid (decide (a=b)=true):=hid (decide_eq_true (by
     have h:=HS.out
     unfold SameI at h
     rw [List.take_of_length_le (by omega),List.take_of_length_le (by have:=HL.out;omega)] at h
     exact h))
    go_wp2
    go_ret
    exact ⟨ret_bool HX.out.symm,n,rfl⟩
 .have HX:Hid (decide (a=b)=false):=hid (decide_eq_false fun h=>hl (by rw [h]))
  have zl:((a.length:Int) != b.length)=true:=by simp;omega
  clear hl
  go_enter Tryz.func57,Tryz.ntmps57
  go_wp2
  go_ret
  exact ⟨ret_bool HX.out.symm,0,rfl⟩
theorem sub_oneW {w:World} {B:Nat} {x:SX} (h:SubW w B x.s x.v):∀ u∈subC x,u.oneCell'=true:=by
 intro u hu
 have:=subA_one (s:=x.s) h.ev.one h.d.one
 rw [Array.all_eq_true_iff_forall_mem] at this
 exact this u (by unfold subC at hu;simpa using hu)
theorem subs_oneW {w:World} {B:Nat}:∀ {xs:List SX},(∀ x∈xs,SubW w B x.s x.v)->∀ u∈rows subC xs,u.oneCell'=true
 | [],_=>by simp [rows]
 | x::r,h=>by
   intro u hu
   rw [rows_cons] at hu
   rcases List.mem_append.1 hu with q|q
   .exact sub_oneW (h x List.mem_cons_self) u q
   .exact subs_oneW (fun y hy=>h y (List.mem_cons_of_mem _ hy)) u q
theorem put_rows {xs:List SX} {cur:List Value} {i:Nat} {x:SX} (hr:cur.take (xs.length*34)=rows subC xs) (hi:i<xs.length):(putL cur (i*34) (subC x)).take (xs.length*34)=rows subC (xs.set i x):=by
 have hlen:(rows subC xs).length=xs.length*34:=rows_len subC_len xs
 have hcl:xs.length*34<=cur.length:=by
  rw [<-hr,List.length_take] at hlen
  omega
 have hi2:(i+1)*34<=xs.length*34:=Nat.mul_le_mul_right _ hi
 have e1:rows subC (xs.take i)=cur.take (i*34):=by
  rw [rows_take subC_len,<-hr,List.take_take,Nat.min_eq_left (by omega)]
 have e2:rows subC (xs.drop (i+1))=(cur.drop ((i+1)*34)).take (xs.length*34-(i+1)*34):=by
  rw [rows_drop subC_len,<-hr,List.drop_take]
 rw [List.set_eq_take_append_cons_drop,if_pos hi,rows_append,rows_cons,e1,e2]
 unfold putL
 have h5:(cur.take (i*34)).length=i*34:=by rw [List.length_take];omega
 have h6:=subC_len x
 rw [List.append_assoc,List.take_append,h5,List.take_of_length_le (l:=cur.take (i*34)) (i:=xs.length*34) (by rw [h5];omega),List.take_append,h6,List.take_of_length_le (l:=subC x) (i:=xs.length*34-i*34) (by rw [h6];omega),show i*34+34=(i+1)*34 by omega,show xs.length*34-i*34-34=xs.length*34-(i+1)*34 by omega]
theorem rfl_own {Wb:World} {base B:Nat} {v:Value} {xs:List SX} {N':Nat->Prop} (h:Wb.ownsRow base 39 34 v xs.length (rows subC xs)) (hN:∀ k,base<=k->N' k) (hd:∀ x∈xs,SubW Wb B x.s x.v):RfL Wb N' B (xs.map (·.s)) v:=by
 obtain ⟨A,c,rfl,h1,h2,h3⟩:=RdV.of_own h
 refine ⟨xs,A,c,rfl,rfl,h1,h2,h3,fun hn a ha=>?_,hd⟩
 subst ha
 exact hN _ (h.lt _ rfl).1
def rt0:Array Value:=#[.string ⟨#[]⟩,.int .i64 0,.int .i64 0,.int .i64 0,.int .i64 0,.int .i64 0,.int .i64 0,.int .i64 0,.slice none 0 0]
theorem rtV_one {c:Conf} {last:Int} {v:Value} (h:v.oneCell'=true):(rtV c last v).all (·.oneCell')=true:=by
 have e1:∀ s,(Value.string s).oneCell'=true:=fun _=>rfl
 have e2:∀ k n,(Value.int k n).oneCell'=true:=fun _ _=>rfl
 simp [rtV,e1,e2,h]
def RtPost (N:Nat->Prop) (B:Nat) (c:Conf) (last:Int) (L:List SubP) (w:World) (e:Ending) (w':World):Prop:=∃ v',e=.returned (.agg (rtV c last v'))/\RfL w' (fun k=>N k\/w.heap.size<=k) B L v'/\Below w.heap.size w w'
set_option maxRecDepth 100000 in
set_option maxHeartbeats 8000000 in
theorem rwith_any {w:World} {N:Nat->Prop} {B:Nat} {L:List SubP} {v:Value} {c:Conf} {last:Int} {i:Nat} {s:SubP} {sv:SlV} (H:RfL w N B L v) (hB:B<=w.heap.size) (hl:L.length<=1000) (hi:i<L.length) (hs:SubW w B s sv) :
 Calls Tryz.prog 98 #[.agg (rtV c last v),.int .i64 i,.agg (subA s sv)] w (RtPost N B c last (L.set i s) w):=by
 obtain ⟨xs,A,cp,rfl,rfl,hcp,hmx,hrd,_,hsw⟩:=H
 rw [List.length_map] at hl hi
 obtain ⟨w0,hw0⟩:∃ w0,((w.alloc (.cells (rtV c last (.slice A xs.length cp)) 71)).alloc (.cells (subA s sv) 39)).alloc (.cells rt0 71)=w0:=⟨_,rfl⟩
 have hb0:Below w.heap.size w w0:=hw0▸(((Below.refl _ _).alloc (Nat.le_refl _) _).alloc (by simp) _).alloc (by simp;omega) _
 have hk1:Blk w0 w.heap.size 71 (rtV c last (.slice A xs.length cp)):=hw0▸((Blk.new w _ _).alloc _).alloc _
 have hk2:Blk w0 (w.heap.size+1) 39 (subA s sv):=hw0▸(Blk.new' _ _ _ (by simp)).alloc _
 have hk3:Blk w0 (w.heap.size+1+1) 71 rt0:=hw0▸Blk.new' _ _ _ (by simp)
 have hs0:w0.heap.size=w.heap.size+3:=by rw [<-hw0];simp
 have hoe:Hid ((w0.alloc (.cells #[] 39)).ownsRow w0.heap.size 39 34 (.slice (some ⟨w0.heap.size,0,none⟩) 0 0) 0 []):=hid (own_empty (Blk.new w0 _ _) (Nat.le_refl _))
 have hra:Hid (Rd (w0.alloc (.cells #[] 39)) 39 34 xs.length A (rows subC xs)):=hid ((hrd.below hb0).alloc _)
 have HONE:=hid (subs_oneW hsw)
 have HO1:=hid (subA_one (s:=s) hs.ev.one hs.d.one)
 have HB0:=hid hb0
 have HBZ:=hid hB
 have HS0:=hid hs0
 have HK1:Hid (∀ W,Below w0.heap.size w0 W->Blk W w.heap.size 71 (rtV c last (.slice A xs.length cp))):=hid (fun W hW=>hk1.fr (Fr.of_below (F:=fun _=>False) hW) (fun h=>h))
 have HK2:Hid (∀ W,Below w0.heap.size w0 W->Blk W (w.heap.size+1) 39 (subA s sv)):=hid (fun W hW=>hk2.fr (Fr.of_below (F:=fun _=>False) hW) (fun h=>h))
 have HK3:Hid (∀ W,Below w0.heap.size w0 W->Blk W (w.heap.size+1+1) 71 rt0):=hid (fun W hW=>hk3.fr (Fr.of_below (F:=fun _=>False) hW) (fun h=>h))
 have HSW:Hid (∀ W,Below w.heap.size w W->SubW W B s sv/\∀ x∈xs,SubW W B x.s x.v):=hid (fun W hW=>⟨hs.below hW hB,fun x hx=>(hsw x hx).below hW hB⟩)
 have HI:=hid hi
 have HL:=hid hl
 have c8:w0.cell? ⟨w.heap.size,8,none⟩=some (.slice A xs.length cp):=hk1.cell 8
 have c8a:(w0.alloc (.cells #[] 39)).cell? ⟨w.heap.size,8,none⟩=some (.slice A xs.length cp):=(hk1.alloc _).cell 8
 clear hb0 hk1 hk2 hk3 hs0 hrd hmx hsw hs hl hB
 unfold rt0 at hw0
 go_enter Tryz.func98,Tryz.ntmps98
 go_upto_region 1 with (fail)
 try rw [hw0]
 clear hw0
 go_upto_region 2 with (at_builtin;go_must (refine wpList_app_rd _ rfl (.tmp 8) (.tmp 10) 61 rfl w0.heap.size 39 34 560 _ Tryz.underlying61 eS39i rfl (by omega) (.slice (some ⟨w0.heap.size,0,none⟩) 0 0) 0 [] rfl hoe.out _ _ _ _ rfl hra.out HONE.out (by have:=HL.out;unfold maxLen;omega) (by have:=HL.out;omega) (by simp) ?_);intro v1 w1 hown1 hb1 hg1 hat1;rw [Nat.zero_add,List.nil_append] at hown1)
 have HB1:=hid (((Below.refl w0.heap.size w0).alloc (Nat.le_refl _) (.cells #[] 39)).trans hb1)
 obtain ⟨g,cap,cur,rfl,hg0,hbk,hnc,hcm,hcs,hct⟩:∃ g cap cur,v1=.slice (some ⟨g,0,none⟩) xs.length cap/\w0.heap.size<=g/\w1.heap[g]?=some (.cells cur 39 (0,0))/\xs.length<=cap/\cap<=maxLen/\cur.size=cap*34/\cur.toList.take (xs.length*34)=rows subC xs:=by
  rcases hown1.2 with ⟨_,h0⟩|h
  .have:=HI.out;omega
  .exact h
 have HG:=hid hg0
 have HBK:Hid (Blk w1 g 39 cur):=hid hbk
 have HPR:=hid (put_rows (x:=⟨s,sv⟩) hct hi)
 have HNC:=hid (And.intro hnc hcm)
 have HCS:=hid hcs
 have HFIT:Hid (i*34+(subA s sv).size<=cur.size):=hid (by
  show i*34+34<=cur.size
  have:(i+1)*34<=cap*34:=Nat.mul_le_mul_right _ (by omega)
  omega)
 have x0:(0:Int)<=i:=by omega
 have x1:(i:Int)<xs.length:=by omega
 have x2:xs.length<=cap:=hnc
 clear hown1 hb1 hg1 hat1 hoe hra c8 c8a hbk hct hcs hg0 hcm
 go_upto_region 3 with (first|(refine wpl_load rfl 39 (.tmp 5) rfl (w.heap.size+1) 0 rfl (HK2.out _ HB1.out) (subA s sv).toList rfl _ Tryz.underlying39 rfl (by kernel_rfl) ?_)|(refine wpl_store rfl 39 (.tmp 15) (.tmp 14) rfl g (i*34) rfl (subA s sv) rfl HBK.out HFIT.out _ rfl (by kernel_rfl) HO1.out ?_;intro w2 hk2 hf2))
 have HB2:Hid (Below w0.heap.size w0 w2):=hid (HB1.out.trans (hf2.to_below HB1.out.size (fun k e=>by have:=HG.out;omega)))
 have HOWN:Hid (w2.ownsRow w0.heap.size 39 34 (.slice (some ⟨g,0,none⟩) xs.length cap) xs.length (rows subC (xs.set i ⟨s,sv⟩))):=hid ⟨by rw [rows_len subC_len,List.length_set],.inr ⟨g,cap,_,rfl,HG.out,hk2,HNC.out.1,HNC.out.2,by
  have hz:=HFIT.out
  have hz2:(subA s sv).size=34:=rfl
  have hz3:=HCS.out
  unfold putL
  simp only [List.size_toArray,List.length_append,List.length_take,List.length_drop,Array.length_toList]
  omega,HPR.out⟩⟩
 clear hk2 hf2 HBK
 have c0:=(HK1.out _ HB2.out).cell 0
 have c1:=(HK1.out _ HB2.out).cell 1
 have c2:=(HK1.out _ HB2.out).cell 2
 have c3:=(HK1.out _ HB2.out).cell 3
 have c4:=(HK1.out _ HB2.out).cell 4
 have c5:=(HK1.out _ HB2.out).cell 5
 have c6:=(HK1.out _ HB2.out).cell 6
 have c7:=(HK1.out _ HB2.out).cell 7
 go_wp2_with (refine wpl_store rfl 71 (.tmp 6) (.tmp 21) rfl (w.heap.size+1+1) 0 rfl (rtV c last (.slice (some ⟨g,0,none⟩) xs.length cap)) rfl (HK3.out _ HB2.out) (Nat.le_refl 9) (rtV c last (.slice (some ⟨g,0,none⟩) xs.length cap)) rfl (by kernel_rfl) (rtV_one rfl) ?_;intro wz hkz hfz)
 refine ret_cell rfl rfl rfl hkz _ Tryz.underlying71 rfl (by kernel_rfl) ⟨_,rfl,?_,?_⟩
 .have hbz:Below w.heap.size w wz:=(HB0.out.trans (HB2.out.mono HB0.out.size)).trans (hfz.to_below (Nat.le_trans HB0.out.size HB2.out.size) (fun k e=>by omega))
  have h9:=rfl_own (N':=fun k=>N k\/w.heap.size<=k) (B:=B) (xs:=xs.set i ⟨s,sv⟩) (by rw [List.length_set];exact own_fr HOWN.out hfz (fun k hk e=>by have:=(HOWN.out.lt k hk).1;have:=HS0.out;omega)) (fun k hk=>.inr (Nat.le_trans HB0.out.size hk)) (fun x hx=>by
   rcases List.mem_or_eq_of_mem_set hx with q|q
   .exact (HSW.out _ hbz).2 x q
   .subst q;exact (HSW.out _ hbz).1)
  rw [List.map_set] at h9
  exact h9
 .exact (HB0.out.trans (HB2.out.mono HB0.out.size)).trans (hfz.to_below (Nat.le_trans HB0.out.size HB2.out.size) (fun k e=>by omega))
end Go.Proofs.YthkadehlclcggaaGreatDoor
