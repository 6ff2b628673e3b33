/- Chapter 16: arguments: documents, what is asked, lists of acts. How a tied card is closed: a world that holds the listed tables. The row's closed facts, one by one: each is then a proof of its own for the kernel. -/
import Derived.Test.YthfmekdbcoaolaaGreatDoorGy14
import Derived.Test.YthfmekdbcoaolaaGreatDoorGy25
import Derived.Test.YthfmekdbcoaolaaGreatDoorCards
import Derived.Test.YthfmekdbcoaolaaGreatDoorTie
import Derived.Deep.DeepHandedRow
import Derived.Lib.LaidTab
import Derived.JoinedCond
import Derived.Deep.CondSized
namespace Go.Proofs.YthfmekdbcoaolaaGreatDoor
set_option linter.unusedSimpArgs false
set_option linter.unusedVariables false
set_option maxRecDepth 100000
open Go.ChangeShapes Go.WideShapes Go.ChangeAt Go.RowKit Go.Deep
section
variable {H:Type} {enc:TypeId × Value->H} {W:World}
theorem cO9:Tryz.prog.cellsOf 9=1:=by kernel_rfl
theorem cO4:Tryz.prog.cellsOf 4=1:=by kernel_rfl
theorem cO3:Tryz.prog.cellsOf 3=1:=by kernel_rfl
theorem cO36:Tryz.prog.cellsOf 36=1:=by kernel_rfl
theorem cO37:Tryz.prog.cellsOf 37=1:=by kernel_rfl
theorem cO115:Tryz.prog.cellsOf 115=5:=by kernel_rfl
theorem cO39:Tryz.prog.cellsOf 39=3:=by kernel_rfl
theorem cO42:Tryz.prog.cellsOf 42=8:=by kernel_rfl
theorem cO50:Tryz.prog.cellsOf 50=10:=by kernel_rfl
theorem bO50:Tryz.prog.bytesOf 50=144:=by kernel_rfl
theorem trod_tup {n:Nat} {cs:List Value} {d:DataW H} {p:List MemPlace} (h:DataW.trod enc Tryz.prog W 0 (fun _=>true) true n 115 cs=some (d,p)) (hr:InReach 115 d):∃ x:Tup,cs=tupC x/\TupS x:=by
 have hl:=trod_len Tryz.underlying115 h cO115
 obtain ⟨c0,r0,rfl,g0⟩:=uncons hl
 obtain ⟨c1,r1,rfl,g1⟩:=uncons g0
 obtain ⟨c2,r2,rfl,g2⟩:=uncons g1
 obtain ⟨c3,r3,rfl,g3⟩:=uncons g2
 obtain ⟨c4,r4,rfl,g4⟩:=uncons g3
 obtain rfl:=unnil g4
 obtain ⟨m0,d0,p0,q0,h0⟩:=trod_fld Tryz.underlying115 h hr (j:=0) (ty:=9) (o:=0) (by kernel_rfl) cO9
 obtain ⟨m1,d1,p1,q1,h1⟩:=trod_fld Tryz.underlying115 h hr (j:=1) (ty:=4) (o:=1) (by kernel_rfl) cO4
 obtain ⟨m2,d2,p2,q2,h2⟩:=trod_fld Tryz.underlying115 h hr (j:=2) (ty:=9) (o:=2) (by kernel_rfl) cO9
 obtain ⟨m3,d3,p3,q3,h3⟩:=trod_fld Tryz.underlying115 h hr (j:=3) (ty:=3) (o:=3) (by kernel_rfl) cO3
 obtain ⟨m4,d4,p4,q4,h4⟩:=trod_fld Tryz.underlying115 h hr (j:=4) (ty:=9) (o:=4) (by kernel_rfl) cO9
 obtain ⟨s0,rfl,l0⟩:=trod_str Tryz.underlying9 h0 q0
 obtain ⟨b1,rfl⟩:=trod_b Tryz.underlying4 h1
 obtain ⟨s2,rfl,l2⟩:=trod_str Tryz.underlying9 h2 q2
 obtain ⟨z3,rfl,l3,l3'⟩:=trod_i64 Tryz.underlying3 h3
 obtain ⟨s4,rfl,l4⟩:=trod_str Tryz.underlying9 h4 q4
 exact ⟨⟨s0,b1,s2,z3,s4⟩,rfl,l0,l2,l4,l3,l3'⟩
theorem trod_doc {n:Nat} {cs:List Value} {d:DataW H} {p:List MemPlace} (h:DataW.trod enc Tryz.prog W 0 (fun _=>true) true n 39 cs=some (d,p)) (hr:InReach 39 d) :
 ∃ (x:DocP) (vt vn:Value),cs=[.string (str x.ent),vt,vn]/\DocB W W.heap.size x vt vn/\DocS x:=by
 have hl:=trod_len Tryz.underlying39 h cO39
 obtain ⟨c0,r0,rfl,g0⟩:=uncons hl
 obtain ⟨c1,r1,rfl,g1⟩:=uncons g0
 obtain ⟨c2,r2,rfl,g2⟩:=uncons g1
 obtain rfl:=unnil g2
 obtain ⟨m0,d0,p0,q0,h0⟩:=trod_fld Tryz.underlying39 h hr (j:=0) (ty:=9) (o:=0) (by kernel_rfl) cO9
 obtain ⟨m1,d1,p1,q1,h1⟩:=trod_fld Tryz.underlying39 h hr (j:=1) (ty:=36) (o:=1) (by kernel_rfl) cO36
 obtain ⟨m2,d2,p2,q2,h2⟩:=trod_fld Tryz.underlying39 h hr (j:=2) (ty:=37) (o:=2) (by kernel_rfl) cO37
 obtain ⟨s0,rfl,l0⟩:=trod_str Tryz.underlying9 h0 q0
 obtain ⟨lt,At,ct,e1,j1,j2,j3,j4,j5⟩:=trod_slc (f:=tupC) (R:=TupS) Tryz.underlying36 cO115 (by omega) tupC_len (fun n cs d p h hr=>trod_tup h hr) h1 q1
 obtain ⟨ln,An,cn,e2,k1,k2,k3,k4,k5⟩:=trod_slc (f:=noteC) (R:=fun s=>s.length<=140737488351232) Tryz.underlying37 cO9 (by omega) noteC_len (fun n cs d p h hr=>by
  have hl:cs.length=1:=by
   obtain ⟨s,hz,_⟩:=DataW.trod_string Tryz.underlying9 h
   rw [hz];rfl
  obtain ⟨c,r,rfl,hl9⟩:=uncons hl
  obtain rfl:=unnil hl9
  obtain ⟨s,rfl,hs⟩:=trod_str Tryz.underlying9 h hr
  exact ⟨s,rfl,hs⟩) h2 q2
 subst e1
 subst e2
 refine ⟨⟨s0,lt,ln⟩,_,_,rfl,⟨⟨At,ct,rfl,j1,j2,j4⟩,⟨An,cn,rfl,k1,k2,k4⟩⟩,l0,j5,k5,?_,?_⟩
 .have hb:Tryz.prog.bytesOf 115=64:=by kernel_rfl
  rw [hb] at j3
  show lt.length<=_
  omega
 .have hb:Tryz.prog.bytesOf 9=16:=by kernel_rfl
  rw [hb] at k3
  show ln.length<=_
  omega
theorem trod_ask {n:Nat} {cs:List Value} {d:DataW H} {p:List MemPlace} (h:DataW.trod enc Tryz.prog W 0 (fun _=>true) true n 42 cs=some (d,p)) (hr:InReach 42 d) :
 ∃ (a:AskP) (vt vn:Value),cs=askC a vt vn/\DocB W W.heap.size a.doc vt vn/\AskS a:=by
 have hl:=trod_len Tryz.underlying42 h cO42
 obtain ⟨c0,r0,rfl,g0⟩:=uncons hl
 obtain ⟨c1,r1,rfl,g1⟩:=uncons g0
 obtain ⟨c2,r2,rfl,g2⟩:=uncons g1
 obtain ⟨c3,r3,rfl,g3⟩:=uncons g2
 obtain ⟨c4,r4,rfl,g4⟩:=uncons g3
 obtain ⟨c5,r5,rfl,g5⟩:=uncons g4
 obtain ⟨c6,r6,rfl,g6⟩:=uncons g5
 obtain ⟨c7,r7,rfl,g7⟩:=uncons g6
 obtain rfl:=unnil g7
 obtain ⟨m0,d0,p0,q0,h0⟩:=trod_fld Tryz.underlying42 h hr (j:=0) (ty:=9) (o:=0) (by kernel_rfl) cO9
 obtain ⟨m1,d1,p1,q1,h1⟩:=trod_fld Tryz.underlying42 h hr (j:=1) (ty:=9) (o:=1) (by kernel_rfl) cO9
 obtain ⟨m2,d2,p2,q2,h2⟩:=trod_fld Tryz.underlying42 h hr (j:=2) (ty:=3) (o:=2) (by kernel_rfl) cO3
 obtain ⟨m3,d3,p3,q3,h3⟩:=trod_fld Tryz.underlying42 h hr (j:=3) (ty:=4) (o:=3) (by kernel_rfl) cO4
 obtain ⟨m4,d4,p4,q4,h4⟩:=trod_fld Tryz.underlying42 h hr (j:=4) (ty:=39) (o:=4) (by kernel_rfl) cO39
 obtain ⟨m5,d5,p5,q5,h5⟩:=trod_fld Tryz.underlying42 h hr (j:=5) (ty:=9) (o:=7) (by kernel_rfl) cO9
 obtain ⟨s0,rfl,l0⟩:=trod_str Tryz.underlying9 h0 q0
 obtain ⟨s1,rfl,l1⟩:=trod_str Tryz.underlying9 h1 q1
 obtain ⟨z2,rfl,l2,l2'⟩:=trod_i64 Tryz.underlying3 h2
 obtain ⟨b3,rfl⟩:=trod_b Tryz.underlying4 h3
 obtain ⟨x,vt,vn,e4,hd,hs⟩:=trod_doc h4 q4
 obtain ⟨s5,rfl,l5⟩:=trod_str Tryz.underlying9 h5 q5
 simp only [List.drop_succ_cons,List.drop_zero,List.take_succ_cons,List.take_zero,List.cons.injEq,and_true] at e4
 obtain ⟨rfl,rfl,rfl⟩:=e4
 exact ⟨⟨s0,s1,z2,b3,x,s5⟩,_,_,rfl,hd,l0,l1,(by show s5.length<=_;omega),l2,l2',hs⟩
theorem trod_act {n:Nat} {cs:List Value} {d:DataW H} {p:List MemPlace} (h:DataW.trod enc Tryz.prog W 0 (fun _=>true) true n 50 cs=some (d,p)) (hr:InReach 50 d) :
 ∃ x:ActX,cs=actC x/\ActR W W.heap.size x:=by
 have hl:=trod_len Tryz.underlying50 h cO50
 obtain ⟨c0,r0,rfl,g0⟩:=uncons hl
 obtain ⟨c1,r1,rfl,g1⟩:=uncons g0
 obtain ⟨m0,d0,p0,q0,h0⟩:=trod_fld Tryz.underlying50 h hr (j:=0) (ty:=4) (o:=0) (by kernel_rfl) cO4
 obtain ⟨m1,d1,p1,q1,h1⟩:=trod_fld Tryz.underlying50 h hr (j:=1) (ty:=3) (o:=1) (by kernel_rfl) cO3
 obtain ⟨m2,d2,p2,q2,h2⟩:=trod_fld Tryz.underlying50 h hr (j:=2) (ty:=42) (o:=2) (by kernel_rfl) cO42
 obtain ⟨b0,rfl⟩:=trod_b Tryz.underlying4 h0
 obtain ⟨z1,rfl,l1,l1'⟩:=trod_i64 Tryz.underlying3 h1
 have e2:((Value.bool b0::Value.int .i64 z1::r1).drop 2).take 8=r1:=by
  rw [List.drop_succ_cons,List.drop_succ_cons,List.drop_zero,List.take_of_length_le (by omega)]
 rw [e2] at h2
 obtain ⟨a,vt,vn,rfl,hd,hs⟩:=trod_ask h2 q2
 exact ⟨⟨b0,z1,a,vt,vn⟩,rfl,hd,hs,l1,l1'⟩
theorem arg_acts {base:Nat} {v:Value} {d:DataW H} {p:List MemPlace} (hv:Value.okWide Tryz.prog W .any base 58 v) (h:DataW.Trod enc Tryz.prog W 0 (fun _=>true) true 58 v d p) (hr:InReach 58 d):ActsB W W.heap.size v:=by
 obtain ⟨a0,len0,cap0,rfl⟩:=okWide_slice Tryz.underlying58 hv
 obtain ⟨n,hf⟩:=h
 obtain ⟨l,A,c,e,h1,h2,h3,h4,h5⟩:=trod_slc (f:=actC) (R:=ActR W W.heap.size) Tryz.underlying58 cO50 (by omega) actC_len (fun n cs d p h hr=>trod_act h hr) hf hr
 rw [bO50] at h3
 exact ⟨l,A,c,e,h1,h2,by omega,h4,h5⟩
theorem arg_act {base:Nat} {v:Value} {d:DataW H} {p:List MemPlace} (hv:Value.okWide Tryz.prog W .any base 50 v) (h:DataW.Trod enc Tryz.prog W 0 (fun _=>true) true 50 v d p) (hr:InReach 50 d):∃ x:ActX,v=.agg (actC x).toArray/\ActR W W.heap.size x:=by
 obtain ⟨cs,rfl,hsz⟩:=okWide_struct Tryz.underlying50 hv
 obtain ⟨l⟩:=cs
 obtain ⟨n,hf⟩:=h
 obtain ⟨x,hc,hx⟩:=trod_act hf hr
 have hc':l=actC x:=hc
 subst hc'
 exact ⟨x,rfl,hx⟩
theorem arg_ask {base:Nat} {v:Value} {d:DataW H} {p:List MemPlace} (hv:Value.okWide Tryz.prog W .any base 42 v) (h:DataW.Trod enc Tryz.prog W 0 (fun _=>true) true 42 v d p) (hr:InReach 42 d):∃ (a:AskP) (vt vn:Value),v=.agg (askC a vt vn).toArray/\DocB W W.heap.size a.doc vt vn/\AskS a:=by
 obtain ⟨cs,rfl,hsz⟩:=okWide_struct Tryz.underlying42 hv
 obtain ⟨l⟩:=cs
 obtain ⟨n,hf⟩:=h
 obtain ⟨a,vt,vn,hc,hx,hs⟩:=trod_ask hf hr
 have hc':l=askC a vt vn:=hc
 subst hc'
 exact ⟨a,vt,vn,rfl,hx,hs⟩
theorem arg_conf {base:Nat} {v:Value} {d:DataW H} {p:List MemPlace} (hv:Value.okWide Tryz.prog W .any base 27 v) (h:DataW.Trod enc Tryz.prog W 0 (fun _=>true) true 27 v d p) (hr:InReach 27 d):∃ c:Conf,v=.agg #[.string (str c.host),.int .i64 c.calls,.int .i64 c.pubs,.int .i64 c.subs,.int .i64 c.least,.int .i64 c.most,.int .i64 c.usual]/\ConfS c:=by
 obtain ⟨cs,rfl,hsz⟩:=okWide_struct Tryz.underlying27 hv
 obtain ⟨l⟩:=cs
 obtain ⟨n,hf⟩:=h
 have hC:Tryz.prog.cellsOf 27=7:=by kernel_rfl
 have hl:=trod_len Tryz.underlying27 hf hC
 have hl':l.length=7:=hl
 obtain ⟨c0,r0,rfl,g0⟩:=uncons hl'
 obtain ⟨c1,r1,rfl,g1⟩:=uncons g0
 obtain ⟨c2,r2,rfl,g2⟩:=uncons g1
 obtain ⟨c3,r3,rfl,g3⟩:=uncons g2
 obtain ⟨c4,r4,rfl,g4⟩:=uncons g3
 obtain ⟨c5,r5,rfl,g5⟩:=uncons g4
 obtain ⟨c6,r6,rfl,g6⟩:=uncons g5
 obtain rfl:=unnil g6
 obtain ⟨m0,d0,p0,q0,h0⟩:=trod_fld Tryz.underlying27 hf hr (j:=0) (ty:=9) (o:=0) (by kernel_rfl) cO9
 obtain ⟨m1,d1,p1,q1,h1⟩:=trod_fld Tryz.underlying27 hf hr (j:=1) (ty:=3) (o:=1) (by kernel_rfl) cO3
 obtain ⟨m2,d2,p2,q2,h2⟩:=trod_fld Tryz.underlying27 hf hr (j:=2) (ty:=3) (o:=2) (by kernel_rfl) cO3
 obtain ⟨m3,d3,p3,q3,h3⟩:=trod_fld Tryz.underlying27 hf hr (j:=3) (ty:=3) (o:=3) (by kernel_rfl) cO3
 obtain ⟨m4,d4,p4,q4,h4⟩:=trod_fld Tryz.underlying27 hf hr (j:=4) (ty:=3) (o:=4) (by kernel_rfl) cO3
 obtain ⟨m5,d5,p5,q5,h5⟩:=trod_fld Tryz.underlying27 hf hr (j:=5) (ty:=3) (o:=5) (by kernel_rfl) cO3
 obtain ⟨m6,d6,p6,q6,h6⟩:=trod_fld Tryz.underlying27 hf hr (j:=6) (ty:=3) (o:=6) (by kernel_rfl) cO3
 obtain ⟨s0,rfl,l0⟩:=trod_str Tryz.underlying9 h0 q0
 obtain ⟨z1,rfl,_⟩:=trod_i64 Tryz.underlying3 h1
 obtain ⟨z2,rfl,_⟩:=trod_i64 Tryz.underlying3 h2
 obtain ⟨z3,rfl,_⟩:=trod_i64 Tryz.underlying3 h3
 obtain ⟨z4,rfl,_⟩:=trod_i64 Tryz.underlying3 h4
 obtain ⟨z5,rfl,_⟩:=trod_i64 Tryz.underlying3 h5
 obtain ⟨z6,rfl,_⟩:=trod_i64 Tryz.underlying3 h6
 exact ⟨⟨s0,z1,z2,z3,z4,z5,z6⟩,rfl,⟨l0⟩⟩
end
end Go.Proofs.YthfmekdbcoaolaaGreatDoor
namespace Go.Proofs.YthfmekdbcoaolaaGreatDoor
set_option linter.unusedSimpArgs false
set_option linter.unusedVariables false
open Go.ChangeShapes Go.WideShapes Go.ChangeAt Go.RowKit
def putFirst:Obj->Obj
 | .cells _ t frozen=>.cells ((Go.Pinned.utf8FirstZ.map fun n=>Value.int .u8 ((n:Nat):Int)):List Value).toArray t frozen
 | o=>o
def putAccept:Obj->Obj
 | .cells _ t frozen=>.cells #[.int .u8 128,.int .u8 191,.int .u8 160,.int .u8 191,.int .u8 128,.int .u8 159,.int .u8 144,.int .u8 191,.int .u8 128,.int .u8 143,.int .u8 0,.int .u8 0,.int .u8 0,.int .u8 0,.int .u8 0,.int .u8 0,.int .u8 0,.int .u8 0,.int .u8 0,.int .u8 0,.int .u8 0,.int .u8 0,.int .u8 0,.int .u8 0,.int .u8 0,.int .u8 0,.int .u8 0,.int .u8 0,.int .u8 0,.int .u8 0,.int .u8 0,.int .u8 0] t frozen
 | o=>o
noncomputable def laidWorld (os:Os):World :=
 { World.holding Tryz.prog os ⟨#[],#[],[]⟩ with heap:=((World.holding Tryz.prog os ⟨#[],#[],[]⟩).heap.modify 1 putFirst).modify 2 putAccept }
end Go.Proofs.YthfmekdbcoaolaaGreatDoor
namespace Go.Proofs.YthfmekdbcoaolaaGreatDoor
set_option linter.unusedSimpArgs false
set_option linter.unusedVariables false
open Go.RowKit Go.ChangeShapes Go.WideShapes Go.ChangeAt
theorem joined_of {P:Program} {f:FuncId} {fn:Func} {s:ChangeSpec} {c:OpenClaim}
 (h1:(c.wf (OpenSpec.ofChange s))=true)
 (h2:(laidOutB P)=true)
 (h3:(mapsRowed P)=true)
 (h4:(fn.params.all (P.readableRec ·))=true)
 (h5:(namedTie P c.named s.vars)=true)
 (h6:((c.stops == []))=true)
 (h7:((P.stops == []))=true)
 (h8:((c.knobs == []))=true)
 (h9:((P.stopKnobs == []))=true)
 (h10:((c.inPlace == P.inPlace f))=true)
 (h11:((c.unfollowed == P.unfollowed f))=true)
 (h12:((c.recurses == P.recurses f))=true)
 (h13:((c.named == P.varsNamed f))=true)
 (h14:((c.maps == (fn.params.toList++s.plain.varTypes P).any (P.mapsRec ·)))=true)
 (h15:((c.ifaces == (fn.params.toList++s.plain.varTypes P).any (P.ifacesRec ·)))=true)
 (h16:((c.mapsOut == P.mapsAmong fn.resultTypes.toList))=true)
 (h17:((c.loops == (fn.params.toList++s.plain.varTypes P).any (P.loopsFrom ·)))=true)
 (h18:((c.wideKeys == (fn.params.toList++s.plain.varTypes P++fn.resultTypes.toList).any (P.wideKeysFrom ·)))=true)
 (h19:(s.vars.all (P.varReadable ·))=true)
 (h20:(fn.resultTypes.all (fun t=>P.readableRec t&&decide (t<P.types.size)))=true)
 (h21:((c.ifacesOut == fn.resultTypes.toList.any (P.ifacesRec ·)))=true)
 (h22:((c.loopsOut == fn.resultTypes.toList.any (P.loopsFrom ·)))=true)
 (h23:((c.plainKeys == P.plainKeys))=true)
 (h24:(c.shortTexts.isNone)=true)
 (h25:(P.stopsHeard)=true)
 (h26:(P.mayEnter)=true)
 (h27:((c.lifted == P.liftsFinal))=true)
 (h28:((P.make == some c.make))=true)
 (h29:((c.kinds == (if c.domain.isEmpty then [] else fn.params.toList.map fun t=>match P.underlying t with|some (.int k)=>some k|_=>none)))=true)
 (h30:((c.pinned == c.pinnedBy))=true)
 (h31:((c.veiled == (fn.params.toList++s.plain.varTypes P++fn.resultTypes.toList).any (P.veiledRec ·)))=true)
 (h32:(c.veiledFits P fn.params.toList (fn.params.toList++s.plain.varTypes P++fn.resultTypes.toList))=true)
 : joinedFacts P f fn s c=true:=by
 unfold joinedFacts
 repeat (first|assumption|refine Bool.and_eq_true_iff.2 ⟨?_,?_⟩)
 all_goals first|assumption|skip
end Go.Proofs.YthfmekdbcoaolaaGreatDoor
