/- How a tied card is closed: a world that holds the listed tables. The row's closed facts, one by one: each is then a proof of its own for the kernel. Chapter 19: arguments: requests, acts, lists of acts, with whatever sizes a closed bound g Chapter 19: the bound of the Upto rows as a closed bound. Chapter 19: acts of bounded size; what is over stays so. -/
import Derived.Test.YthkadehlclcggaaGreatDoorCards
import Derived.Test.YthkadehlclcggaaGreatDoorTie
import Derived.Test.YthkadehlclcggaaGreatDoorGx14
import Derived.Deep.DeepHandedRow
import Derived.Lib.LaidTab
import Derived.JoinedCond
import Derived.Deep.CondSized
import Derived.Test.YthkadehlclcggaaGreatDoorGx70
import Derived.Test.YthkadehlclcggaaGreatDoorGx81
import Derived.Test.YthkadehlclcggaaGreatDoorGx68
import Derived.Test.YthkadehlclcggaaGreatDoorGx66
import Derived.Deep.RegionHeld3
namespace Go.Proofs.YthkadehlclcggaaGreatDoor
set_option linter.unusedSimpArgs false
set_option linter.unusedVariables false
open Go.ChangeShapes Go.WideShapes Go.ChangeAt Go.RowKit
def putFirst:Obj->Obj
 | .cells _ t frozen=>.cells ((Go.Pinned.utf8FirstZ.map fun n=>Value.int .u8 ((n:Nat):Int)):List Value).toArray t frozen
 | o=>o
def putAccept:Obj->Obj
 | .cells _ t frozen=>.cells #[.int .u8 128,.int .u8 191,.int .u8 160,.int .u8 191,.int .u8 128,.int .u8 159,.int .u8 144,.int .u8 191,.int .u8 128,.int .u8 143,.int .u8 0,.int .u8 0,.int .u8 0,.int .u8 0,.int .u8 0,.int .u8 0,.int .u8 0,.int .u8 0,.int .u8 0,.int .u8 0,.int .u8 0,.int .u8 0,.int .u8 0,.int .u8 0,.int .u8 0,.int .u8 0,.int .u8 0,.int .u8 0,.int .u8 0,.int .u8 0,.int .u8 0,.int .u8 0] t frozen
 | o=>o
noncomputable def laidWorld (os:Os):World :=
 { World.holding Tryz.prog os ⟨#[],#[],[]⟩ with heap:=((World.holding Tryz.prog os ⟨#[],#[],[]⟩).heap.modify 1 putFirst).modify 2 putAccept }
end Go.Proofs.YthkadehlclcggaaGreatDoor
namespace Go.Proofs.YthkadehlclcggaaGreatDoor
set_option linter.unusedSimpArgs false
set_option linter.unusedVariables false
open Go.RowKit Go.ChangeShapes Go.WideShapes Go.ChangeAt
theorem joined_of {P:Program} {f:FuncId} {fn:Func} {s:ChangeSpec} {c:OpenClaim}
 (h1:(c.wf (OpenSpec.ofChange s))=true)
 (h2:(laidOutB P)=true)
 (h3:(mapsRowed P)=true)
 (h4:(fn.params.all (P.readableRec ·))=true)
 (h5:(namedTie P c.named s.vars)=true)
 (h6:((c.stops == []))=true)
 (h7:((P.stops == []))=true)
 (h8:((c.knobs == []))=true)
 (h9:((P.stopKnobs == []))=true)
 (h10:((c.inPlace == P.inPlace f))=true)
 (h11:((c.unfollowed == P.unfollowed f))=true)
 (h12:((c.recurses == P.recurses f))=true)
 (h13:((c.named == P.varsNamed f))=true)
 (h14:((c.maps == (fn.params.toList++s.plain.varTypes P).any (P.mapsRec ·)))=true)
 (h15:((c.ifaces == (fn.params.toList++s.plain.varTypes P).any (P.ifacesRec ·)))=true)
 (h16:((c.mapsOut == P.mapsAmong fn.resultTypes.toList))=true)
 (h17:((c.loops == (fn.params.toList++s.plain.varTypes P).any (P.loopsFrom ·)))=true)
 (h18:((c.wideKeys == (fn.params.toList++s.plain.varTypes P++fn.resultTypes.toList).any (P.wideKeysFrom ·)))=true)
 (h19:(s.vars.all (P.varReadable ·))=true)
 (h20:(fn.resultTypes.all (fun t=>P.readableRec t&&decide (t<P.types.size)))=true)
 (h21:((c.ifacesOut == fn.resultTypes.toList.any (P.ifacesRec ·)))=true)
 (h22:((c.loopsOut == fn.resultTypes.toList.any (P.loopsFrom ·)))=true)
 (h23:((c.plainKeys == P.plainKeys))=true)
 (h24:(c.shortTexts.isNone)=true)
 (h25:(P.stopsHeard)=true)
 (h26:(P.mayEnter)=true)
 (h27:((c.lifted == P.liftsFinal))=true)
 (h28:((P.make == some c.make))=true)
 (h29:((c.kinds == (if c.domain.isEmpty then [] else fn.params.toList.map fun t=>match P.underlying t with|some (.int k)=>some k|_=>none)))=true)
 (h30:((c.pinned == c.pinnedBy))=true)
 (h31:((c.veiled == (fn.params.toList++s.plain.varTypes P++fn.resultTypes.toList).any (P.veiledRec ·)))=true)
 (h32:(c.veiledFits P fn.params.toList (fn.params.toList++s.plain.varTypes P++fn.resultTypes.toList))=true)
 : joinedFacts P f fn s c=true:=by
 unfold joinedFacts
 repeat (first|assumption|refine Bool.and_eq_true_iff.2 ⟨?_,?_⟩)
 all_goals first|assumption|skip
end Go.Proofs.YthkadehlclcggaaGreatDoor
namespace Go.Proofs.YthkadehlclcggaaGreatDoor
set_option linter.unusedSimpArgs false
set_option linter.unusedVariables false
set_option maxRecDepth 100000
open Go.ChangeShapes Go.WideShapes Go.ChangeAt Go.RowKit Go.Deep
structure Clo {H:Type} (Q:TypeId->DataW H->Prop) (N:Nat):Prop where
 part:∀ {t:TypeId} {fs:Array Field} {parts:List (DataW H)} {j:Nat} {f:Field} {d:DataW H},Tryz.prog.underlying t=some (.struct fs)->Q t (.agg parts)->fs[j]?=some f->parts[j]?=some d->Q f.type d
 elem:∀ {t e:TypeId} {elems spare:List (DataW H)} {d:DataW H},Tryz.prog.underlying t=some (.slice e)->Q t (.slice elems spare)->d∈elems->Q e d
 str:∀ {t:TypeId} {bytes:List UInt8},Q t (.lit (.string bytes))->bytes.length<=N
 len:∀ {t e:TypeId} {elems spare:List (DataW H)},Tryz.prog.underlying t=some (.slice e)->0<Tryz.prog.bytesOf e->Q t (.slice elems spare)->elems.length<=N
section
variable {H:Type} {enc:TypeId × Value->H} {W:World} {Q:TypeId->DataW H->Prop} {N:Nat}
theorem trod_fldQ (C:Clo (H:=H) Q N) {t ty:TypeId} {o k j n:Nat} {fs:Array Field} {sp:Nat->Bool} {hd:Bool} {cs:List Value} {d:DataW H} {p:List MemPlace} (hs:Tryz.prog.underlying t=some (.struct fs)) (h:DataW.trod enc Tryz.prog W 0 sp hd n t cs=some (d,p))
 (hr:Q t d) (hj:(fs[j]?).map (fun f=>(f.type,f.offset))=some (ty,o)) (hk:Tryz.prog.cellsOf ty=k):∃ m d' p',Q ty d'/\DataW.trod enc Tryz.prog W 0 sp hd m ty ((cs.drop o).take k)=some (d',p'):=by
 obtain ⟨xs,m,_,hx,hl,hlen,hg⟩:=DataW.trod_struct hs h
 injection hx with hx1 hx2
 subst hx1
 cases hf:fs[j]? with
 | none=>rw [hf] at hj;cases hj
 | some f =>
   rw [hf] at hj
   simp only [Option.map_some,Option.some.injEq,Prod.mk.injEq] at hj
   obtain ⟨rfl,rfl⟩:=hj
   have hjl:j<fs.size:=(Array.getElem?_eq_some_iff.1 hf).1
   have hxj:xs[j]?=some (xs[j]'(by omega)):=List.getElem?_eq_getElem (by omega)
   refine ⟨m,(xs[j]'(by omega)).1,(xs[j]'(by omega)).2,C.part hs hr hf (by rw [List.getElem?_map,hxj];rfl),?_⟩
   have:=hg j f hf
   rw [hk,hxj] at this
   exact this
theorem trod_slcQ (C:Clo (H:=H) Q N) {t e:TypeId} {sz:Nat} {α:Type} {f:α->List Value} {R:α->Prop} (hu:Tryz.prog.underlying t=some (.slice e)) (hC:Tryz.prog.cellsOf e=sz) (hz:0<sz) (hb:0<Tryz.prog.bytesOf e) (hf:∀ x,(f x).length=sz)
 (hel:∀ n cs d p,DataW.trod enc Tryz.prog W 0 (fun _=>true) true n e cs=some (d,p)->Q e d->∃ x,cs=f x/\R x)
 {n:Nat} {u:Value} {d:DataW H} {p:List MemPlace} (h:DataW.trod enc Tryz.prog W 0 (fun _=>true) true n t [u]=some (d,p)) (hr:Q t d) :
 ∃ (l:List α) (A:Option Addr) (c:Nat),u=.slice A l.length c/\l.length<=c/\c<=maxLen/\l.length<=N/\RdB W W.heap.size sz l.length A (rows f l)/\∀ x∈l,R x:=by
 rcases open_slice hu h with ⟨hcs,_⟩|⟨a,len,cap,m,k,D,Pl,hcs,hcap,hl,hm,hmm,hx,hi⟩
 .injection hcs with hcs _
  subst hcs
  exact ⟨[],none,0,rfl,Nat.le_refl _,by unfold maxLen;omega,by simp,⟨by simp [rows],fun h=>absurd h (by simp)⟩,by simp⟩
 .injection hcs with hcs _
  subst hcs
  have hml:len<=m:=by rw [hmm];split <;> omega
  injection hx with hx _
  subst hx
  have hlen:=C.len hu hb hr
  simp only [List.length_map,List.length_range] at hlen
  have hq:∀ i,i<len->∃ q:α,R q/\∀ j x,(f q)[j]?=some x->W.cell? ((a.add (i*sz)).add j)=some x:=fun i hil=>by
   obtain ⟨cs',hc,ht'⟩:=hi i (by omega)
   rw [hC] at hc
   obtain ⟨q,hcq,hqs⟩:=hel _ _ _ _ ht' (C.elem hu hr (List.mem_map.2 ⟨i,List.mem_range.2 hil,rfl⟩))
   obtain ⟨_,hcl,hat⟩:=World.cells?_some hc
   refine ⟨q,hqs,fun j x hj=>?_⟩
   have hj3:j<sz:=by
    have:=(List.getElem?_eq_some_iff.1 hj).1
    rw [hf] at this
    exact this
   rw [hat j hj3,hcq]
   exact hj
  have hcho:∃ l:List α,l.length=len/\∀ i,∀ hil:i<l.length,R l[i]/\∀ j x,(f l[i])[j]?=some x->W.cell? ((a.add (i*sz)).add j)=some x:=by
   have:=Classical.axiomOfChoice (r:=fun (i:Fin len) (q:α)=>R q/\∀ j x,(f q)[j]?=some x->W.cell? ((a.add (i.val*sz)).add j)=some x) (fun i=>hq i.val i.isLt)
   obtain ⟨g,hg⟩:=this
   refine ⟨List.ofFn g,by simp,fun i hil=>?_⟩
   simp only [List.getElem_ofFn]
   exact hg ⟨i,by simpa using hil⟩
  obtain ⟨l,hll,hlc⟩:=hcho
  refine ⟨l,some a,cap,by rw [hll],by omega,by omega,?_,⟨rows_len hf l,fun hn=>?_⟩,fun q hqm=>?_⟩
  .rw [hll]
   exact hlen
  .have h00:∃ x0,(f l[0])[0]?=some x0:=⟨_,List.getElem?_eq_getElem (by rw [hf];exact hz)⟩
   obtain ⟨x0,h00⟩:=h00
   obtain ⟨ea,hlt⟩:=cell_addr ((hlc 0 hn).2 0 _ h00)
   have e00:(a.add (0*sz)).add 0=a:=by rw [Nat.zero_mul];unfold Addr.add;simp
   rw [e00] at ea hlt
   refine ⟨a.block,a.off,by rw [<-ea],hlt,fun j x hj=>?_⟩
   have hj3:j<l.length*sz:=by
    have:=(List.getElem?_eq_some_iff.1 hj).1
    rw [rows_len hf] at this
    exact this
   have hi':j / sz<l.length:=(Nat.div_lt_iff_lt_mul hz).2 hj3
   have hr':=rows_at hf hi' (j:=j % sz) (Nat.mod_lt _ hz)
   rw [Nat.div_add_mod' j sz,hj] at hr'
   have:=(hlc (j / sz) hi').2 (j % sz) x hr'.symm
   rw [<-this]
   congr 1
   rw [ea]
   have hdm:=Nat.div_add_mod' j sz
   unfold Addr.add
   by_cases e1:j / sz*sz=0 <;> by_cases e2:j % sz=0 <;> simp [e1,e2] <;> omega
  .obtain ⟨i,hi',rfl⟩:=List.getElem_of_mem hqm
   exact (hlc i hi').1
theorem trod_strQ (C:Clo (H:=H) Q N) {t:TypeId} {n:Nat} {sp:Nat->Bool} {hd:Bool} {u:Value} {d:DataW H} {p:List MemPlace} (hu:Tryz.prog.underlying t=some .string) (h:DataW.trod enc Tryz.prog W 0 sp hd n t [u]=some (d,p)) (hr:Q t d):∃ s:T,u=.string (str s)/\s.length<=N:=by
 obtain ⟨s,hz,hx,_⟩:=DataW.trod_string hu h
 injection hz with hz _
 injection hx with hx _
 rw [hx] at hr
 exact ⟨s.data.toList,hz,C.str hr⟩
structure ParN (N:Nat) (p:Par):Prop where
 n:p.name.length<=N
 v:p.value.length<=N
structure UrN (N:Nat) (u:Uri):Prop where
 scheme:u.scheme.length<=N
 user:u.user.length<=N
 host:u.host.length<=N
 port:-9223372036854775808<=u.port/\u.port<=9223372036854775807
 params:u.params.length<=N
 headers:u.headers.length<=N
 par:∀ p∈u.params,ParN N p
 hdr:∀ p∈u.headers,ParN N p
structure AdN (N:Nat) (a:AddrP):Prop where
 d:a.display.length<=N
 u:UrN N a.uri
 l:a.params.length<=N
 p:∀ q∈a.params,ParN N q
structure EvN (N:Nat) (e:EvP):Prop where
 n:e.name.length<=N
 l:e.params.length<=N
 p:∀ q∈e.params,ParN N q
structure RqN (N:Nat) (r:ReqP):Prop where
 from_:AdN N r.from_
 to_:AdN N r.to_
 ev:EvN N r.ev
 co:∀ a∈r.contact,AdN N a
 ftag:r.ftag.length<=N
 ttag:r.ttag.length<=N
 callid:r.callid.length<=N
 ro:r.routes.length<=N
 rt:∀ t∈r.routes,t.length<=N
 cn:r.contact.length<=N
theorem kO9:Tryz.prog.cellsOf 9=1:=by kernel_rfl
theorem kO4:Tryz.prog.cellsOf 4=1:=by kernel_rfl
theorem kO3:Tryz.prog.cellsOf 3=1:=by kernel_rfl
theorem kO32:Tryz.prog.cellsOf 32=6:=by kernel_rfl
theorem kO34:Tryz.prog.cellsOf 34=8:=by kernel_rfl
theorem kO30:Tryz.prog.cellsOf 30=2:=by kernel_rfl
theorem kO45:Tryz.prog.cellsOf 45=38:=by kernel_rfl
theorem kO28:Tryz.prog.cellsOf 28=1:=by kernel_rfl
theorem kO35:Tryz.prog.cellsOf 35=1:=by kernel_rfl
theorem kO43:Tryz.prog.cellsOf 43=1:=by kernel_rfl
theorem kO95:Tryz.prog.cellsOf 95=3:=by kernel_rfl
theorem kO67:Tryz.prog.cellsOf 67=43:=by kernel_rfl
theorem yO95:0<Tryz.prog.bytesOf 95:=by show 0<Tryz.prog.bytesOf 95;exact of_decide_eq_true (by kernel_rfl)
theorem yO34:0<Tryz.prog.bytesOf 34:=by show 0<Tryz.prog.bytesOf 34;exact of_decide_eq_true (by kernel_rfl)
theorem yO9:0<Tryz.prog.bytesOf 9:=by show 0<Tryz.prog.bytesOf 9;exact of_decide_eq_true (by kernel_rfl)
theorem yO67:0<Tryz.prog.bytesOf 67:=by show 0<Tryz.prog.bytesOf 67;exact of_decide_eq_true (by kernel_rfl)
theorem trod_parQ (C:Clo (H:=H) Q N) {n:Nat} {cs:List Value} {d:DataW H} {p:List MemPlace} (h:DataW.trod enc Tryz.prog W 0 (fun _=>true) true n 95 cs=some (d,p)) (hr:Q 95 d):∃ q:Par,cs=parC q/\ParN N q:=by
 have hl:=trod_len Tryz.underlying95 h kO95
 obtain ⟨c0,r0,rfl,g0⟩:=uncons hl
 obtain ⟨c1,r1,rfl,g1⟩:=uncons g0
 obtain ⟨c2,r2,rfl,g2⟩:=uncons g1
 obtain rfl:=unnil g2
 obtain ⟨m0,d0,p0,q0,h0⟩:=trod_fldQ C Tryz.underlying95 h hr (j:=0) (ty:=9) (o:=0) (by kernel_rfl) kO9
 obtain ⟨m1,d1,p1,q1,h1⟩:=trod_fldQ C Tryz.underlying95 h hr (j:=1) (ty:=9) (o:=1) (by kernel_rfl) kO9
 obtain ⟨m2,d2,p2,q2,h2⟩:=trod_fldQ C Tryz.underlying95 h hr (j:=2) (ty:=4) (o:=2) (by kernel_rfl) kO4
 obtain ⟨s0,rfl,l0⟩:=trod_strQ C Tryz.underlying9 h0 q0
 obtain ⟨s1,rfl,l1⟩:=trod_strQ C Tryz.underlying9 h1 q1
 obtain ⟨b2,rfl⟩:=trod_b Tryz.underlying4 h2
 exact ⟨⟨s0,s1,b2⟩,rfl,l0,l1⟩
theorem trod_uriQ (C:Clo (H:=H) Q N) {n:Nat} {cs:List Value} {d:DataW H} {p:List MemPlace} (h:DataW.trod enc Tryz.prog W 0 (fun _=>true) true n 32 cs=some (d,p)) (hr:Q 32 d):∃ (u:Uri) (vp vh:Value),cs=[.string (str u.scheme),.string (str u.user),.string (str u.host),.int .i64 u.port,vp,vh]/\PrB W W.heap.size u.params vp/\PrB W W.heap.size u.headers vh/\UrN N u:=by
 have hl:=trod_len Tryz.underlying32 h kO32
 obtain ⟨c0,r0,rfl,g0⟩:=uncons hl
 obtain ⟨c1,r1,rfl,g1⟩:=uncons g0
 obtain ⟨c2,r2,rfl,g2⟩:=uncons g1
 obtain ⟨c3,r3,rfl,g3⟩:=uncons g2
 obtain ⟨c4,r4,rfl,g4⟩:=uncons g3
 obtain ⟨c5,r5,rfl,g5⟩:=uncons g4
 obtain rfl:=unnil g5
 obtain ⟨m0,d0,p0,q0,h0⟩:=trod_fldQ C Tryz.underlying32 h hr (j:=0) (ty:=9) (o:=0) (by kernel_rfl) kO9
 obtain ⟨m1,d1,p1,q1,h1⟩:=trod_fldQ C Tryz.underlying32 h hr (j:=1) (ty:=9) (o:=1) (by kernel_rfl) kO9
 obtain ⟨m2,d2,p2,q2,h2⟩:=trod_fldQ C Tryz.underlying32 h hr (j:=2) (ty:=9) (o:=2) (by kernel_rfl) kO9
 obtain ⟨m3,d3,p3,q3,h3⟩:=trod_fldQ C Tryz.underlying32 h hr (j:=3) (ty:=3) (o:=3) (by kernel_rfl) kO3
 obtain ⟨m4,d4,p4,q4,h4⟩:=trod_fldQ C Tryz.underlying32 h hr (j:=4) (ty:=28) (o:=4) (by kernel_rfl) kO28
 obtain ⟨m5,d5,p5,q5,h5⟩:=trod_fldQ C Tryz.underlying32 h hr (j:=5) (ty:=28) (o:=5) (by kernel_rfl) kO28
 obtain ⟨s0,rfl,l0⟩:=trod_strQ C Tryz.underlying9 h0 q0
 obtain ⟨s1,rfl,l1⟩:=trod_strQ C Tryz.underlying9 h1 q1
 obtain ⟨s2,rfl,l2⟩:=trod_strQ C Tryz.underlying9 h2 q2
 obtain ⟨z3,rfl,l3,l3'⟩:=trod_i64 Tryz.underlying3 h3
 obtain ⟨x4,A4,k4,rfl,a4,b4,n4,y4,f4⟩:=trod_slcQ C (f:=parC) (R:=ParN N) Tryz.underlying28 kO95 (by omega) yO95 parC_len (fun n cs d p h hr=>trod_parQ C h hr) h4 q4
 obtain ⟨x5,A5,k5,rfl,a5,b5,n5,y5,f5⟩:=trod_slcQ C (f:=parC) (R:=ParN N) Tryz.underlying28 kO95 (by omega) yO95 parC_len (fun n cs d p h hr=>trod_parQ C h hr) h5 q5
 exact ⟨⟨s0,s1,s2,z3,x4,x5⟩,_,_,rfl,⟨A4,k4,rfl,a4,b4,y4⟩,⟨A5,k5,rfl,a5,b5,y5⟩,⟨l0,l1,l2,⟨l3,l3'⟩,n4,n5,f4,f5⟩⟩
theorem trod_adrQ (C:Clo (H:=H) Q N) {n:Nat} {cs:List Value} {d:DataW H} {p:List MemPlace} (h:DataW.trod enc Tryz.prog W 0 (fun _=>true) true n 34 cs=some (d,p)) (hr:Q 34 d):∃ (a:AddrP) (vp vh va:Value),cs=(addrA a vp vh va).toList/\AdB W W.heap.size a vp vh va/\AdN N a:=by
 have hl:=trod_len Tryz.underlying34 h kO34
 obtain ⟨c0,r0,rfl,g0⟩:=uncons hl
 obtain ⟨c1,r1,rfl,g1⟩:=uncons g0
 obtain ⟨c2,r2,rfl,g2⟩:=uncons g1
 obtain ⟨c3,r3,rfl,g3⟩:=uncons g2
 obtain ⟨c4,r4,rfl,g4⟩:=uncons g3
 obtain ⟨c5,r5,rfl,g5⟩:=uncons g4
 obtain ⟨c6,r6,rfl,g6⟩:=uncons g5
 obtain ⟨c7,r7,rfl,g7⟩:=uncons g6
 obtain rfl:=unnil g7
 obtain ⟨m0,d0,p0,q0,h0⟩:=trod_fldQ C Tryz.underlying34 h hr (j:=0) (ty:=9) (o:=0) (by kernel_rfl) kO9
 obtain ⟨m1,d1,p1,q1,h1⟩:=trod_fldQ C Tryz.underlying34 h hr (j:=1) (ty:=32) (o:=1) (by kernel_rfl) kO32
 simp only [List.drop_succ_cons,List.drop_zero,List.take_succ_cons,List.take_zero] at h1
 obtain ⟨m2,d2,p2,q2,h2⟩:=trod_fldQ C Tryz.underlying34 h hr (j:=2) (ty:=28) (o:=7) (by kernel_rfl) kO28
 obtain ⟨s0,rfl,l0⟩:=trod_strQ C Tryz.underlying9 h0 q0
 obtain ⟨x2,A2,k2,rfl,a2,b2,n2,y2,f2⟩:=trod_slcQ C (f:=parC) (R:=ParN N) Tryz.underlying28 kO95 (by omega) yO95 parC_len (fun n cs d p h hr=>trod_parQ C h hr) h2 q2
 obtain ⟨u,vp,vh,e1,hp,hh,hu⟩:=trod_uriQ C h1 q1
 simp only [List.cons.injEq,and_true] at e1
 obtain ⟨rfl,rfl,rfl,rfl,rfl,rfl⟩:=e1
 exact ⟨⟨s0,u,x2⟩,_,_,_,rfl,⟨hp,hh,⟨A2,k2,rfl,a2,b2,y2⟩⟩,⟨l0,hu,n2,f2⟩⟩
theorem trod_evQ (C:Clo (H:=H) Q N) {n:Nat} {cs:List Value} {d:DataW H} {p:List MemPlace} (h:DataW.trod enc Tryz.prog W 0 (fun _=>true) true n 30 cs=some (d,p)) (hr:Q 30 d):∃ (e:EvP) (v:Value),cs=[.string (str e.name),v]/\PrB W W.heap.size e.params v/\EvN N e:=by
 have hl:=trod_len Tryz.underlying30 h kO30
 obtain ⟨c0,r0,rfl,g0⟩:=uncons hl
 obtain ⟨c1,r1,rfl,g1⟩:=uncons g0
 obtain rfl:=unnil g1
 obtain ⟨m0,d0,p0,q0,h0⟩:=trod_fldQ C Tryz.underlying30 h hr (j:=0) (ty:=9) (o:=0) (by kernel_rfl) kO9
 obtain ⟨m1,d1,p1,q1,h1⟩:=trod_fldQ C Tryz.underlying30 h hr (j:=1) (ty:=28) (o:=1) (by kernel_rfl) kO28
 obtain ⟨s0,rfl,l0⟩:=trod_strQ C Tryz.underlying9 h0 q0
 obtain ⟨x1,A1,k1,rfl,a1,b1,n1,y1,f1⟩:=trod_slcQ C (f:=parC) (R:=ParN N) Tryz.underlying28 kO95 (by omega) yO95 parC_len (fun n cs d p h hr=>trod_parQ C h hr) h1 q1
 exact ⟨⟨s0,x1⟩,_,rfl,⟨A1,k1,rfl,a1,b1,y1⟩,⟨l0,n1,f1⟩⟩
theorem trod_noteQ (C:Clo (H:=H) Q N) {n:Nat} {cs:List Value} {d:DataW H} {p:List MemPlace} (h:DataW.trod enc Tryz.prog W 0 (fun _=>true) true n 9 cs=some (d,p)) (hr:Q 9 d):∃ s:T,cs=noteC s/\s.length<=N:=by
 have hl:cs.length=1:=by
  obtain ⟨s,hz,_⟩:=DataW.trod_string Tryz.underlying9 h
  rw [hz];rfl
 obtain ⟨c,r,rfl,hl9⟩:=uncons hl
 obtain rfl:=unnil hl9
 obtain ⟨s,rfl,hs⟩:=trod_strQ C Tryz.underlying9 h hr
 exact ⟨s,rfl,hs⟩
theorem PrB.one9 {w:World} {B:Nat} {l:List Par} {v:Value} (h:PrB w B l v):v.oneCell'=true:=by
 obtain ⟨A,c,rfl,_⟩:=h
 rfl
theorem reqA_one {r:ReqP} {v:RqV} (h1:v.tp.oneCell'=true) (h2:v.th.oneCell'=true) (h3:v.fp.oneCell'=true) (h4:v.fh.oneCell'=true) (h5:v.fa.oneCell'=true) (h6:v.op.oneCell'=true) (h7:v.oh.oneCell'=true) (h8:v.oa.oneCell'=true) (h9:v.ev.oneCell'=true) (ha:v.co.oneCell'=true) (hb:v.ro.oneCell'=true) (hc:v.ac.oneCell'=true):(reqA r v).all (·.oneCell')=true:=by
 have e1:∀ s,(Value.string s).oneCell'=true:=fun _=>rfl
 have e2:∀ k n,(Value.int k n).oneCell'=true:=fun _ _=>rfl
 simp [reqA,e1,e2,h1,h2,h3,h4,h5,h6,h7,h8,h9,ha,hb,hc]
theorem trod_reqQ (C:Clo (H:=H) Q N) {n:Nat} {cs:List Value} {d:DataW H} {p:List MemPlace} (h:DataW.trod enc Tryz.prog W 0 (fun _=>true) true n 45 cs=some (d,p)) (hr:Q 45 d):∃ (r:ReqP) (v:RqV),cs=(reqA r v).toList/\ReqB W W.heap.size r v/\RqN N r/\(reqA r v).all (·.oneCell')=true:=by
 have hl:=trod_len Tryz.underlying45 h kO45
 obtain ⟨c0,r0,rfl,g0⟩:=uncons hl
 obtain ⟨c1,r1,rfl,g1⟩:=uncons g0
 obtain ⟨c2,r2,rfl,g2⟩:=uncons g1
 obtain ⟨c3,r3,rfl,g3⟩:=uncons g2
 obtain ⟨c4,r4,rfl,g4⟩:=uncons g3
 obtain ⟨c5,r5,rfl,g5⟩:=uncons g4
 obtain ⟨c6,r6,rfl,g6⟩:=uncons g5
 obtain ⟨c7,r7,rfl,g7⟩:=uncons g6
 obtain ⟨c8,r8,rfl,g8⟩:=uncons g7
 obtain ⟨c9,r9,rfl,g9⟩:=uncons g8
 obtain ⟨c10,r10,rfl,g10⟩:=uncons g9
 obtain ⟨c11,r11,rfl,g11⟩:=uncons g10
 obtain ⟨c12,r12,rfl,g12⟩:=uncons g11
 obtain ⟨c13,r13,rfl,g13⟩:=uncons g12
 obtain ⟨c14,r14,rfl,g14⟩:=uncons g13
 obtain ⟨c15,r15,rfl,g15⟩:=uncons g14
 obtain ⟨c16,r16,rfl,g16⟩:=uncons g15
 obtain ⟨c17,r17,rfl,g17⟩:=uncons g16
 obtain ⟨c18,r18,rfl,g18⟩:=uncons g17
 obtain ⟨c19,r19,rfl,g19⟩:=uncons g18
 obtain ⟨c20,r20,rfl,g20⟩:=uncons g19
 obtain ⟨c21,r21,rfl,g21⟩:=uncons g20
 obtain ⟨c22,r22,rfl,g22⟩:=uncons g21
 obtain ⟨c23,r23,rfl,g23⟩:=uncons g22
 obtain ⟨c24,r24,rfl,g24⟩:=uncons g23
 obtain ⟨c25,r25,rfl,g25⟩:=uncons g24
 obtain ⟨c26,r26,rfl,g26⟩:=uncons g25
 obtain ⟨c27,r27,rfl,g27⟩:=uncons g26
 obtain ⟨c28,r28,rfl,g28⟩:=uncons g27
 obtain ⟨c29,r29,rfl,g29⟩:=uncons g28
 obtain ⟨c30,r30,rfl,g30⟩:=uncons g29
 obtain ⟨c31,r31,rfl,g31⟩:=uncons g30
 obtain ⟨c32,r32,rfl,g32⟩:=uncons g31
 obtain ⟨c33,r33,rfl,g33⟩:=uncons g32
 obtain ⟨c34,r34,rfl,g34⟩:=uncons g33
 obtain ⟨c35,r35,rfl,g35⟩:=uncons g34
 obtain ⟨c36,r36,rfl,g36⟩:=uncons g35
 obtain ⟨c37,r37,rfl,g37⟩:=uncons g36
 obtain rfl:=unnil g37
 obtain ⟨m0,d0,p0,q0,h0⟩:=trod_fldQ C Tryz.underlying45 h hr (j:=0) (ty:=9) (o:=0) (by kernel_rfl) kO9
 obtain ⟨m1,d1,p1,q1,h1⟩:=trod_fldQ C Tryz.underlying45 h hr (j:=1) (ty:=32) (o:=1) (by kernel_rfl) kO32
 simp only [List.drop_succ_cons,List.drop_zero,List.take_succ_cons,List.take_zero] at h1
 obtain ⟨m2,d2,p2,q2,h2⟩:=trod_fldQ C Tryz.underlying45 h hr (j:=2) (ty:=9) (o:=7) (by kernel_rfl) kO9
 obtain ⟨m3,d3,p3,q3,h3⟩:=trod_fldQ C Tryz.underlying45 h hr (j:=3) (ty:=9) (o:=8) (by kernel_rfl) kO9
 obtain ⟨m4,d4,p4,q4,h4⟩:=trod_fldQ C Tryz.underlying45 h hr (j:=4) (ty:=34) (o:=9) (by kernel_rfl) kO34
 simp only [List.drop_succ_cons,List.drop_zero,List.take_succ_cons,List.take_zero] at h4
 obtain ⟨m5,d5,p5,q5,h5⟩:=trod_fldQ C Tryz.underlying45 h hr (j:=5) (ty:=34) (o:=17) (by kernel_rfl) kO34
 simp only [List.drop_succ_cons,List.drop_zero,List.take_succ_cons,List.take_zero] at h5
 obtain ⟨m6,d6,p6,q6,h6⟩:=trod_fldQ C Tryz.underlying45 h hr (j:=6) (ty:=9) (o:=25) (by kernel_rfl) kO9
 obtain ⟨m7,d7,p7,q7,h7⟩:=trod_fldQ C Tryz.underlying45 h hr (j:=7) (ty:=9) (o:=26) (by kernel_rfl) kO9
 obtain ⟨m8,d8,p8,q8,h8⟩:=trod_fldQ C Tryz.underlying45 h hr (j:=8) (ty:=9) (o:=27) (by kernel_rfl) kO9
 obtain ⟨m9,d9,p9,q9,h9⟩:=trod_fldQ C Tryz.underlying45 h hr (j:=9) (ty:=3) (o:=28) (by kernel_rfl) kO3
 obtain ⟨m10,d10,p10,q10,h10⟩:=trod_fldQ C Tryz.underlying45 h hr (j:=10) (ty:=3) (o:=29) (by kernel_rfl) kO3
 obtain ⟨m11,d11,p11,q11,h11⟩:=trod_fldQ C Tryz.underlying45 h hr (j:=11) (ty:=30) (o:=30) (by kernel_rfl) kO30
 simp only [List.drop_succ_cons,List.drop_zero,List.take_succ_cons,List.take_zero] at h11
 obtain ⟨m12,d12,p12,q12,h12⟩:=trod_fldQ C Tryz.underlying45 h hr (j:=12) (ty:=43) (o:=32) (by kernel_rfl) kO43
 obtain ⟨m13,d13,p13,q13,h13⟩:=trod_fldQ C Tryz.underlying45 h hr (j:=13) (ty:=35) (o:=33) (by kernel_rfl) kO35
 obtain ⟨m14,d14,p14,q14,h14⟩:=trod_fldQ C Tryz.underlying45 h hr (j:=14) (ty:=35) (o:=34) (by kernel_rfl) kO35
 obtain ⟨m15,d15,p15,q15,h15⟩:=trod_fldQ C Tryz.underlying45 h hr (j:=15) (ty:=9) (o:=35) (by kernel_rfl) kO9
 obtain ⟨m16,d16,p16,q16,h16⟩:=trod_fldQ C Tryz.underlying45 h hr (j:=16) (ty:=9) (o:=36) (by kernel_rfl) kO9
 obtain ⟨m17,d17,p17,q17,h17⟩:=trod_fldQ C Tryz.underlying45 h hr (j:=17) (ty:=9) (o:=37) (by kernel_rfl) kO9
 obtain ⟨s0,rfl,l0⟩:=trod_strQ C Tryz.underlying9 h0 q0
 obtain ⟨s2,rfl,l2⟩:=trod_strQ C Tryz.underlying9 h2 q2
 obtain ⟨s3,rfl,l3⟩:=trod_strQ C Tryz.underlying9 h3 q3
 obtain ⟨s6,rfl,l6⟩:=trod_strQ C Tryz.underlying9 h6 q6
 obtain ⟨s7,rfl,l7⟩:=trod_strQ C Tryz.underlying9 h7 q7
 obtain ⟨s8,rfl,l8⟩:=trod_strQ C Tryz.underlying9 h8 q8
 obtain ⟨z9,rfl,l9,l9'⟩:=trod_i64 Tryz.underlying3 h9
 obtain ⟨z10,rfl,l10,l10'⟩:=trod_i64 Tryz.underlying3 h10
 obtain ⟨s15,rfl,l15⟩:=trod_strQ C Tryz.underlying9 h15 q15
 obtain ⟨s16,rfl,l16⟩:=trod_strQ C Tryz.underlying9 h16 q16
 obtain ⟨s17,rfl,l17⟩:=trod_strQ C Tryz.underlying9 h17 q17
 obtain ⟨ut,tp,th,e1,htp,hth,hu1⟩:=trod_uriQ C h1 q1
 obtain ⟨fa,fp,fh,fv,e4,hb4,hn4⟩:=trod_adrQ C h4 q4
 obtain ⟨ta,op,oh,ov,e5,hb5,hn5⟩:=trod_adrQ C h5 q5
 obtain ⟨ev,vv,e11,hb11,hn11⟩:=trod_evQ C h11 q11
 obtain ⟨xs,A12,k12,e12,a12,b12,n12,y12,f12⟩:=trod_slcQ C (f:=cxC) (R:=fun x=>PrB W W.heap.size x.a.uri.params x.vp/\PrB W W.heap.size x.a.uri.headers x.vh/\AdN N x.a) Tryz.underlying43 kO34 (by omega) yO34 cxC_len (fun n cs d p h hr=>by
  obtain ⟨a,vp,vh,va,e,hb,hn⟩:=trod_adrQ C h hr
  exact ⟨⟨a,vp,vh,va⟩,e,hb.p,hb.h,hn⟩) h12 q12
 obtain ⟨ro,A13,k13,e13,a13,b13,n13,y13,f13⟩:=trod_slcQ C (f:=noteC) (R:=fun s=>s.length<=N) Tryz.underlying35 kO9 (by omega) yO9 (fun _=>rfl) (fun n cs d p h hr=>trod_noteQ C h hr) h13 q13
 obtain ⟨ac,A14,k14,e14,_⟩:=trod_slcQ C (f:=noteC) (R:=fun s=>s.length<=N) Tryz.underlying35 kO9 (by omega) yO9 (fun _=>rfl) (fun n cs d p h hr=>trod_noteQ C h hr) h14 q14
 simp only [List.cons.injEq,and_true] at e1 e11
 obtain ⟨rfl,rfl,rfl,rfl,rfl,rfl⟩:=e1
 obtain ⟨rfl,rfl⟩:=e11
 unfold addrA at e4 e5
 simp only [List.cons.injEq,and_true] at e4 e5
 obtain ⟨rfl,rfl,rfl,rfl,rfl,rfl,rfl,rfl⟩:=e4
 obtain ⟨rfl,rfl,rfl,rfl,rfl,rfl,rfl,rfl⟩:=e5
 subst e12 e13 e14
 refine ⟨⟨s0,ut,s2,s3,fa,ta,s6,s7,s8,z9,z10,ev,xs.map (·.a),ro,ac,s15,s16,s17⟩,⟨_,_,_,_,_,_,_,_,_,.slice A12 xs.length k12,.slice A13 ro.length k13,.slice A14 ac.length k14⟩,rfl,⟨hb4,hb5,hb11,⟨xs,rfl,⟨A12,k12,rfl,a12,b12,y12⟩,fun x hx=>⟨(f12 x hx).1,(f12 x hx).2.1⟩⟩,⟨A13,k13,rfl,a13,b13,y13⟩⟩,⟨hn4,hn5,hn11,fun a ha=>?_,l6,l7,l8,n13,f13,by rw [List.length_map];exact n12⟩,reqA_one htp.one9 hth.one9 hb4.p.one9 hb4.h.one9 hb4.a.one9 hb5.p.one9 hb5.h.one9 hb5.a.one9 hb11.one9 rfl rfl rfl⟩
 obtain ⟨x,hx,rfl⟩:=List.mem_map.1 ha
 exact (f12 x hx).2.2
structure ActY where
 a:ActN
 v:RqV
def actC19 (x:ActY):List Value:=(actN x.a x.v).toList
structure ActR19 (W:World) (B N:Nat) (x:ActY):Prop where
 r:ReqB W B x.a.r x.v
 n:RqN N x.a.r
 t:x.a.text.length<=N
 one:(actN x.a x.v).all (·.oneCell')=true
theorem actN_one {a:ActN} {v:RqV} (h:(reqA a.r v).all (·.oneCell')=true):(actN a v).all (·.oneCell')=true:=by
 have e1:∀ s,(Value.string s).oneCell'=true:=fun _=>rfl
 have e2:∀ k n,(Value.int k n).oneCell'=true:=fun _ _=>rfl
 simp [reqA,e1,e2] at h
 simp [actN,e1,e2,h]
theorem trod_actQ (C:Clo (H:=H) Q N) {n:Nat} {cs:List Value} {d:DataW H} {p:List MemPlace} (h:DataW.trod enc Tryz.prog W 0 (fun _=>true) true n 67 cs=some (d,p)) (hr:Q 67 d):∃ x:ActY,cs=actC19 x/\ActR19 W W.heap.size N x:=by
 have hl:=trod_len Tryz.underlying67 h kO67
 obtain ⟨c0,r0,rfl,g0⟩:=uncons hl
 obtain ⟨c1,r1,rfl,g1⟩:=uncons g0
 obtain ⟨c2,r2,rfl,g2⟩:=uncons g1
 obtain ⟨c3,r3,rfl,g3⟩:=uncons g2
 obtain ⟨c4,r4,rfl,g4⟩:=uncons g3
 obtain ⟨m0,d0,p0,q0,h0⟩:=trod_fldQ C Tryz.underlying67 h hr (j:=0) (ty:=3) (o:=0) (by kernel_rfl) kO3
 obtain ⟨m1,d1,p1,q1,h1⟩:=trod_fldQ C Tryz.underlying67 h hr (j:=1) (ty:=3) (o:=1) (by kernel_rfl) kO3
 obtain ⟨m2,d2,p2,q2,h2⟩:=trod_fldQ C Tryz.underlying67 h hr (j:=2) (ty:=3) (o:=2) (by kernel_rfl) kO3
 obtain ⟨m3,d3,p3,q3,h3⟩:=trod_fldQ C Tryz.underlying67 h hr (j:=3) (ty:=3) (o:=3) (by kernel_rfl) kO3
 obtain ⟨m4,d4,p4,q4,h4⟩:=trod_fldQ C Tryz.underlying67 h hr (j:=4) (ty:=9) (o:=4) (by kernel_rfl) kO9
 obtain ⟨m5,d5,p5,q5,h5⟩:=trod_fldQ C Tryz.underlying67 h hr (j:=5) (ty:=45) (o:=5) (by kernel_rfl) kO45
 obtain ⟨z0,rfl,l0,l0'⟩:=trod_i64 Tryz.underlying3 h0
 obtain ⟨z1,rfl,l1,l1'⟩:=trod_i64 Tryz.underlying3 h1
 obtain ⟨z2,rfl,l2,l2'⟩:=trod_i64 Tryz.underlying3 h2
 obtain ⟨z3,rfl,l3,l3'⟩:=trod_i64 Tryz.underlying3 h3
 obtain ⟨s4,rfl,l4⟩:=trod_strQ C Tryz.underlying9 h4 q4
 have e5:((Value.int .i64 z0::Value.int .i64 z1::Value.int .i64 z2::Value.int .i64 z3::Value.string (str s4)::r4).drop 5).take 38=r4:=by
  simp only [List.drop_succ_cons,List.drop_zero]
  exact List.take_of_length_le (by omega)
 rw [e5] at h5
 obtain ⟨r,v,rfl,hb,hn,ho⟩:=trod_reqQ C h5 q5
 exact ⟨⟨⟨z0,z1,z2,z3,s4,r⟩,v⟩,rfl,hb,hn,l4,actN_one ho⟩
theorem actC19_len (x:ActY):(actC19 x).length=43:=rfl
theorem arg_acts19 (C:Clo (H:=H) Q N) {base:Nat} {v:Value} {d:DataW H} {p:List MemPlace} (hv:Value.okWide Tryz.prog W .any base 64 v) (h:DataW.Trod enc Tryz.prog W 0 (fun _=>true) true 64 v d p) (hr:Q 64 d) :
 ∃ (l:List ActY) (A:Option Addr) (c:Nat),v=.slice A l.length c/\l.length<=c/\c<=maxLen/\l.length<=N/\RdB W W.heap.size 43 l.length A (rows actC19 l)/\∀ x∈l,ActR19 W W.heap.size N x:=by
 obtain ⟨a0,len0,cap0,rfl⟩:=okWide_slice Tryz.underlying64 hv
 obtain ⟨n,hf⟩:=h
 exact trod_slcQ C (f:=actC19) (R:=ActR19 W W.heap.size N) Tryz.underlying64 kO67 (by omega) yO67 actC19_len (fun n cs d p h hr=>trod_actQ C h hr) hf hr
end
end Go.Proofs.YthkadehlclcggaaGreatDoor
namespace Go.Proofs.YthkadehlclcggaaGreatDoor
set_option linter.unusedSimpArgs false
set_option linter.unusedVariables false
open Go.RowKit
section
variable {H:Type}
theorem bulk_in:∀ {l:List (DataW H)} {d:DataW H},d∈l->Rows.uptoBulk d<=Rows.uptoBulkAll l
 | a::r,d,h=>by
   simp only [Rows.uptoBulkAll]
   rcases List.mem_cons.1 h with rfl|h
   .omega
   .have:=bulk_in h;omega
theorem bulk_pos (d:DataW H):1<=Rows.uptoBulk d:=by
 cases d with
 | lit l=>cases l <;> simp [Rows.uptoBulk]
 | _=>simp [Rows.uptoBulk]
theorem bulk_cnt:∀ l:List (DataW H),l.length<=Rows.uptoBulkAll l
 | []=>by simp [Rows.uptoBulkAll]
 | a::r=>by
   simp only [Rows.uptoBulkAll,List.length_cons]
   have:=bulk_cnt r
   have:=bulk_pos a
   omega
theorem clo_bulk:Clo (H:=H) (fun _ d=>Rows.uptoBulk d<=1048576) 1048576 where
 part:=fun {t fs parts j f d} _ h _ hd=>by
  simp only [Rows.uptoBulk] at h
  have:=bulk_in (List.mem_of_getElem? hd)
  omega
 elem:=fun {t e elems spare d} _ h hd=>by
  simp only [Rows.uptoBulk] at h
  have:=bulk_in hd
  omega
 str:=fun {t bytes} h=>by
  simp only [Rows.uptoBulk] at h
  omega
 len:=fun {t e elems spare} _ _ h=>by
  simp only [Rows.uptoBulk] at h
  have:=bulk_cnt elems
  omega
theorem bulk_of {ds:List (DataW H)} (hk:Rows.uptoSmall H ds=true) {d:DataW H} (h:d∈ds):Rows.uptoBulk d<=1048576:=Nat.le_trans (bulk_in h) (of_decide_eq_true hk)
end
abbrev BigN:Nat:=1048576
theorem ParN.z {p:Par} (h:ParN BigN p):ParZ p:=⟨Nat.le_trans h.n (by decide),Nat.le_trans h.v (by decide)⟩
theorem ParN.s {p:Par} (h:ParN BigN p):parS p:=⟨Nat.le_trans h.n (by decide),Nat.le_trans h.v (by decide)⟩
theorem UrN.s {u:Uri} (h:UrN BigN u):UriS u:=⟨Nat.le_trans h.scheme (by decide),Nat.le_trans h.user (by decide),Nat.le_trans h.host (by decide),h.port,Nat.le_trans h.params (by decide),Nat.le_trans h.headers (by decide),fun p hp=>(h.par p hp).s,fun p hp=>(h.hdr p hp).s⟩
theorem AdN.l9 {a:AddrP} (h:AdN BigN a):AdL a:=⟨Nat.le_trans h.u.params (by decide),Nat.le_trans h.u.headers (by decide),Nat.le_trans h.l (by decide)⟩
theorem RqN.rz {r:ReqP} (h:RqN BigN r):ReqZ r :=
 ⟨h.from_.l9,h.to_.l9,⟨Nat.le_trans h.to_.d (by decide),h.to_.u.s,fun q hq=>(h.to_.p q hq).z⟩,Nat.le_trans h.ev.l (by decide),fun a ha=>⟨Nat.le_trans (h.co a ha).u.params (by decide),Nat.le_trans (h.co a ha).u.headers (by decide)⟩,Nat.le_trans h.ro (by decide),fun p hp=>(h.from_.p p hp).s,fun p hp=>(h.ev.p p hp).s⟩
theorem few_n {w:World} {B:Nat} {r:ReqP} {q:RqV} (hB:B<=w.heap.size) (hr:ReqB w B r q) (hn:RqN BigN r):Calls Tryz.prog 22 #[.agg (reqA r q)] w fun e w'=>e=.returned (.bool (fewB r))/\Below w.heap.size w w' :=
 few_any (N:=BigN) hB hr hn.ro hn.ev.l hn.from_.l hn.to_.l hn.to_.u.params hn.to_.u.headers hn.cn (fun a ha=>(hn.co a ha).u.params) (Nat.le_refl _)
theorem act_range {W:World} {B:Nat} {A:Option Addr} {l:List ActY} (h:RdB W B 43 l.length A (rows actC19 l)) {i:Nat} (hi:i<l.length):∃ gb off,A=some ⟨gb,off,none⟩/\gb<B/\W.rangeAt gb (off+i*43) (actN l[i].a l[i].v).toList:=by
 obtain ⟨gb,off,e,hlt,hc⟩:=h.2 (by omega)
 refine ⟨gb,off,e,hlt,fun j v hj=>?_⟩
 have hj9:j<43:=(List.getElem?_eq_some_iff.1 hj).1
 have hr:=rows_at (l:=l) actC19_len hi (j:=j) hj9
 rw [Nat.add_assoc]
 exact hc _ _ (hr.trans hj)
theorem does_new {X0:Nat->Prop} {w wr wb:World} {p g:Nat} {c:Conf} {last:Int} {L:List SubP} {x:ActY} (hT:TbX X0 wr p c last L) (hX0:∀ k,k<w.heap.size->X0 k) (hw:Below w.heap.size w wr) (hb:Below wr.heap.size wr wb) (hg1:wr.heap.size<=g) (hk:Blk wb g 71 (rtV c 0 (.slice none 0 0))) (hx:ActR19 w w.heap.size BigN x) (hl:last<=2000000) :
 Calls Tryz.prog 23 #[.pointer (some ⟨p,0,none⟩),.pointer (some ⟨g,0,none⟩),.agg (actN x.a x.v)] wb fun e w'=>(∃ b,e=.returned (.bool b))/\TbX X0 w' p c (doS c last L x.a).last (doS c last L x.a).L/\Below w.heap.size w w'/\Fr (fun k=>¬XUp X0 wr wb k\/k=g) wb w':=by
 have hbw:Below w.heap.size w wb:=hw.trans (hb.mono hw.size)
 have H:Do9H (XUp X0 wr wb) wb p g c last 0 L [] w.heap.size (.slice none 0 0) x.a x.v :=
  ⟨hT.up hb,hk,RfL.nil _ _ _,.inr ⟨hg1,hk.lt⟩,fun k hk=>.inl (hX0 k hk),hbw.size,Nat.le_trans hw.size hg1,hx.r.below hbw,hx.n.rz,Nat.le_trans hx.t (by decide),hl,Int.le_refl _,by decide,Nat.zero_le _,by simp,by simp⟩
 refine (does9_any H).mono ?_
 rintro e w' ⟨b,X',v',rfl,_,hX,ht,_,_,hf⟩
 refine ⟨⟨b,rfl⟩,ht.less (fun k hk=>hX k (.inl hk)),hbw.trans (hf.to_below hbw.size (fun k e=>?_)),hf⟩
 rcases e with e|e
 .exact Nat.le_of_not_lt fun hk=>e (.inl (hX0 k hk))
 .rw [e];exact Nat.le_trans hw.size hg1
end Go.Proofs.YthkadehlclcggaaGreatDoor
