/- How a law's statement is closed: from a call that answers true and turns nothing that was  Arguments that are slices: what a law's walk wants of them. Arguments that are structs, or slices of structs, of one-cell fields of any kind. Arguments: structs whose fields are structs, and slices of anything, with the sizes that t -/
import Derived.Test.YthkadehlclcggaaGreatDoorRows
import Derived.Test.YthkadehlclcggaaGreatDoorGx01
import Derived.ProofKit
import Derived.OpenShut
import Derived.SizedLaws
import Derived.Test.YthkadehlclcggaaGreatDoorGx02
import Derived.Deep.Slices
import Derived.Deep.Fields
import Derived.ChangeSame
import Derived.Test.YthkadehlclcggaaGreatDoorGx17
namespace Go.Proofs.YthkadehlclcggaaGreatDoor
set_option linter.unusedSimpArgs false
set_option linter.unusedVariables false
open Go.ChangeShapes Go.WideShapes Go.ChangeAt Go.RowKit
def LawPost (w:World) (e:Ending) (w':World):Prop:=e=.returned (.bool true)/\Below w.heap.size w w'
theorem trodAll_below {H:Type} {enc:TypeId × Value->H} {P:Program} (hl:laidOutB P=true) {W W':World} (hb:Below W.heap.size W W') :
 ∀ {ts:List TypeId} {vs:List Value} {ds:List (DataW H)} {ps:List MemPlace},(∀ t∈ts,P.readableRec t=true/\t<P.types.size)->DataW.TrodAll enc P W 0 (fun _=>true) true ts vs ds ps->(∀ x∈ps,x.block<W.heap.size) ->
  DataW.TrodAll enc P W' 0 (fun b=>decide (b<W.heap.size)) true ts vs ds ps
 | [],[],[],_,_,h,_=>h
 | _::_,_::_,_::_,_,hT,⟨p,q,h1,h2,e⟩,hs =>
   ⟨p,q,Below.trod hl (hT _ (List.mem_cons.2 (Or.inl rfl))).1 (hT _ (List.mem_cons.2 (Or.inl rfl))).2 h1 hb (fun x hx=>hs x (by rw [e];exact List.mem_append_left _ hx)),
    trodAll_below hl hb (fun t ht=>hT t (List.mem_cons.2 (Or.inr ht))) h2 (fun x hx=>hs x (by rw [e];exact List.mem_append_right _ hx)),e⟩
theorem trodAll_length {H:Type} {enc:TypeId × Value->H} {P:Program} {W:World} {b:Nat} {sp:Nat->Bool} {hd:Bool} :
 ∀ {ts:List TypeId} {vs:List Value} {ds:List (DataW H)} {ps:List MemPlace},DataW.TrodAll enc P W b sp hd ts vs ds ps->ds.length=ts.length
 | [],[],[],_,_=>rfl
 | _::_,_::_,_::_,_,⟨_,_,_,h2,_⟩=>by simp [trodAll_length h2]
theorem law_post {H:Type} {enc:TypeId × Value->H} {P:Program} {f:Func} {fi:FuncId} {s:ChangeSpec} {tb:TypeId} (hl:laidOutB P=true)
 (hts:∀ t∈f.params.toList,P.readableRec t=true/\t<P.types.size) (hrt:f.resultTypes=#[tb]) (htb:P.underlying tb=some .bool) (hvars:s.vars=[])
 (hfn:∀ ds:List (DataW H),ds.length=f.params.size->s.fn H ds={ results:=[.lit (.bool true)],args:=ds })
 {W:World} {args:Array Value} {ds gs:List (DataW H)} {before:List MemPlace}
 (hW:DataW.Whole enc P f.params.toList s.vars false W args.toList ds gs before) (hcall:Calls P fi args W (LawPost W)) :
 Calls P fi args W fun e W'=>∃ v,e=.returned v/\s.post enc P f false true false false W args v W':=by
 refine hcall.mono fun e W' ⟨he,hb⟩=>⟨_,he,?_⟩
 have hlt:∀ p∈before,p.block<W.heap.size:=fun p hp=>hW.lt p hp
 obtain ⟨p,q,hA,hV,hpq,hfz,hnd⟩:=hW
 have hV':=hV
 rw [hvars] at hV'
 obtain ⟨hgs,hq⟩:=trodVars_none hV'
 subst hgs
 subst hq
 have hf:s.fn H (ds++[])={ results:=[.lit (.bool true)],args:=ds }:=by
  rw [List.append_nil]
  exact hfn ds (by rw [trodAll_length hA];simp)
 have hpb:p=before:=by rw [hpq,List.append_nil]
 refine ⟨ds,[],before,[],before,[],⟨p,[],hA,hV,hpq,hfz,hnd⟩,?_,?_,?_,hb.frame _,fun h=>by cases h⟩
 .rw [hf,hrt]
  exact trodAll_cons_mk (shut_bool htb true) trodAll_mk0
 .rw [hf]
  exact trodAll_below hl hb hts (hpb▸hA) hlt
 .rw [hvars,hf]
  rfl
theorem cell_addr {w:World} {a:Addr} {v:Value} (h:w.cell? a=some v):a=⟨a.block,a.off,none⟩/\a.block<w.heap.size:=by
 obtain ⟨b,o,s⟩:=a
 unfold World.cell? at h
 split at h
 .rename_i c _ _ hb
  refine ⟨?_,?_⟩
  .cases s with
   | none=>rfl
   | some x=>simp at h
  .rcases Nat.lt_or_ge b w.heap.size with hlt|hge
   .exact hlt
   .rw [Array.getElem?_eq_none hge] at hb;cases hb
 .cases h
section
variable {H:Type} {enc:TypeId × Value->H} {P:Program} {W:World}
theorem arg_ints {base:Nat} {t e:TypeId} {k:IntKind} (ht:P.underlying t=some (.slice e)) (he:P.underlying e=some (.int k)) (hc:P.cellsOf e=1) {v:Value} {d:DataW H} {ps:List MemPlace}
 (hv:Value.okWide P W .any base t v) (h:DataW.Trod enc P W 0 (fun _=>true) true t v d ps) :
 ∃ (A:Option Addr) (c:Nat) (zs:List Int),v=.slice A zs.length c/\zs.length<=maxLen/\RdB W W.heap.size 1 zs.length A (zs.map fun n=>.int k n)/\∀ n∈zs,(Lit.int k n).wf=true:=by
 obtain ⟨a0,len0,cap0,rfl⟩:=okWide_slice ht hv
 obtain ⟨fuel,hf⟩:=h
 rcases open_ints ht he hc hf with ⟨hcs,_⟩|⟨a,len,cap,zs,hcs,_,hl,hm,hz,_,hcell,hwz⟩
 .simp only [Value.cells] at hcs
  injection hcs with hcs _
  rw [hcs]
  exact ⟨none,0,[],rfl,by simp,⟨rfl,fun h=>absurd h (by simp)⟩,fun _ h=>by cases h⟩
 .simp only [Value.cells] at hcs
  injection hcs with hcs _
  rw [hcs]
  rw [if_pos rfl] at hz
  have hlen:(zs.take len).length=len:=by rw [List.length_take];omega
  refine ⟨some a,cap,zs.take len,by rw [hlen],by rw [hlen];omega,⟨by simp,fun hn=>?_⟩,fun n hn=>hwz n (List.mem_of_mem_take hn)⟩
  rw [hlen] at hn
  have h0:=hcell 0 (by omega)
  rw [show a.add 0=a from by unfold Addr.add;rfl] at h0
  obtain ⟨ea,hlt⟩:=cell_addr h0
  refine ⟨a.block,a.off,by rw [<-ea],hlt,fun j u hj=>?_⟩
  have hjl:j<len:=by
   have:=(List.getElem?_eq_some_iff.1 hj).1
   rw [List.length_map,hlen] at this;exact this
  have hc:=hcell j (by omega)
  have e:a.add j=⟨a.block,a.off+j,none⟩:=by
   rw [ea];unfold Addr.add;by_cases hj0:j=0 <;> simp [hj0]
  rw [e] at hc
  rw [hc]
  rw [List.getElem?_map,List.getElem?_take,if_pos hjl] at hj
  rw [<-hj]
  simp [List.getD,List.getElem?_eq_getElem (show j<zs.length by omega)]
end
end Go.Proofs.YthkadehlclcggaaGreatDoor
namespace Go.Proofs.YthkadehlclcggaaGreatDoor
set_option linter.unusedSimpArgs false
set_option linter.unusedVariables false
open Go.ChangeShapes Go.WideShapes Go.ChangeAt Go.RowKit Go.Deep
section
variable {H:Type} {enc:TypeId × Value->H} {P:Program} {W:World}
theorem fld_int {b n:Nat} {sp:Nat->Bool} {hd:Bool} {t:TypeId} {k:IntKind} {u:Value} {y:DataW H × List MemPlace} (hu:P.underlying t=some (.int k)) (h:DataW.trod enc P W b sp hd n t [u]=some y):∃ z:Int,u=.int k z/\(Lit.int k z).wf=true:=by
 obtain ⟨z,hz,_,hw⟩:=DataW.trod_int hu h
 injection hz with hz _
 exact ⟨z,hz,hw⟩
end
end Go.Proofs.YthkadehlclcggaaGreatDoor
namespace Go.Proofs.YthkadehlclcggaaGreatDoor
set_option linter.unusedSimpArgs false
set_option linter.unusedVariables false
set_option maxRecDepth 100000
open Go.ChangeShapes Go.WideShapes Go.ChangeAt Go.RowKit Go.Deep
section
variable {H:Type} {enc:TypeId × Value->H} {W:World}
theorem uncons {α:Type} {l:List α} {n:Nat} (h:l.length=n+1):∃ c r,l=c::r/\r.length=n:=by
 cases l with
 | nil=>simp at h
 | cons c r=>exact ⟨c,r,rfl,by simpa using h⟩
theorem unnil {α:Type} {l:List α} (h:l.length=0):l=[]:=List.eq_nil_of_length_eq_zero h
theorem trod_len {t:TypeId} {n k:Nat} {fs:Array Field} {sp:Nat->Bool} {hd:Bool} {cs:List Value} {d:DataW H} {p:List MemPlace} (hs:Tryz.prog.underlying t=some (.struct fs)) (h:DataW.trod enc Tryz.prog W 0 sp hd n t cs=some (d,p)) (hk:Tryz.prog.cellsOf t=k):cs.length=k:=by
 obtain ⟨xs,m,_,hx,hl,hlen,hg⟩:=DataW.trod_struct hs h
 rw [hl,hk]
theorem trod_i64 {t:TypeId} {n:Nat} {sp:Nat->Bool} {hd:Bool} {u:Value} {d:DataW H} {p:List MemPlace} (hu:Tryz.prog.underlying t=some (.int .i64)) (h:DataW.trod enc Tryz.prog W 0 sp hd n t [u]=some (d,p)):∃ z:Int,u=.int .i64 z/\-9223372036854775808<=z/\z<=9223372036854775807:=by
 obtain ⟨z,rfl,hz⟩:=fld_int hu h
 exact ⟨z,rfl,by simpa [Lit.wf,IntKind.min,IntKind.max,IntKind.signed,IntKind.bits] using hz⟩
theorem trod_b {t:TypeId} {n:Nat} {sp:Nat->Bool} {hd:Bool} {u:Value} {d:DataW H} {p:List MemPlace} (hu:Tryz.prog.underlying t=some .bool) (h:DataW.trod enc Tryz.prog W 0 sp hd n t [u]=some (d,p)):∃ z:Bool,u=.bool z:=by
 obtain ⟨z,hz,_⟩:=DataW.trod_bool hu h
 injection hz with hz _
 exact ⟨z,hz⟩
end
end Go.Proofs.YthkadehlclcggaaGreatDoor
