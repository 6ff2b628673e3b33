/- Chapter 4 in plain Lean. Chapter 20: the law of a map's key that is a struct of two strings; rules in plain Lean. A slice that reads as a list of cells; nil let in. append(out, xs...) onto a row of the call's own, the source nil, empty or not. append(out, x) as a step of a region that draws its order. Methods met through an interface value: what the program's tables answer. Slices of structs: the cells of a list of rows, one after another. -/
import Derived.Test.YthkadehlclcggaaGreatDoorGx01
import Derived.Test.YthkadehlclcggaaGreatDoorProg
import Derived.DeepKeys3
import Derived.Laws.StructEq
import Derived.Deep.RegionHeld3
namespace Go.Proofs.YthkadehlclcggaaGreatDoor
set_option linter.unusedSimpArgs false
set_option linter.unusedVariables false
open Go.RowKit
def findP (name:T):List Par->Option Par
 | []=>none
 | p::r=>if low p.name=low name then some p else findP name r
end Go.Proofs.YthkadehlclcggaaGreatDoor
namespace Go.Proofs.YthkadehlclcggaaGreatDoor
set_option linter.unusedSimpArgs false
set_option linter.unusedVariables false
set_option maxRecDepth 100000
open Go.RowKit
abbrev PK:=ByteArray × ByteArray
instance:DecidableEq PK:=inferInstance
abbrev KV:=List (PK × Value)
end Go.Proofs.YthkadehlclcggaaGreatDoor
namespace Go.Proofs.YthkadehlclcggaaGreatDoor
set_option linter.unusedSimpArgs false
set_option linter.unusedVariables false
open Go.RowKit
def Rd (w:World) (T:TypeId) (sz n:Nat) (A:Option Addr) (xs:List Value):Prop :=
 xs.length=n*sz/\(0<n->∃ (gb off:Nat) (cs:Array Value) (fr:Nat × Nat),A=some ⟨gb,off,none⟩/\w.heap[gb]?=some (.cells cs T fr)/\∀ j u,xs[j]?=some u->cs[off+j]?=some u)
section
variable {w w':World} {T:TypeId} {sz n:Nat} {A:Option Addr} {xs:List Value} {F:Nat->Prop}
theorem Rd.at_ (h:Rd w T sz n A xs) (hn:0<n):∃ gb off,A=some ⟨gb,off,none⟩/\gb<w.heap.size/\∀ j u,xs[j]?=some u->w.cell? ⟨gb,off+j,none⟩=some u:=by
 obtain ⟨gb,off,cs,fr,e,hb,hc⟩:=h.2 hn
 refine ⟨gb,off,e,?_,fun j u hj=>?_⟩
 .rcases Nat.lt_or_ge gb w.heap.size with hlt|hge
  .exact hlt
  .rw [Array.getElem?_eq_none hge] at hb;cases hb
 .rw [cell_of_row w gb (off+j) cs T fr hb];exact hc j u hj
theorem Rd.fr (h:Rd w T sz n A xs) (hf:Fr F w w') (hF:∀ gb cs fr,w.heap[gb]?=some (.cells cs T fr)->¬F gb):Rd w' T sz n A xs:=by
 refine ⟨h.1,fun hn=>?_⟩
 obtain ⟨gb,off,cs,fr,e,hb,hc⟩:=h.2 hn
 have hlt:gb<w.heap.size:=by
  rcases Nat.lt_or_ge gb w.heap.size with hlt|hge
  .exact hlt
  .rw [Array.getElem?_eq_none hge] at hb;cases hb
 exact ⟨gb,off,cs,fr,e,(hf.block gb hlt (hF gb cs fr hb)).trans hb,hc⟩
theorem Rd.below (h:Rd w T sz n A xs) (hb:Below w.heap.size w w'):Rd w' T sz n A xs:=h.fr (Fr.of_below (F:=fun _=>False) hb) (fun _ _ _ _ h=>h)
theorem Rd.nil (w:World) (T:TypeId) (sz:Nat) (A:Option Addr):Rd w T sz 0 A []:=⟨by simp,fun h=>absurd h (by omega)⟩
theorem Rd.alloc (h:Rd w T sz n A xs) (o:Obj):Rd (w.alloc o) T sz n A xs:=h.fr ((Fr.refl (fun _=>False) w).alloc o) (fun _ _ _ _ h=>h)
theorem Rd.of_own {base c:Nat} (h:w.ownsRow base T sz (.slice A n c) n xs):Rd w T sz n A xs:=by
 refine ⟨h.1,fun hn=>?_⟩
 rcases h.2 with ⟨_,h0⟩|⟨gb,cap,cur,e,_,hb,h1,_,h2,h3⟩
 .omega
 .simp only [Value.slice.injEq] at e
  refine ⟨gb,0,cur,(0,0),e.1,hb,fun j u hj=>?_⟩
  rw [<-h3,List.getElem?_take] at hj
  split at hj
  .simpa using hj
  .cases hj
def RdV (w:World) (T:TypeId) (sz n:Nat) (v:Value) (xs:List Value):Prop:=∃ A c,v=.slice A n c/\n<=c/\c<=maxLen/\Rd w T sz n A xs
theorem RdV.of_own {base:Nat} {v:Value} (h:w.ownsRow base T sz v n xs):RdV w T sz n v xs:=by
 rcases h.2 with ⟨e,h0⟩|⟨gb,cap,cur,e,_,hb,h1,h2,_⟩
 .subst h0
  exact ⟨none,0,e,Nat.le_refl _,by unfold maxLen;omega,Rd.of_own (c:=0) (e▸h)⟩
 .exact ⟨_,cap,e,h1,h2,Rd.of_own (c:=cap) (e▸h)⟩
theorem RdV.fr {v:Value} (h:RdV w T sz n v xs) (hf:Fr F w w') (hF:∀ gb cs fr,w.heap[gb]?=some (.cells cs T fr)->¬F gb):RdV w' T sz n v xs:=by
 obtain ⟨A,c,e,h1,h2,h3⟩:=h
 exact ⟨A,c,e,h1,h2,h3.fr hf hF⟩
theorem RdV.below {v:Value} (h:RdV w T sz n v xs) (hb:Below w.heap.size w w'):RdV w' T sz n v xs:=h.fr (Fr.of_below (F:=fun _=>False) hb) (fun _ _ _ _ h=>h)
theorem RdV.nil (w:World) (T:TypeId) (sz:Nat):RdV w T sz 0 (.slice none 0 0) []:=⟨none,0,rfl,Nat.le_refl _,by unfold maxLen;omega,Rd.nil _ _ _ _⟩
end
def RdB (w:World) (B sz n:Nat) (A:Option Addr) (xs:List Value):Prop :=
 xs.length=n*sz/\(0<n->∃ gb off,A=some ⟨gb,off,none⟩/\gb<B/\∀ j u,xs[j]?=some u->w.cell? ⟨gb,off+j,none⟩=some u)
section
variable {w w':World} {B sz n:Nat} {A:Option Addr} {xs:List Value}
theorem RdB.at_ (h:RdB w B sz n A xs) (hn:0<n):∃ gb off,A=some ⟨gb,off,none⟩/\gb<B/\∀ j u,xs[j]?=some u->w.cell? ⟨gb,off+j,none⟩=some u:=h.2 hn
theorem RdB.below (h:RdB w B sz n A xs) (hb:Below B w w'):RdB w' B sz n A xs :=
 ⟨h.1,fun hn=>by
  obtain ⟨gb,off,e,hB,hc⟩:=h.2 hn
  exact ⟨gb,off,e,hB,fun j u hj=>(hb.cell (p:=⟨gb,off+j,none⟩) hB).trans (hc j u hj)⟩⟩
end
section
variable {P:Program} (w:World)
theorem run_app_nil (base:Nat) (t ty e:TypeId) (i:TypeInfo) (size:Nat) (ht:P.underlying t=some (.slice e)) (hi:P.info? e=some i)
 (v:Value) (n:Nat) (xs:List Value) (hown:w.ownsRow base e size v n xs) (c:Nat):(Builtin.append_ #[t,t] ty #[v,.slice none 0 c]).run P w=.ok v w:=by
 rcases hown.2 with ⟨rfl,rfl⟩|⟨g,cap,cur,rfl,_,_,hnc,_⟩
 .simp [Builtin.append_,run_underlying ht,sizeOf,typeInfo,hi,Builtin.lenOf,Builtin.firstCells]
 .simp [Builtin.append_,run_underlying ht,sizeOf,typeInfo,hi,Builtin.lenOf,Builtin.firstCells,hnc,storeCells]
theorem run_app_rd (base:Nat) (t ty e:TypeId) (size bytes:Nat) (z:Value) (ht:P.underlying t=some (.slice e)) (hi:ElemInfo P e size bytes z) (hzs:z.cells.size=size) (hsz:0<size)
 (v:Value) (n:Nat) (xs:List Value) (hown:w.ownsRow base e size v n xs)
 (A:Option Addr) (m c:Nat) (news:List Value) (hr:Rd w e size m A news) (h1:∀ u∈news,u.oneCell'=true)
 (h63:n+m<=maxLen) (hbytes:(n+m)*bytes<=140737488355328) (hbase:base<=w.heap.size) :
 ∃ v' w',(Builtin.append_ #[t,t] ty #[v,.slice A m c]).run P w=.ok v' w'/\w'.ownsRow base e size v' (n+m) (xs++news)/\w.grownBy w' v.ownBlock /\
  (v'.ownBlock=v.ownBlock\/v'.ownBlock=some w.heap.size):=by
 obtain ⟨i,hi1,hi2,hi3,hi4⟩:=hi
 rcases A with _|ad
 .have hm:m=0:=by
   rcases Nat.eq_zero_or_pos m with h0|h0
   .exact h0
   .obtain ⟨_,_,_,_,h,_⟩:=hr.2 h0
    cases h
  subst hm
  have hn:news=[]:=List.eq_nil_of_length_eq_zero (by simpa using hr.1)
  subst hn
  exact ⟨v,w,run_app_nil w base t ty e i size ht hi1 v n xs hown c,by simpa using hown,World.grownBy.refl w _,.inl rfl⟩
 .have hcells:∀ j u,news[j]?=some u->w.cell? (ad.add j)=some u:=by
   intro j u hu
   rcases Nat.eq_zero_or_pos m with h0|h0
   .subst h0
    have hn:news=[]:=List.eq_nil_of_length_eq_zero (by simpa using hr.1)
    subst hn
    simp at hu
   .obtain ⟨gb,off,h,_,hc⟩:=hr.at_ h0
    injection h with h
    subst h
    have:=hc j u hu
    have e:(⟨gb,off,none⟩:Addr).add j=⟨gb,off+j,none⟩:=by unfold Addr.add;split <;> simp_all
    rw [e];exact this
  obtain ⟨v',w',hrun,h2,h3,_,h5⟩:=run_append_own_at (P:=P) w base t ty e i z size bytes ht hi1 hi2 hi3 hi4 hzs hsz v n xs hown ad m c news hr.1 hcells h1 h63 hbytes hbase
  exact ⟨v',w',hrun,h2,h3,h5⟩
theorem wpList_app_rd {ops:Array Oper} {rest:List Oper} {o:Oper} {a:Act} {Q:Exit->Act->World->Prop} (hgd:o.guard=none) (s x:Operand) (t:TypeId)
 (ho:o.op=.call { callee:=.builtin .append,args:=#[s,x],argTypes:=#[t,t] })
 (base:Nat) (e:TypeId) (size bytes:Nat) (z:Value) (ht:P.underlying t=some (.slice e)) (hi:ElemInfo P e size bytes z) (hzs:z.cells.size=size) (hsz:0<size)
 (v:Value) (n:Nat) (xs:List Value) (hs:a.eval s=v) (hown:w.ownsRow base e size v n xs)
 (A:Option Addr) (m c:Nat) (news:List Value) (hx:a.eval x=.slice A m c) (hr:Rd w e size m A news) (h1:∀ u∈news,u.oneCell'=true)
 (h63:n+m<=maxLen) (hbytes:(n+m)*bytes<=140737488355328) (hbase:base<=w.heap.size)
 (h:∀ v' w',w'.ownsRow base e size v' (n+m) (xs++news)->Below base w w'->w.grownBy w' v.ownBlock->(v'.ownBlock=v.ownBlock\/v'.ownBlock=some w.heap.size)->wpList P ops Q rest (a.put o.dst v') w'):wpList P ops Q (o::rest) a w:=by
 refine wpList_plain hgd fun K hK=>?_
 obtain ⟨v',w',hrun,h2,h3,h4⟩:=run_app_rd (P:=P) w base t o.type e size bytes z ht hi hzs hsz v n xs hown A m c news hr h1 h63 hbytes hbase
 unfold Oper.wp execOp
 simp only [ho,resolve,invoke,builtin,Sem.run_bind,Sem.run_pure,Result.andThen_ok,List.map_toArray,List.map_cons,List.map_nil,hs,hx,hrun]
 exact hK _ _ (h v' w' h2 ((Below.refl _ _).grown h3 hbase fun k hk=>(hown.lt k hk).1) h3 h4)
end
section
variable {P:Program} {w:World}
theorem Rd.of_blk {w:World} {g:Nat} {e:TypeId} {size:Nat} {el:List Value} (hb:Blk w g e el.toArray) (hl:el.length=size):Rd w e size 1 (some ⟨g,0,none⟩) el :=
 ⟨by omega,fun _=>⟨g,0,el.toArray,(0,0),rfl,hb,fun j u hj=>by rw [Nat.zero_add];simpa using hj⟩⟩
theorem step_app1 {ops:Array Oper} {o:Oper} {a:Act} {K:Act->World->Prop} {Q:Exit->Act->World->Prop} {E:Prop} (hgd:o.guard=none) (s x:Operand) (t:TypeId)
 (ho:o.op=.call { callee:=.builtin .append,args:=#[s,x],argTypes:=#[t,t] })
 (base:Nat) (e:TypeId) (size bytes:Nat) (z:Value) (ht:P.underlying t=some (.slice e)) (hi:ElemInfo P e size bytes z) (hzs:z.cells.size=size) (hsz:0<size)
 (v:Value) (n:Nat) (xs:List Value) (hs:a.eval s=v) (hown:w.ownsRow base e size v n xs)
 (el:List Value) (gx:Nat) (hx:a.eval x=.slice (some ⟨gx,0,none⟩) 1 1) (hb:Blk w gx e el.toArray) (hel:el.length=size) (h1:∀ u∈el,u.oneCell'=true)
 (h63:n+1<=maxLen) (hbytes:(n+1)*bytes<=140737488355328) (hbase:base<=w.heap.size)
 (h:∀ v' w',w'.ownsRow base e size v' (n+1) (xs++el)->Below base w w'->w.grownBy w' v.ownBlock->(v'.ownBlock=v.ownBlock\/v'.ownBlock=some w.heap.size)->K (a.put o.dst v') w') :
 if Region.wanted o (yielded ops a.tmps)=true then Oper.wp P o a w K Q else E:=by
 have hw:Region.wanted o (yielded ops a.tmps)=true:=by simp [Region.wanted,hgd]
 rw [if_pos hw]
 obtain ⟨v',w',hrun,h2,h3,h4⟩:=run_app_rd (P:=P) w base t o.type e size bytes z ht hi hzs hsz v n xs hown (some ⟨gx,0,none⟩) 1 1 el (Rd.of_blk hb hel) h1 h63 hbytes hbase
 unfold Oper.wp execOp
 simp only [ho,resolve,invoke,builtin,Sem.run_bind,Sem.run_pure,Result.andThen_ok,List.map_toArray,List.map_cons,List.map_nil,hs,hx,hrun]
 exact h v' w' h2 ((Below.refl _ _).grown h3 hbase fun k hk=>(hown.lt k hk).1) h3 h4
theorem step_app_rd {ops:Array Oper} {o:Oper} {a:Act} {K:Act->World->Prop} {Q:Exit->Act->World->Prop} {E:Prop} (hgd:o.guard=none) (s x:Operand) (t:TypeId)
 (ho:o.op=.call { callee:=.builtin .append,args:=#[s,x],argTypes:=#[t,t] })
 (base:Nat) (e:TypeId) (size bytes:Nat) (z:Value) (ht:P.underlying t=some (.slice e)) (hi:ElemInfo P e size bytes z) (hzs:z.cells.size=size) (hsz:0<size)
 (v:Value) (n:Nat) (xs:List Value) (hs:a.eval s=v) (hown:w.ownsRow base e size v n xs)
 (A:Option Addr) (m c:Nat) (news:List Value) (hx:a.eval x=.slice A m c) (hr:Rd w e size m A news) (h1:∀ u∈news,u.oneCell'=true)
 (h63:n+m<=maxLen) (hbytes:(n+m)*bytes<=140737488355328) (hbase:base<=w.heap.size)
 (h:∀ v' w',w'.ownsRow base e size v' (n+m) (xs++news)->Below base w w'->w.grownBy w' v.ownBlock->(v'.ownBlock=v.ownBlock\/v'.ownBlock=some w.heap.size)->K (a.put o.dst v') w') :
 if Region.wanted o (yielded ops a.tmps)=true then Oper.wp P o a w K Q else E:=by
 have hw:Region.wanted o (yielded ops a.tmps)=true:=by simp [Region.wanted,hgd]
 rw [if_pos hw]
 obtain ⟨v',w',hrun,h2,h3,h4⟩:=run_app_rd (P:=P) w base t o.type e size bytes z ht hi hzs hsz v n xs hown A m c news hr h1 h63 hbytes hbase
 unfold Oper.wp execOp
 simp only [ho,resolve,invoke,builtin,Sem.run_bind,Sem.run_pure,Result.andThen_ok,List.map_toArray,List.map_cons,List.map_nil,hs,hx,hrun]
 exact h v' w' h2 ((Below.refl _ _).grown h3 hbase fun k hk=>(hown.lt k hk).1) h3 h4
theorem own_pos {base:Nat} {e:TypeId} {size n:Nat} {v:Value} {xs:List Value} (h:w.ownsRow base e size v n xs) (hn:0<n):∃ g cap,v=.slice (some ⟨g,0,none⟩) n cap:=by
 rcases h.2 with ⟨_,h0⟩|⟨g,cap,cur,e,_⟩
 .omega
 .exact ⟨g,cap,e⟩
theorem own_empty {base g:Nat} {e:TypeId} {size:Nat} (hb:Blk w g e #[]) (hg:base<=g):w.ownsRow base e size (.slice (some ⟨g,0,none⟩) 0 0) 0 [] :=
 ⟨by simp,.inr ⟨g,0,#[],rfl,hg,hb,Nat.le_refl _,by unfold maxLen;omega,by simp,by simp⟩⟩
theorem Blk.new' (w:World) (t:TypeId) (cs:Array Value) {g:Nat} (hg:g=w.heap.size):Blk (w.alloc (.cells cs t)) g t cs:=hg▸Blk.new w t cs
theorem Blk.of_grown {w':World} {row:Option Nat} {g:Nat} {t:TypeId} {cs:Array Value} (hg:w.grownBy w' row) (h:Blk w g t cs) (hne:row≠some g):Blk w' g t cs :=
 (hg.block g h.lt fun e=>hne e.symm).trans h
end
section
variable {P:Program} {md:Region.Mode} {ops:Array Oper} {Q:Exit->Act->World->Prop} {S:World->Prop}
theorem tk {fuel:Nat} {ls ls':Array Bool} {a a':Act} {w:World} {oi:Oper} {v:Value} (i:Nat) (h:wpAnyH P md ops Q S fuel ls' a' w) (hS:S w:=by assumption)
 (ho:ops[i]?=some oi:=by (simp only [List.getElem?_toArray,List.getElem?_cons_zero,List.getElem?_cons_succ];rfl))
 (ka:Region.noSelect ops=true:=by kernel_rfl) (kb:Region.free md ops ls i=true:=by kernel_rfl) (kc:(Region.ready md ops ls).contains i=true:=by kernel_rfl)
 (hQ:∀ c a w,Q (.panic c) (a.put oi.dst v) w->Q (.panic c) a w:=by exact fun _ _ _ h=>h)
 (hy:YieldsIf P ops S oi v a:=by (refine Or.inl ⟨rfl,?_⟩;intro wq hSw;(try dsimp only at hSw);go_simp;try with_reducible rfl))
 (hl:ls.setIfInBounds i true=ls':=by (first|((simp only [List.setIfInBounds_toArray,List.set_cons_zero,List.set_cons_succ];done))|(simp only [List.setIfInBounds_toArray,List.set_cons_zero,List.set_cons_succ];rfl)|rfl))
 (ha:a.put oi.dst v=a':=by (first|((simp only [Act.put,List.setIfInBounds_toArray,List.set_cons_zero,List.set_cons_succ];done))|(simp only [Act.put,List.setIfInBounds_toArray,List.set_cons_zero,List.set_cons_succ];rfl)|rfl)):wpAnyH P md ops Q S (fuel+1) ls a w:=by
 subst hl ha
 exact wpAnyH_take ho ka kb kc hQ hy hS h
theorem tkv {fuel:Nat} {ls ls':Array Bool} {a a':Act} {w:World} {oi:Oper} (i:Nat) (v:Value) (hy:YieldsIf P ops S oi v a) (h:wpAnyH P md ops Q S fuel ls' a' w) (hS:S w:=by assumption)
 (ho:ops[i]?=some oi:=by (simp only [List.getElem?_toArray,List.getElem?_cons_zero,List.getElem?_cons_succ];rfl))
 (ka:Region.noSelect ops=true:=by kernel_rfl) (kb:Region.free md ops ls i=true:=by kernel_rfl) (kc:(Region.ready md ops ls).contains i=true:=by kernel_rfl)
 (hQ:∀ c a w,Q (.panic c) (a.put oi.dst v) w->Q (.panic c) a w:=by exact fun _ _ _ h=>h)
 (hl:ls.setIfInBounds i true=ls':=by (first|((simp only [List.setIfInBounds_toArray,List.set_cons_zero,List.set_cons_succ];done))|(simp only [List.setIfInBounds_toArray,List.set_cons_zero,List.set_cons_succ];rfl)|rfl))
 (ha:a.put oi.dst v=a':=by (first|((simp only [Act.put,List.setIfInBounds_toArray,List.set_cons_zero,List.set_cons_succ];done))|(simp only [Act.put,List.setIfInBounds_toArray,List.set_cons_zero,List.set_cons_succ];rfl)|rfl)):wpAnyH P md ops Q S (fuel+1) ls a w:=by
 subst hl ha
 exact wpAnyH_take ho ka kb kc hQ hy hS h
theorem rd1 {fuel:Nat} {ls:Array Bool} {a:Act} {w:World} {o:Oper} (i:Nat)
 (h:∀ K':Act->World->Prop,Shut (∀ a w,S w->(S w->wpAnyH P md ops Q S fuel (ls.setIfInBounds i true) a w)->K' a w)->if Region.wanted o (yielded ops a.tmps)=true then Oper.wp P o a w K' Q else K' (a.put o.dst undef) w)
 (hr:Region.ready md ops ls=[i]:=by kernel_rfl)
 (ho:ops[i]?=some o:=by (simp only [List.getElem?_toArray,List.getElem?_cons_zero,List.getElem?_cons_succ];rfl)):wpAnyH P md ops Q S (fuel+1) ls a w :=
 wpAnyH_ready hr (by simp) (AllReadyH.cons ho h AllReadyH.nil)
theorem rdc {fuel:Nat} {ls:Array Bool} {a:Act} {w:World} {i:Nat} {o:Oper} {rs:List Nat}
 (h:∀ K':Act->World->Prop,Shut (∀ a w,S w->(S w->wpAnyH P md ops Q S fuel (ls.setIfInBounds i true) a w)->K' a w)->if Region.wanted o (yielded ops a.tmps)=true then Oper.wp P o a w K' Q else K' (a.put o.dst undef) w)
 (hs:AllReadyH P md ops Q S fuel ls a w rs)
 (ho:ops[i]?=some o:=by (simp only [List.getElem?_toArray,List.getElem?_cons_zero,List.getElem?_cons_succ];rfl)):AllReadyH P md ops Q S fuel ls a w (i::rs):=AllReadyH.cons ho h hs
end
section
variable {P:Program} {md:Region.Mode} {ops:Array Oper} {Q:Exit->Act->World->Prop} {S:World->Prop}
theorem bk {fuel:Nat} {ls ls':Array Bool} {a a':Act} {w:World} {K':Act->World->Prop} (hK:Shut (∀ a w,S w->(S w->wpAnyH P md ops Q S fuel ls a w)->K' a w)) (hS:S w) (h:S w->wpAnyH P md ops Q S fuel ls' a' w)
 (hl:ls=ls':=by (first|((simp only [List.setIfInBounds_toArray,List.set_cons_zero,List.set_cons_succ];done))|(simp only [List.setIfInBounds_toArray,List.set_cons_zero,List.set_cons_succ];rfl)|rfl))
 (ha:a=a':=by (first|((simp only [Act.put,List.setIfInBounds_toArray,List.set_cons_zero,List.set_cons_succ];done))|(simp only [Act.put,List.setIfInBounds_toArray,List.set_cons_zero,List.set_cons_succ];rfl)|rfl)):K' a w:=by
 subst hl ha
 exact hK.out a w hS h
theorem dn9 {fuel:Nat} {ls:Array Bool} {a:Act} {w:World} (h:Q .normal a w) (hr:Region.ready md ops ls=[]:=by kernel_rfl):wpAnyH P md ops Q S fuel ls a w:=wpAnyH_done hr h _
theorem rgn {B:World->Prop} {id:Nat} {a:Act} {w:World} (HS:∀ W,B W->S W) (hb:B w.drew) (h:S w.drew->wpAnyH P .any ops Q S ops.size (Array.replicate ops.size false) a w.drew) (hm:P.follows .mixedOrders=true:=by kernel_rfl):(Code.region id ops true).wp P Q a w :=
 wp_region_held_drew hm (HS _ hb) h
theorem tkm {fuel:Nat} {ls ls':Array Bool} {a a':Act} {w:World} {oi:Oper} {ty:TypeId} {x:Operand} {d:TypeDesc} (i:Nat) (cs:Array Value) (b o:Nat) (hc:∀ w,S w->w.rangeAt b o cs.toList) (hu:P.underlying ty=some d) (h:wpAnyH P md ops Q S fuel ls' a' w) (hS:S w:=by assumption)
 (ho:ops[i]?=some oi:=by (simp only [List.getElem?_toArray,List.getElem?_cons_zero,List.getElem?_cons_succ];rfl))
 (ka:Region.noSelect ops=true:=by kernel_rfl) (kb:Region.free md ops ls i=true:=by kernel_rfl) (kc:(Region.ready md ops ls).contains i=true:=by kernel_rfl)
 (hQ:∀ c a1 w,Q (.panic c) (a1.put oi.dst (.agg cs)) w->Q (.panic c) a1 w:=by exact fun _ _ _ h=>h)
 (hw:Region.wanted oi (yielded ops a.tmps)=true:=by rfl) (hop:oi.op=.load ty x:=by rfl) (hx:a.eval x=.pointer (some ⟨b,o,none⟩):=by rfl) (hd:d.isRow=true:=by rfl) (hi:(P.info? ty).map (·.size)=some cs.toList.length:=by kernel_rfl)
 (hl:ls.setIfInBounds i true=ls':=by (first|((simp only [List.setIfInBounds_toArray,List.set_cons_zero,List.set_cons_succ];done))|(simp only [List.setIfInBounds_toArray,List.set_cons_zero,List.set_cons_succ];rfl)|rfl))
 (ha:a.put oi.dst (.agg cs)=a':=by (first|((simp only [Act.put,List.setIfInBounds_toArray,List.set_cons_zero,List.set_cons_succ];done))|(simp only [Act.put,List.setIfInBounds_toArray,List.set_cons_zero,List.set_cons_succ];rfl)|rfl)):wpAnyH P md ops Q S (fuel+1) ls a w:=by
 subst hl ha
 exact wpAnyH_take ho ka kb kc hQ (yieldsIf_load_mid hw ty x hop b o hx cs.toList d hc hu hd hi) hS h
end
section
variable {P:Program} {w:World}
def MethRow (P:Program) (t:TypeId) (name:String) (f:FuncId) (b:Bool):Prop :=
 ((P.info? t).bind (fun i=>i.methods.find? (·.name == name))).map (fun m=>(m.path,m.func))=some (#[],some (f,b))
theorem MethRow.parts {t:TypeId} {name:String} {f:FuncId} {b:Bool} (h:MethRow P t name f b) :
 ∃ i m,P.info? t=some i/\i.methods.find? (·.name == name)=some m/\m.path=#[]/\m.func=some (f,b):=by
 unfold MethRow at h
 cases hi:P.info? t with
 | none=>rw [hi] at h;cases h
 | some i =>
   rw [hi] at h
   cases hm:i.methods.find? (·.name == name) with
   | none=>simp [hm] at h
   | some m =>
     simp [hm] at h
     exact ⟨i,m,rfl,hm,h.1,h.2⟩
theorem run_method_ptr {t te:TypeId} {name:String} {f:FuncId} (h:MethRow P t name f true) (ht:P.underlying t=some (.pointer te)) (a:Addr) (n:Nat) (hn:0<n) (w:World) :
 (method n t (.pointer (some a)) name).run P w=.ok (f,.pointer (some a)) w:=by
 obtain ⟨i,m,h1,h2,h3,h4⟩:=h.parts
 obtain ⟨k,rfl⟩:∃ k,n=k+1:=⟨n-1,by omega⟩
 simp [method,typeInfo,h1,h2,h3,h4,follow,receiverAt,run_underlying ht,Place.get]
theorem run_method_val {t te e:TypeId} {name:String} {f:FuncId} (h:MethRow P t name f false) (ht:P.underlying t=some (.pointer te)) (he:P.underlying te=some (.slice e)) (a:Addr) (n:Nat) (hn:0<n) (w:World) (v:Value) (hc:w.cell? a=some v) :
 (method n t (.pointer (some a)) name).run P w=.ok (f,v) w:=by
 obtain ⟨i,m,h1,h2,h3,h4⟩:=h.parts
 obtain ⟨k,rfl⟩:∃ k,n=k+1:=⟨n-1,by omega⟩
 have hs:∀ nm:String,Builtin.ssaWrapNilChk_ #[t] t #[.pointer (some a),strVal "",strVal nm]=pure (.pointer (some a)):=fun _=>rfl
 simp [method,typeInfo,h1,h2,h3,h4,follow,receiverAt,run_underlying ht,Place.get,hs,asAddr,loadVar,isAgg,run_underlying he,go_sem,hc]
theorem run_typeAssert_same {t te x:TypeId} (ht:P.underlying t=some (.pointer te)) (v:Value) (W:World):(Instr.typeAssert (.iface t v) x t false).run P W=.ok v W:=by
 simp [Instr.typeAssert,run_underlying ht]
end
def rows {α:Type} (f:α->List Value) (l:List α):List Value:=l.flatMap f
section
variable {α:Type} {f:α->List Value} {sz:Nat}
theorem rows_snoc (l:List α) (a:α):rows f (l++[a])=rows f l++f a:=by simp [rows]
theorem rows_append (l m:List α):rows f (l++m)=rows f l++rows f m:=by simp [rows]
theorem rows_cons (a:α) (l:List α):rows f (a::l)=f a++rows f l:=rfl
theorem rows_len (hf:∀ a,(f a).length=sz):∀ l:List α,(rows f l).length=l.length*sz
 | []=>by simp [rows]
 | a::l=>by rw [rows_cons,List.length_append,rows_len hf l,hf,List.length_cons,Nat.add_mul];omega
theorem rows_at (hf:∀ a,(f a).length=sz):∀ {l:List α} {i:Nat} (hi:i<l.length) {j:Nat},j<sz->(rows f l)[i*sz+j]?=(f l[i])[j]?
 | a::l,0,_,j,hj=>by
   rw [rows_cons,Nat.zero_mul,Nat.zero_add,List.getElem?_append_left (by rw [hf];exact hj)];rfl
 | a::l,i+1,hi,j,hj=>by
   have:=rows_at hf (l:=l) (i:=i) (by simpa using hi) hj
   rw [rows_cons,List.getElem?_append_right (by rw [hf,Nat.add_mul];omega),hf,show (i+1)*sz+j-sz=i*sz+j by rw [Nat.add_mul];omega,this];rfl
theorem rows_take (hf:∀ a,(f a).length=sz):∀ (l:List α) (k:Nat),rows f (l.take k)=(rows f l).take (k*sz)
 | [],k=>by simp [rows]
 | a::l,0=>by simp [rows]
 | a::l,k+1=>by
   rw [List.take_succ_cons,rows_cons,rows_cons,rows_take hf l k,List.take_append,hf,show (k+1)*sz-sz=k*sz by rw [Nat.add_mul];omega,List.take_of_length_le (l:=f a) (by rw [hf,Nat.add_mul];omega)]
theorem rows_drop (hf:∀ a,(f a).length=sz):∀ (l:List α) (k:Nat),rows f (l.drop k)=(rows f l).drop (k*sz)
 | [],k=>by simp [rows]
 | a::l,0=>by simp [rows]
 | a::l,k+1=>by
   rw [List.drop_succ_cons,rows_cons,rows_drop hf l k,List.drop_append,hf,show (k+1)*sz-sz=k*sz by rw [Nat.add_mul];omega,List.drop_eq_nil_of_le (show (f a).length<=(k+1)*sz by rw [hf,Nat.add_mul];omega),List.nil_append]
theorem rows_one (h1:∀ a,∀ u∈f a,u.oneCell'=true) (l:List α):∀ u∈rows f l,u.oneCell'=true:=by
 intro u hu
 unfold rows at hu
 rw [List.mem_flatMap] at hu
 obtain ⟨a,_,h⟩:=hu
 exact h1 a u h
theorem rd_row {w:World} {T:TypeId} {l:List α} {A:Option Addr} (hf:∀ a,(f a).length=sz) (h:Rd w T sz l.length A (rows f l)) {i:Nat} (hi:i<l.length) :
 ∃ gb off,A=some ⟨gb,off,none⟩/\gb<w.heap.size/\∀ j,j<sz->w.cell? ⟨gb,off+i*sz+j,none⟩=(f l[i])[j]?:=by
 obtain ⟨gb,off,e,hlt,hc⟩:=h.at_ (by omega)
 refine ⟨gb,off,e,hlt,fun j hj=>?_⟩
 have hr:=rows_at hf hi hj
 have hv:(f l[i])[j]?=some ((f l[i])[j]'(by rw [hf];exact hj)):=List.getElem?_eq_getElem _
 rw [Nat.add_assoc,hv]
 exact hc _ _ (hr.trans hv)
end
end Go.Proofs.YthkadehlclcggaaGreatDoor
