/- Ranging over a map of the call's own: in whatever order, each entry once. -/
import Derived.Test.YthkadehlclcggaaGreatDoorGx01
import Derived.Maps.RangeWalk
import Derived.Test.YthkadehlclcggaaGreatDoorGx02
namespace Go.Proofs.YthkadehlclcggaaGreatDoor
set_option linter.unusedSimpArgs false
set_option linter.unusedVariables false
open Go.RowKit Go.ChangeMaps
def Born (w:World) (b:Nat):Prop:=∃ (es:Array MapEntry) (c:Nat),w.heap[b]?=some (.map es c)/\(es.toList.map (·.born)).Nodup/\∀ e∈es.toList,e.born<c
section
variable {P:Program} {w w':World} {b:Nat} {F:Nat->Prop}
theorem Born.lt (h:Born w b):b<w.heap.size:=by
 obtain ⟨es,c,h,_⟩:=h
 exact (Array.getElem?_eq_some_iff.1 h).1
theorem Born.fr (h:Born w b) (hf:Fr F w w') (hb:¬F b):Born w' b:=by
 have hl:=h.lt
 obtain ⟨es,c,h,e⟩:=h
 exact ⟨es,c,(hf.block b hl hb).trans h,e⟩
theorem Born.drewN (h:Born w b) (n:Nat):Born (w.drewN n) b:=h
variable {κ:Type} [DecidableEq κ] {key:κ->Value} {kvs:List (κ × Value)} {K T E:TypeId}
theorem Born.update (hB:Born w b) (h:MapIs w b key kvs) (L:KeyLaw P K key) (ht:P.underlying T=some (.map K E)) (k:κ) (v:Value)
 (hr:(Instr.mapUpdate T (.map (some b)) (key k) v).run P w=.ok () w'):Born w' b:=by
 obtain ⟨es,c,h,e⟩:=h
 obtain ⟨es',c',h',n1,n2⟩:=hB
 rw [h] at h'
 injection h' with h';injection h' with q1 q2
 subst q1;subst q2
 have hl:b<w.heap.size:=(Array.getElem?_eq_some_iff.1 h).1
 have hf:=L.find es.toList kvs k w e
 simp only [Instr.mapUpdate,Sem.run_bind,run_underlying ht,Result.andThen_ok,obj_get h,L.check,hf] at hr
 cases hlk:lookI k kvs 0 with
 | none =>
   rw [hlk] at hr
   simp only [obj_set _ h] at hr
   injection hr with _ hr
   subst hr
   refine ⟨_,_,mapw_at w _ hl,?_,?_⟩
   .rw [Array.toList_push,List.map_append,List.nodup_append]
    refine ⟨n1,by simp,fun a ha b' hb'=>?_⟩
    obtain ⟨x,hx,rfl⟩:=List.mem_map.1 ha
    have:=n2 x hx
    simp at hb'
    omega
   .intro x hx
    rw [Array.toList_push] at hx
    rcases List.mem_append.1 hx with q|q
    .have:=n2 x q;omega
    .simp at q;subst q;simp
 | some x =>
   obtain ⟨i,u⟩:=x
   rw [hlk] at hr
   obtain ⟨m,e1,e2,e3,e4,_⟩:=lookI_some hlk
   obtain rfl:i=m:=by omega
   have hik:(((es[i]?).map (·.key)).getD (key k))=key k:=by
    have h2:=congrArg (fun l:List (Value × Value)=>(l[i]?).map (·.1)) e
    simp only [List.getElem?_map,Array.getElem?_toList,Option.map_map,Function.comp_def] at h2
    rw [h2]
    have:(kvs[i]?).map (fun x=>key x.1)=some (key k):=by
     have:=congrArg (Option.map key) e3
     simpa [Option.map_map,Function.comp_def] using this
    rw [this];rfl
   simp only [hik,Instr.keyThatStays,L.stays,if_true,Sem.run_bind,Sem.run_pure,Result.andThen_ok,obj_set _ h] at hr
   injection hr with _ hr
   subst hr
   have hm:((es.modify i fun e=>{ e with key:=key k,val:=v }).toList.map (·.born))=es.toList.map (·.born):=by
    rw [Array.toList_modify]
    apply List.ext_getElem?
    intro j
    simp only [List.getElem?_map,List.getElem?_modify,Array.getElem?_toList]
    by_cases hj:i=j <;> cases es[j]? <;> simp [hj]
   refine ⟨_,_,mapw_at w (.map (es.modify i fun e=>{ e with key:=key k,val:=v }) c) hl,by rw [hm];exact n1,fun x hx=>?_⟩
   have hx':=List.mem_map_of_mem (f:=MapEntry.born) hx
   rw [hm] at hx'
   obtain ⟨y,hy,ey⟩:=List.mem_map.1 hx'
   have:=n2 y hy
   omega
theorem Born.delete (hB:Born w b) (h:MapIs w b key kvs) (L:KeyLaw P K key) (ht:P.underlying T=some (.map K E)) (k:κ) (t2 ty:TypeId) {u:Value}
 (hr:(Builtin.delete_ #[T,t2] ty #[.map (some b),key k]).run P w=.ok u w'):Born w' b:=by
 obtain ⟨es,c,h,e⟩:=h
 obtain ⟨es',c',h',n1,n2⟩:=hB
 rw [h] at h'
 injection h' with h';injection h' with q1 q2
 subst q1;subst q2
 have hl:b<w.heap.size:=(Array.getElem?_eq_some_iff.1 h).1
 have hf:=L.find es.toList kvs k w e
 have hgo:∀ o:Obj,(setObj b o).run P w=.ok () { w with heap:=w.heap.setIfInBounds b o }:=fun o=>obj_set o h
 cases hlk:lookI k kvs 0 with
 | none =>
   simp [Builtin.delete_,run_underlying ht,obj_get h,L.check,hf,hlk,hgo] at hr
   obtain ⟨_,rfl⟩:=hr
   exact ⟨_,_,mapw_at w _ hl,n1,n2⟩
 | some x =>
   obtain ⟨i,u⟩:=x
   simp [Builtin.delete_,run_underlying ht,obj_get h,L.check,hf,hlk,hgo] at hr
   obtain ⟨_,rfl⟩:=hr
   have hs:(es.eraseIdxIfInBounds i).toList.Sublist es.toList:=by
    unfold Array.eraseIdxIfInBounds
    split
    .rw [Array.toList_eraseIdx];exact List.eraseIdx_sublist _ _
    .exact List.Sublist.refl _
   exact ⟨_,_,mapw_at w _ hl,n1.sublist (hs.map _),fun x hx=>n2 x (hs.subset hx)⟩
end
def kvE (e:MapEntry):Value × Value:=(e.key,e.val)
def Rng (w:World) (b r:Nat) (left:List (Value × Value)):Prop:=∃ (es:Array MapEntry) (c since c0:Nat) (seen:Array Nat),w.heap[b]?=some (.map es c)/\(es.toList.map (·.born)).Nodup/\(∀ e∈es.toList,e.born<since)/\(since<=c0/\since<=c) /\
 w.heap[r]?=some (.mapIter (some b) since seen c0)/\(leftOf es seen).toList.map kvE=left
section
variable {P:Program} {w w':World} {b r:Nat} {F:Nat->Prop} {left:List (Value × Value)}
theorem Rng.ltb (h:Rng w b r left):b<w.heap.size:=by
 obtain ⟨es,c,s,c0,seen,h1,_⟩:=h
 exact (Array.getElem?_eq_some_iff.1 h1).1
theorem Rng.ltr (h:Rng w b r left):r<w.heap.size:=by
 obtain ⟨es,c,s,c0,seen,_,_,_,_,h2,_⟩:=h
 exact (Array.getElem?_eq_some_iff.1 h2).1
theorem Rng.ne (h:Rng w b r left):r≠b:=by
 obtain ⟨es,c,s,c0,seen,h1,_,_,_,h2,_⟩:=h
 intro e
 rw [e,h1] at h2
 cases h2
theorem Rng.fr (h:Rng w b r left) (hf:Fr F w w') (hb:¬F b) (hr:¬F r):Rng w' b r left:=by
 have l1:=h.ltb
 have l2:=h.ltr
 obtain ⟨es,c,s,c0,seen,h1,n1,n2,n3,h2,e⟩:=h
 exact ⟨es,c,s,c0,seen,(hf.block b l1 hb).trans h1,n1,n2,n3,(hf.block r l2 hr).trans h2,e⟩
theorem Rng.notCells (h:Rng w b r left) {g:Nat} {cs:Array Value} {T:TypeId} {fr:Nat × Nat} (hg:w.heap[g]?=some (.cells cs T fr)):g≠b/\g≠r:=by
 obtain ⟨es,c,s,c0,seen,h1,n1,n2,n3,h2,e⟩:=h
 constructor
 .rintro rfl;rw [h1] at hg;cases hg
 .rintro rfl;rw [h2] at hg;cases hg
theorem Rng.start {κ:Type} {key:κ->Value} {kvs:List (κ × Value)} {T K E:TypeId} (hB:Born w b) (h:MapIs w b key kvs) (ht:P.underlying T=some (.map K E)) :
 ∃ w',(Instr.range T (.map (some b))).run P w=.ok (.pointer (some ⟨w.heap.size,0,none⟩)) w'/\Rng w' b w.heap.size (kvs.map fun x=>(key x.1,x.2))/\Fr (fun _=>False) w w'/\w'.heap.size=w.heap.size+1:=by
 have hl:=h.lt
 obtain ⟨es,c,h,e⟩:=h
 obtain ⟨es',c',h',n1,n2⟩:=hB
 rw [h] at h'
 injection h' with h';injection h' with q1 q2
 subst q1;subst q2
 refine ⟨_,run_range_map w T K E b es c ht h,⟨es,c,c,c,#[],(heap_alloc_old w _ hl).trans h,n1,n2,⟨Nat.le_refl _,Nat.le_refl _⟩,heap_alloc_new w _,?_⟩,(Fr.refl _ _).alloc _,by simp⟩
 have:leftOf es #[]=es:=by unfold leftOf;rw [Array.filter_eq_self];simp
 rw [this]
 exact e
theorem left_split {es:Array MapEntry} {seen:Array Nat} {e:MapEntry} (n1:(es.toList.map (·.born)).Nodup) (he:e∈(leftOf es seen).toList) :
 (kvE e::(leftOf es (seen.push e.born)).toList.map kvE).Perm ((leftOf es seen).toList.map kvE):=by
 have hsub:(leftOf es seen).toList.Sublist es.toList:=by unfold leftOf;rw [Array.toList_filter];exact List.filter_sublist
 have hn:((leftOf es seen).toList.map (·.born)).Nodup:=n1.sublist (hsub.map _)
 have hq:(leftOf es (seen.push e.born)).toList=(leftOf es seen).toList.filter fun x=>decide (x.born≠e.born):=by
  unfold leftOf
  simp only [Array.toList_filter]
  rw [List.filter_filter]
  refine List.filter_congr fun x _=>?_
  rw [Bool.eq_iff_iff]
  simp only [Bool.not_eq_true',Bool.and_eq_true,decide_eq_true_eq,Array.contains_push,Bool.or_eq_false_iff,beq_eq_false_iff_ne]
  exact ⟨fun ⟨a,b⟩=>⟨b,a⟩,fun ⟨a,b⟩=>⟨b,a⟩⟩
 rw [hq]
 have hp:∀ {l:List MapEntry},(l.map (·.born)).Nodup->e∈l->(e::l.filter fun x=>decide (x.born≠e.born)).Perm l:=by
  intro l
  induction l with
  | nil=>intro _ h;cases h
  | cons a t ih =>
    intro hn he
    rw [List.map_cons,List.nodup_cons] at hn
    by_cases ha:a.born=e.born
    .have hae:a=e:=by
      rcases List.mem_cons.1 he with q|q
      .exact q.symm
      .exact absurd (List.mem_map.2 ⟨e,q,ha.symm⟩) hn.1
     subst hae
     rw [List.filter_cons_of_neg (by simp)]
     have:t.filter (fun x=>decide (x.born≠a.born))=t:=by
      rw [List.filter_eq_self]
      intro y hy
      exact decide_eq_true fun q=>hn.1 (q▸List.mem_map.2 ⟨y,hy,rfl⟩)
     rw [this]
    .rw [List.filter_cons_of_pos (by simpa using ha)]
     have het:e∈t:=by
      rcases List.mem_cons.1 he with q|q
      .exact absurd (by rw [q]) ha
      .exact q
     exact (List.Perm.swap _ _ _).trans ((ih hn.2 het).cons _)
 exact (hp hn he).map kvE
theorem Rng.next (h:Rng w b r left) (ty:TypeId) :
 (left=[]/\(Instr.next (.pointer (some ⟨r,0,none⟩)) false ty).run P w=.ok (.tuple #[.bool false]) w) \/
 ∃ k v w' left',(Instr.next (.pointer (some ⟨r,0,none⟩)) false ty).run P w=.ok (.tuple #[.bool true,k,v]) w'/\((k,v)::left').Perm left/\Rng w' b r left'/\Fr (fun j=>j=r) w w'/\w'.heap.size=w.heap.size /\
  (Instr.entry (.pointer (some ⟨r,0,none⟩))).run P w'=.ok (.tuple #[k,v]) w':=by
 have hne:=h.ne
 have hlr:=h.ltr
 obtain ⟨es,c,s,c0,seen,h1,n1,n2,n3,h2,rfl⟩:=h
 rcases run_next_at (P:=P) w ty r b s c0 seen es c h2 h1 n2 n3.1 with ⟨h0,hrun⟩|⟨e,he,w1,hal,hrun⟩
 .left
  refine ⟨?_,hrun⟩
  have:leftOf es seen=#[]:=Array.eq_empty_of_size_eq_zero h0
  rw [this];rfl
 .right
  have hem:=(mem_left he).1
  have hr1:w1.heap=w.heap:=by rcases hal with rfl|rfl <;> rfl
  have hb':(setBlock w1 r (.mapIter (some b) s (seen.push e.born) c)).heap[b]?=some (.map es c):=by
   show (w1.heap.setIfInBounds r _)[b]?=_
   rw [hr1,Array.getElem?_setIfInBounds_ne hne];exact h1
  have hr':(setBlock w1 r (.mapIter (some b) s (seen.push e.born) c)).heap[r]?=some (.mapIter (some b) s (seen.push e.born) c):=by
   show (w1.heap.setIfInBounds r _)[r]?=_
   rw [hr1,Array.getElem?_setIfInBounds_self_of_lt hlr]
  refine ⟨e.key,e.val,_,_,hrun,left_split n1 he,?_,?_,?_,run_entry_at _ r b s seen es c e hr' hb' hem n1⟩
  .exact ⟨es,c,s,c,seen.push e.born,hb',n1,n2,⟨n3.2,n3.2⟩,hr',rfl⟩
  .refine ⟨?_,?_,?_,?_,fun k hk hne'=>?_⟩
   .rcases hal with rfl|rfl <;> rfl
   .rcases hal with rfl|rfl <;> rfl
   .rcases hal with rfl|rfl <;> rfl
   .show w.heap.size<=(w1.heap.setIfInBounds r _).size
    rw [hr1];simp
   .show (w1.heap.setIfInBounds r _)[k]?=_
    rw [hr1,Array.getElem?_setIfInBounds_ne (Ne.symm hne')]
  .show (w1.heap.setIfInBounds r _).size=_
   rw [hr1];simp
theorem Rng.left_eq (h:Rng w b r left):w.rangeLeft b r=left.length:=by
 obtain ⟨es,c,s,c0,seen,h1,n1,n2,n3,h2,rfl⟩:=h
 simp only [World.rangeLeft,h1,h2,List.length_map,Array.length_toList]
variable {ops:Array Oper} {rest:List Oper} {o:Oper} {a:Act} {Q:Exit->Act->World->Prop}
theorem wpList_range_is {κ:Type} {key:κ->Value} {kvs:List (κ × Value)} (hg:o.guard=none) (m:Operand) (t:TypeId) (hop:o.op=Op.range t m) (k e:TypeId) (ht:P.underlying t=some (.map k e)) (hm:a.eval m=.map (some b)) (hB:Born w b) (h:MapIs w b key kvs)
 (hK:∀ w',Rng w' b w.heap.size (kvs.map fun x=>(key x.1,x.2))->Fr (fun _=>False) w w'->w'.heap.size=w.heap.size+1->wpList P ops Q rest (a.put o.dst (.pointer (some ⟨w.heap.size,0,none⟩))) w'):wpList P ops Q (o::rest) a w:=by
 refine wpList_plain hg fun K' hK'=>?_
 obtain ⟨w',hrun,r1,r2,r3⟩:=Rng.start (P:=P) hB h ht
 unfold Oper.wp
 simp [execOp,hop,hm,hrun,Result.andThen]
 exact hK' _ _ (hK w' r1 r2 r3)
theorem wpList_next_is {α β:Type} (hg:o.guard=none) (it:Operand) (hop:o.op=Op.next it false) (mkK:α->Value) (mkV:β->Value) (hit:a.eval it=.pointer (some ⟨r,0,none⟩)) (h:Rng w b r left) (inv:∀ x∈left,∃ k v,x=(mkK k,mkV v))
 (hDone:left=[]->wpList P ops Q rest (a.put o.dst (.tuple #[.bool false])) w)
 (hMore:∀ k v w' left',((mkK k,mkV v)::left').Perm left->Rng w' b r left'->Fr (fun j=>j=r) w w'->w'.heap.size=w.heap.size->(Instr.entry (.pointer (some ⟨r,0,none⟩))).run P w'=.ok (.tuple #[mkK k,mkV v]) w'->wpList P ops Q rest (a.put o.dst (.tuple #[.bool true,mkK k,mkV v])) w'):wpList P ops Q (o::rest) a w:=by
 refine wpList_plain hg fun K' hK'=>?_
 unfold Oper.wp
 rcases h.next (P:=P) o.type with ⟨h0,hrun⟩|⟨k,v,w',left',hrun,hp,hr,hf,hs,hen⟩
 .simp [execOp,hop,hit,hrun,Result.andThen]
  exact hK' _ _ (hDone h0)
 .obtain ⟨k',v',e⟩:=inv (k,v) (hp.mem_iff.1 List.mem_cons_self)
  injection e with e1 e2
  subst e1;subst e2
  simp [execOp,hop,hit,hrun,Result.andThen]
  exact hK' _ _ (hMore k' v' w' left' hp hr hf hs hen)
end
end Go.Proofs.YthkadehlclcggaaGreatDoor
