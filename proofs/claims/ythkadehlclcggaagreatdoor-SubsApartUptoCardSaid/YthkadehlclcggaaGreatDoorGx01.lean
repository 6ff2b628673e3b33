/- Small words for memory: what a type's table row says; an append of one element onto a row  Maps of the call's own: a list of keys and values; look-up, store, delete, length. Chapter 3 in plain Lean: bytes, escapes, numbers, cuts; what a URI is. Chapter 3 in plain Lean: what is printed is parsed as it was. -/
import Derived.WalkKit
import Derived.WalkSpells
import Derived.WalkLawsBesides
import Derived.Lib.Hide
import Derived.Deep.DeepFit
import Derived.Deep.AppendLies
import Derived.Deep.Draws
import Derived.Maps.AppendAt
import Derived.Lib.IndexBytes
import Derived.WalkSmall
import Derived.ChangeAlike
import Derived.Outline
import Derived.MapKept
import Derived.Maps.OwnOps
import Derived.Maps.OwnSet
namespace Go.Proofs.YthkadehlclcggaaGreatDoor
set_option linter.unusedSimpArgs false
set_option linter.unusedVariables false
open Go.RowKit
def ElemInfo (P:Program) (e:TypeId) (size bytes:Nat) (z:Value):Prop:=∃ i,P.info? e=some i/\i.zero=some z/\i.size=size/\i.bytes=bytes
theorem ElemInfo.mk' {P:Program} {e:TypeId} {size bytes:Nat} {z:Value} (h:(P.info? e).map (fun i=>(i.zero,i.size,i.bytes))=some (some z,size,bytes)):ElemInfo P e size bytes z:=by
 obtain ⟨i,h1,h2,h3,h4⟩:=info_parts h
 exact ⟨i,h1,h2,h3,h4⟩
theorem int_eq {k:IntKind} {a b:Int} (h:a=b):Value.int k a=.int k b:=by rw [h]
theorem ret_int {k:IntKind} {a b:Int} (h:a=b):Ending.returned (.int k a)=.returned (.int k b):=by rw [h]
theorem ret_bool {a b:Bool} (h:a=b):Ending.returned (.bool a)=.returned (.bool b):=by rw [h]
section
variable {P:Program} {w:World}
theorem wpList_app1 {ops:Array Oper} {rest:List Oper} {o:Oper} {a:Act} {Q:Exit->Act->World->Prop} (hgd:o.guard=none) (s x:Operand) (t:TypeId)
 (ho:o.op=.call { callee:=.builtin .append,args:=#[s,x],argTypes:=#[t,t] })
 (base:Nat) (e:TypeId) (size bytes:Nat) (z:Value) (ht:P.underlying t=some (.slice e)) (hi:ElemInfo P e size bytes z)
 (hzs:z.cells.size=size) (hsz:0<size)
 (v:Value) (n:Nat) (xs:List Value) (hs:a.eval s=v) (hown:w.ownsRow base e size v n xs)
 (el:List Value) (hx:a.eval x=.slice (some ⟨w.heap.size,0,none⟩) 1 1) (hel:el.length=size) (h1:∀ u∈el,u.oneCell'=true)
 (h63:n+1<=maxLen) (hbytes:(n+1)*bytes<=140737488355328) (hbase:base<=w.heap.size)
 (h:∀ v' w',w'.ownsRow base e size v' (n+1) (xs++el)->Below base w w'->w.grownBy w' v.ownBlock->(v'.ownBlock=v.ownBlock\/∃ g,v'.ownBlock=some g/\w.heap.size<=g)->wpList P ops Q rest (a.put o.dst v') w') :
 wpList P ops Q (o::rest) a (w.alloc (.cells el.toArray e)):=by
 obtain ⟨i,hi1,hi2,hi3,hi4⟩:=hi
 refine wpList_append_own_at _ hgd s x t ho base e i z size bytes ht hi1 hi2 hi3 hi4 hzs hsz v n xs hs (hown.alloc _) ⟨w.heap.size,0,none⟩ 1 1 el hx (by omega) ?_ h1 h63 hbytes (by simp;omega) ?_
 .intro j u hu
  have:(⟨w.heap.size,0,none⟩:Addr).add j=⟨w.heap.size,j,none⟩:=by unfold Addr.add;split <;> simp_all
  rw [this,World.cell?_alloc_at _ _ _ _ rfl]
  simpa using hu
 .intro v' w' hown' hg hnil hat
  have hg':w.grownBy w' v.ownBlock:=⟨hg.os,hg.tape,hg.output,Nat.le_trans (by simp) hg.size,fun k hk hne=>(hg.block k (by simp;omega) hne).trans (Below.heap_alloc _ _ _ hk)⟩
  refine h v' w' hown' ((Below.refl _ _).grown hg' hbase fun k hk=>(hown.lt k hk).1) hg' ?_
  rcases hat with hat|hat
  .exact .inl hat
  .exact .inr ⟨_,hat,by simp⟩
theorem wpList_app1' {ops:Array Oper} {rest:List Oper} {o:Oper} {a:Act} {Q:Exit->Act->World->Prop} (hgd:o.guard=none) (s x:Operand) (t:TypeId)
 (ho:o.op=.call { callee:=.builtin .append,args:=#[s,x],argTypes:=#[t,t] })
 (base:Nat) (e:TypeId) (size bytes:Nat) (z:Value) (ht:P.underlying t=some (.slice e)) (hi:ElemInfo P e size bytes z)
 (hzs:z.cells.size=size) (hsz:0<size)
 (v:Value) (n:Nat) (xs:List Value) (hs:a.eval s=v) (hown:w.ownsRow base e size v n xs)
 (el:List Value) (gx:Nat) (hx:a.eval x=.slice (some ⟨gx,0,none⟩) 1 1) (hgx:gx=w.heap.size) (hel:el.length=size) (h1:∀ u∈el,u.oneCell'=true)
 (h63:n+1<=maxLen) (hbytes:(n+1)*bytes<=140737488355328) (hbase:base<=w.heap.size)
 (h:∀ v' w',w'.ownsRow base e size v' (n+1) (xs++el)->Below base w w'->w.grownBy w' v.ownBlock->(v'.ownBlock=v.ownBlock\/∃ g,v'.ownBlock=some g/\w.heap.size<=g)->wpList P ops Q rest (a.put o.dst v') w') :
 wpList P ops Q (o::rest) a (w.alloc (.cells el.toArray e)) :=
 wpList_app1 hgd s x t ho base e size bytes z ht hi hzs hsz v n xs hs hown el (by rw [hx,hgx]) hel h1 h63 hbytes hbase h
def B (u:UInt8):Value:=.int .u8 u.toNat
def str (l:List UInt8):ByteArray:=⟨l.toArray⟩
theorem str_inj {l l':List UInt8} (h:str l=str l'):l=l':=by have:=congrArg (fun s:ByteArray=>s.data.toList) h;exact this
theorem ba_eq {s t:ByteArray} (h:s.data.toList=t.data.toList):s=t:=by
 apply ByteArray.ext;exact Array.toList_inj.1 h
theorem beq_no {s t:ByteArray} (h:s≠t):(s.toList == t.toList)=false:=by
 rw [beq_eq_false_iff_ne,Lib.toList_data,Lib.toList_data];exact fun e=>h (ba_eq e)
theorem beq_yes {s t:ByteArray} (h:s=t):(s.toList == t.toList)=true:=by rw [h];exact beq_self_eq_true _
theorem run_string_own (src dst e:TypeId) (hs:P.underlying src=some (.slice e)) (he:P.underlying e=some (.int .u8)) (hd:P.underlying dst=some .string)
 {base n:Nat} {v:Value} {l:List UInt8} (hown:w.ownsRow base e 1 v n (l.map B)):(convert src dst v).run P w=.ok (.string (str l)) w:=by
 have hlen:l.length=n:=by have:=hown.1;simpa using this
 rcases hown.2 with ⟨rfl,rfl⟩|⟨g,cap,cur,rfl,hg,hh,hnc,hcap,hcur,htk⟩
 .have:l=[]:=List.eq_nil_of_length_eq_zero hlen
  subst this
  exact run_convert_bytes_nil w src e hs he 0 0 dst hd
 .have:=run_convert_bytes_arg (P:=P) w src e hs he g 0 n cap (l.map fun x=>(x.toNat:Int)) (by simpa using hlen) (fun i hi=>by
   have hc:=World.ownsRow.cellAt (base:=base) (e:=e) (size:=1) (w:=w) (g:=g) (cap:=cap) (n:=n) (xs:=l.map B) ⟨hown.1,.inr ⟨g,cap,cur,rfl,hg,hh,hnc,hcap,hcur,htk⟩⟩ i (by omega)
   rw [Nat.zero_add,hc]
   simp [List.getD,List.getElem?_eq_getElem (show i<l.length by omega),B]) dst hd
  rw [this]
  congr 2
  simp [strOfNums,str,List.map_map,Function.comp_def]
end
structure Fr (F:Nat->Prop) (w w':World):Prop where
 os:w'.os=w.os
 tape:w'.tape=w.tape
 output:w'.output=w.output
 size:w.heap.size<=w'.heap.size
 block:∀ k,k<w.heap.size->¬F k->w'.heap[k]?=w.heap[k]?
section
variable {F G:Nat->Prop} {a b c w w':World}
theorem Fr.refl (F:Nat->Prop) (w:World):Fr F w w:=⟨rfl,rfl,rfl,Nat.le_refl _,fun _ _ _=>rfl⟩
theorem Fr.trans (h:Fr F a b) (k:Fr G b c) (hG:∀ k,k<a.heap.size->G k->F k):Fr F a c :=
 ⟨k.os.trans h.os,k.tape.trans h.tape,k.output.trans h.output,Nat.le_trans h.size k.size,fun i hi hf=>(k.block i (Nat.lt_of_lt_of_le hi h.size) (fun g=>hf (hG i hi g))).trans (h.block i hi hf)⟩
theorem Fr.mono (h:Fr F a b) (hG:∀ k,k<a.heap.size->F k->G k):Fr G a b:=⟨h.os,h.tape,h.output,h.size,fun k hk hg=>h.block k hk fun hf=>hg (hG k hk hf)⟩
theorem Fr.drewN (h:Fr F a b) (n:Nat):Fr F a (b.drewN n):=⟨h.os,h.tape,h.output,h.size,h.block⟩
theorem Fr.drew (h:Fr F a b):Fr F a b.drew:=⟨h.os,h.tape,h.output,h.size,h.block⟩
theorem Fr.alloc (h:Fr F a b) (o:Obj):Fr F a (b.alloc o):=h.trans (G:=fun _=>False) ⟨rfl,rfl,rfl,by simp,fun k hk _=>Below.heap_alloc _ _ _ hk⟩ (fun _ _ q=>q.elim)
theorem Fr.set (h:Fr F a b) {p:Addr} (hp:p.block<a.heap.size->F p.block) (u:Value):Fr F a (b.setCell p u) :=
 h.trans (G:=fun k=>k=p.block) ⟨rfl,rfl,rfl,by simp [World.setCell],fun k hk hne=>Below.heap_setCell _ _ _ _ hne⟩ (fun k hk e=>by subst e;exact hp hk)
theorem Fr.alike (h:Fr F a b) (hc:c.Alike b) (ht:c.tape=b.tape):Fr F a c:=⟨hc.2.1.trans h.os,ht.trans h.tape,hc.2.2.trans h.output,by rw [hc.1];exact h.size,fun k hk hf=>by rw [hc.1];exact h.block k hk hf⟩
theorem Fr.of_below (h:Below a.heap.size a b):Fr F a b:=⟨h.os,h.tape,h.output,h.size,fun k hk _=>h.block k hk⟩
theorem Fr.of_belowB {B:Nat} (h:Below B a b):Fr (fun k=>B<=k) a b:=⟨h.os,h.tape,h.output,h.size,fun k _ hf=>h.block k (by omega)⟩
theorem Fr.of_grown {row:Option Nat} (h:a.grownBy b row) (hr:∀ k,row=some k->F k):Fr F a b:=⟨h.os,h.tape,h.output,h.size,fun k hk hf=>h.block k hk fun e=>hf (hr k e.symm)⟩
theorem Fr.to_below {B:Nat} (h:Fr F a b) (hB:B<=a.heap.size) (hF:∀ k,F k->B<=k):Below B a b:=⟨h.os,h.tape,h.output,h.size,fun k hk=>h.block k (by omega) fun hf=>by have:=hF k hf;omega⟩
theorem Fr.cell (h:Fr F a b) {p:Addr} (hp:p.block<a.heap.size) (hf:¬F p.block):b.cell? p=a.cell? p:=World.cell?_of_block (h.block p.block hp hf)
def Blk (w:World) (g:Nat) (t:TypeId) (cs:Array Value):Prop:=w.heap[g]?=some (.cells cs t (0,0))
theorem Blk.lt {g:Nat} {t:TypeId} {cs:Array Value} (h:Blk w g t cs):g<w.heap.size:=by
 rcases Nat.lt_or_ge g w.heap.size with hlt|hge
 .exact hlt
 .unfold Blk at h;rw [Array.getElem?_eq_none hge] at h;cases h
section
variable {g:Nat} {t:TypeId} {cs:Array Value}
theorem Blk.cell (h:Blk w g t cs) (i:Nat):w.cell? ⟨g,i,none⟩=cs[i]?:=cell_of_row w g i cs t (0,0) h
theorem Blk.frozen (h:Blk w g t cs) (i:Nat):w.frozen? ⟨g,i,none⟩=false:=by unfold Blk at h;simp [World.frozen?,h]
theorem Blk.new (w:World) (t:TypeId) (cs:Array Value):Blk (w.alloc (.cells cs t)) w.heap.size t cs:=heap_alloc_new w _
theorem Blk.drewN (h:Blk w g t cs) (n:Nat):Blk (w.drewN n) g t cs:=h
theorem Blk.alloc (h:Blk w g t cs) (o:Obj):Blk (w.alloc o) g t cs:=(Below.heap_alloc w o g h.lt).trans h
theorem Blk.set_ (h:Blk w g t cs) (i:Nat) (u:Value):Blk (w.setCell ⟨g,i,none⟩ u) g t (cs.setIfInBounds i u):=by
 unfold Blk at h ⊢
 simp [World.setCell,Array.getElem?_modify,h]
theorem Blk.far (h:Blk w g t cs) {p:Addr} (hp:g≠p.block) (u:Value):Blk (w.setCell p u) g t cs:=(Below.heap_setCell w p u g hp).trans h
theorem Blk.fr (h:Blk w g t cs) (hb:Fr F w w') (hg:¬F g):Blk w' g t cs:=(hb.block g h.lt hg).trans h
theorem Blk.alike (h:Blk w g t cs) (ha:w'.Alike w):Blk w' g t cs:=by unfold Blk at *;rw [ha.1];exact h
theorem Blk.ne_ {g':Nat} {t':TypeId} {cs':Array Value} (h:Blk w g t cs) (h':Blk w g' t' cs') (hne:t≠t'):g≠g':=by
 rintro rfl
 unfold Blk at h h'
 rw [h] at h'
 injection h' with h'
 injection h' with _ ht
 exact hne ht
theorem own_blk_ne {base:Nat} {e:TypeId} {size n:Nat} {v:Value} {xs:List Value} (h:w.ownsRow base e size v n xs) (hg:Blk w g t cs) (hne:e≠t):v.ownBlock≠some g:=by
 rcases h.2 with ⟨rfl,_⟩|⟨g',cap,cur,rfl,_,hh,_⟩
 .simp [Value.ownBlock]
 .intro he
  have:g'=g:=by simpa [Value.ownBlock] using he
  subst this
  exact Blk.ne_ (t:=e) hh hg hne rfl
end
theorem own_fr {base:Nat} {e:TypeId} {size n:Nat} {v:Value} {xs:List Value} (h:w.ownsRow base e size v n xs) (hb:Fr F w w') (hf:∀ k,v.ownBlock=some k->¬F k):w'.ownsRow base e size v n xs:=by
 refine ⟨h.1,?_⟩
 rcases h.2 with h0|⟨g,cap,cur,rfl,hg,hh,r⟩
 .exact .inl h0
 .refine .inr ⟨g,cap,cur,rfl,hg,?_,r⟩
  have hlt:g<w.heap.size:=Blk.lt (t:=e) hh
  rw [hb.block g hlt (hf g rfl)]
  exact hh
theorem own_alike {base:Nat} {e:TypeId} {size n:Nat} {v:Value} {xs:List Value} (h:w.ownsRow base e size v n xs) (ha:w'.Alike w):w'.ownsRow base e size v n xs:=by
 unfold World.ownsRow at *;rw [ha.1];exact h
end
section
variable {κ:Type}
def MapIs (w:World) (b:Nat) (key:κ->Value) (kvs:List (κ × Value)):Prop :=
 ∃ (es:Array MapEntry) (c:Nat),w.heap[b]?=some (.map es c)/\es.toList.map (fun e=>(e.key,e.val))=kvs.map (fun x=>(key x.1,x.2))
variable {P:Program} {w w':World} {K T E:TypeId} {key:κ->Value} {b:Nat} {kvs:List (κ × Value)} {F:Nat->Prop}
theorem MapIs.lt (h:MapIs w b key kvs):b<w.heap.size:=by
 obtain ⟨es,c,h,_⟩:=h
 rcases Nat.lt_or_ge b w.heap.size with hlt|hge
 .exact hlt
 .rw [Array.getElem?_eq_none hge] at h;cases h
theorem MapIs.ne {t:TypeId} {cs:Array Value} {g:Nat} (h:MapIs w b key kvs) (hb:Blk w g t cs):b≠g:=by
 rintro rfl
 obtain ⟨es,c,h,_⟩:=h
 unfold Blk at hb
 rw [hb] at h;cases h
theorem MapIs.fr (h:MapIs w b key kvs) (hf:Fr F w w') (hb:¬F b):MapIs w' b key kvs:=by
 have hl:=h.lt
 obtain ⟨es,c,h,e⟩:=h
 exact ⟨es,c,(hf.block b hl hb).trans h,e⟩
theorem MapIs.drewN (h:MapIs w b key kvs) (n:Nat):MapIs (w.drewN n) b key kvs:=h
theorem MapIs.made (w:World) (key:κ->Value):MapIs (w.alloc (.map #[] 0)) w.heap.size key []:=by
 refine ⟨#[],0,?_,rfl⟩
 show (w.heap.push _)[w.heap.size]?=_
 simp
end
theorem obj_get {P:Program} {w:World} {r:Nat} {es:Array MapEntry} {c:Nat} (hb:w.heap[r]?=some (.map es c)):(getObj r).run P w=.ok (.map es c) w:=by
 simp [getObj,Sem.run,hb]
theorem obj_set {P:Program} {w:World} {r:Nat} {es:Array MapEntry} {c:Nat} (o:Obj) (hb:w.heap[r]?=some (.map es c)):(setObj r o).run P w=.ok () { w with heap:=w.heap.setIfInBounds r o }:=by
 simp [setObj,Sem.run,hb]
section
variable {κ:Type} [DecidableEq κ]
def lookI (k:κ):List (κ × Value)->Nat->Option (Nat × Value)
 | [],_=>none
 | x::r,i=>if x.1=k then some (i,x.2) else lookI k r (i+1)
def mget (k:κ):List (κ × Value)->Option Value
 | []=>none
 | x::r=>if x.1=k then some x.2 else mget k r
def mput (k:κ) (v:Value):List (κ × Value)->List (κ × Value)
 | []=>[(k,v)]
 | x::r=>if x.1=k then (k,v)::r else x::mput k v r
def mdel (k:κ):List (κ × Value)->List (κ × Value)
 | []=>[]
 | x::r=>if x.1=k then r else x::mdel k r
theorem map_eraseIdx {α β:Type} (f:α->β):∀ (l:List α) (i:Nat),(l.eraseIdx i).map f=(l.map f).eraseIdx i
 | [],_=>rfl
 | _::_,0=>rfl
 | x::r,i+1=>by simp [map_eraseIdx f r i]
theorem lookI_get (k:κ):∀ (l:List (κ × Value)) i,(lookI k l i).map (·.2)=mget k l
 | [],_=>rfl
 | x::r,i=>by
   unfold lookI mget
   split
   .rfl
   .exact lookI_get k r (i+1)
theorem lookI_none {k:κ}:∀ {l:List (κ × Value)} {i},lookI k l i=none->∀ v,mput k v l=l++[(k,v)]/\mdel k l=l
 | [],_,_,_=>⟨rfl,rfl⟩
 | x::r,i,h,v=>by
   unfold lookI at h
   unfold mput mdel
   split at h
   .cases h
   .rename_i hx
    rw [if_neg hx,if_neg hx,(lookI_none h v).1,(lookI_none h v).2]
    exact ⟨rfl,rfl⟩
theorem lookI_some {k:κ}:∀ {l:List (κ × Value)} {i j:Nat} {u:Value},lookI k l i=some (j,u)->∃ m,j=i+m/\m<l.length/\(l[m]?).map (·.1)=some k/\(∀ v,mput k v l=l.set m (k,v))/\mdel k l=l.eraseIdx m
 | [],_,_,_,h=>by cases h
 | x::r,i,j,u,h=>by
   unfold lookI at h
   split at h
   .rename_i hx
    injection h with h;injection h with h1 h2
    refine ⟨0,by omega,by simp,by simp [hx],fun v=>?_,?_⟩
    .unfold mput;rw [if_pos hx];rfl
    .unfold mdel;rw [if_pos hx];rfl
   .rename_i hx
    obtain ⟨m,e1,e2,e3,e4,e5⟩:=lookI_some h
    refine ⟨m+1,by omega,by simpa using e2,by simpa using e3,fun v=>?_,?_⟩
    .unfold mput;rw [if_neg hx,e4];rfl
    .unfold mdel;rw [if_neg hx,e5];rfl
theorem mget_put (k k':κ) (v:Value):∀ l:List (κ × Value),mget k' (mput k v l)=if k'=k then some v else mget k' l
 | []=>by unfold mput mget;by_cases h:k=k' <;> simp [h,eq_comm,mget]
 | x::r=>by
   have ih:=mget_put k k' v r
   unfold mput
   by_cases hx:x.1=k
   .rw [if_pos hx]
    unfold mget
    by_cases h:k=k'
    .rw [if_pos h,if_pos h.symm]
    .rw [if_neg h,if_neg (Ne.symm h),if_neg (by rw [hx];exact h)]
   .rw [if_neg hx]
    unfold mget
    by_cases h:x.1=k'
    .rw [if_pos h,if_pos h,if_neg (by rw [<-h];exact hx)]
    .rw [if_neg h,if_neg h];exact ih
theorem mget_mem {k:κ} {v:Value}:∀ {l:List (κ × Value)},mget k l=some v->(k,v)∈l
 | [],h=>by cases h
 | x::r,h=>by
   unfold mget at h
   split at h
   .rename_i hx;injection h with h;subst h;subst hx;simp
   .exact List.mem_cons_of_mem _ (mget_mem h)
theorem mget_of_mem {k:κ} {v:Value}:∀ {l:List (κ × Value)},(l.map (·.1)).Nodup->(k,v)∈l->mget k l=some v
 | [],_,h=>by cases h
 | x::r,hn,h=>by
   rw [List.map_cons,List.nodup_cons] at hn
   unfold mget
   rcases List.mem_cons.1 h with e|e
   .rw [<-e];simp
   .rw [if_neg (fun q=>hn.1 (by rw [q];exact List.mem_map.2 ⟨(k,v),e,rfl⟩))]
    exact mget_of_mem hn.2 e
theorem mget_none {k:κ}:∀ {l:List (κ × Value)},k∉l.map (·.1)->mget k l=none
 | [],_=>rfl
 | x::r,h=>by
   rw [List.map_cons,List.mem_cons,not_or] at h
   unfold mget
   rw [if_neg (Ne.symm h.1)]
   exact mget_none h.2
theorem mget_none' {k:κ}:∀ {l:List (κ × Value)},mget k l=none->k∉l.map (·.1)
 | [],_=>by simp
 | x::r,h=>by
   unfold mget at h
   split at h
   .cases h
   .rename_i hx
    rw [List.map_cons,List.mem_cons,not_or]
    exact ⟨Ne.symm hx,mget_none' h⟩
theorem mput_new {k:κ} (v:Value):∀ {l:List (κ × Value)},k∉l.map (·.1)->mput k v l=l++[(k,v)]
 | [],_=>rfl
 | x::r,h=>by
   rw [List.map_cons,List.mem_cons,not_or] at h
   unfold mput
   rw [if_neg (Ne.symm h.1),mput_new v h.2]
   rfl
theorem mdel_perm {k:κ} {v:Value}:∀ {l:List (κ × Value)},mget k l=some v->((k,v)::mdel k l).Perm l
 | [],h=>by cases h
 | x::r,h=>by
   unfold mget at h
   unfold mdel
   split at h
   .rename_i hx
    injection h with h
    rw [if_pos hx]
    have:(k,v)=x:=by rw [<-h,<-hx]
    rw [this]
   .rename_i hx
    rw [if_neg hx]
    exact (List.Perm.swap _ _ _).trans ((mdel_perm h).cons _)
theorem mdel_none {k:κ}:∀ {l:List (κ × Value)},mget k l=none->mdel k l=l
 | [],_=>rfl
 | x::r,h=>by
   unfold mget at h
   unfold mdel
   split at h
   .cases h
   .rename_i hx;rw [if_neg hx,mdel_none h]
structure KeyLaw (P:Program) (K:TypeId) (key:κ->Value):Prop where
 check:∀ (b:Bool) (k:κ) (w:World),(Instr.checkKey b 10000 K (key k)).run P w=.ok () w
 find:∀ (es:List MapEntry) (kvs:List (κ × Value)) (k:κ) (w:World),es.map (fun e=>(e.key,e.val))=kvs.map (fun x=>(key x.1,x.2))->(Instr.findKey K (key k) es).run P w=.ok (lookI k kvs 0) w
 stays:∀ k:κ,Instr.sameBits 10000 (key k) (key k)=true
variable {P:Program} {w w':World} {K T E:TypeId} {key:κ->Value} {b:Nat} {kvs:List (κ × Value)} {F:Nat->Prop}
theorem MapIs.lookup (h:MapIs w b key kvs) (L:KeyLaw P K key) (ht:P.underlying T=some (.map K E)) {z:Value} (hz:(zeroValue E).run P w=.ok z w) (k:κ) (ok:Bool) :
 (Instr.lookup T (.map (some b)) (key k) ok).run P w=.ok (if ok then .tuple #[(mget k kvs).getD z,.bool (mget k kvs).isSome] else (mget k kvs).getD z) w:=by
 obtain ⟨es,c,h,e⟩:=h
 have hf:=L.find es.toList kvs k w e
 have hg:=lookI_get k kvs 0
 simp only [Instr.lookup,Sem.run_bind,run_underlying ht,Result.andThen_ok,obj_get h,L.check,Sem.run_pure,hf]
 cases hl:lookI k kvs 0 with
 | none=>rw [hl] at hg;simp at hg;simp [<-hg,hz]
 | some x=>rw [hl] at hg;simp at hg;simp [<-hg]
omit [DecidableEq κ] in
theorem MapIs.len (h:MapIs w b key kvs) (ht:P.underlying T=some (.map K E)) (ty:TypeId):(Builtin.len_ #[T] ty #[.map (some b)]).run P w=.ok (.int .i64 kvs.length) w:=by
 obtain ⟨es,c,h,e⟩:=h
 have hl:=congrArg List.length e
 simp at hl
 simp [Builtin.len_,run_underlying ht,obj_get h,goInt,hl]
theorem mapw_fr (w:World) (b:Nat) (o:Obj):Fr (fun k=>k=b) w { w with heap:=w.heap.setIfInBounds b o } :=
 ⟨rfl,rfl,rfl,by simp,fun k hk hne=>by simp [Array.getElem?_setIfInBounds,Ne.symm hne]⟩
theorem mapw_at (w:World) {b:Nat} (o:Obj) (hb:b<w.heap.size):({ w with heap:=w.heap.setIfInBounds b o }:World).heap[b]?=some o:=by simp [hb]
theorem MapIs.update (h:MapIs w b key kvs) (L:KeyLaw P K key) (ht:P.underlying T=some (.map K E)) (k:κ) (v:Value) :
 ∃ w',(Instr.mapUpdate T (.map (some b)) (key k) v).run P w=.ok () w'/\MapIs w' b key (mput k v kvs)/\Fr (fun k=>k=b) w w':=by
 have hl:=h.lt
 obtain ⟨es,c,h,e⟩:=h
 have hf:=L.find es.toList kvs k w e
 simp only [Instr.mapUpdate,Sem.run_bind,run_underlying ht,Result.andThen_ok,obj_get h,L.check,hf]
 cases hlk:lookI k kvs 0 with
 | none =>
   refine ⟨_,obj_set _ h,⟨_,_,mapw_at w _ hl,?_⟩,mapw_fr _ _ _⟩
   rw [(lookI_none hlk v).1]
   simp [e]
 | some x =>
   obtain ⟨i,u⟩:=x
   obtain ⟨m,e1,e2,e3,e4,_⟩:=lookI_some hlk
   obtain rfl:i=m:=by omega
   have hel:=congrArg List.length e
   simp at hel
   have hik:(((es[i]?).map (·.key)).getD (key k))=key k:=by
    have h2:=congrArg (fun l:List (Value × Value)=>(l[i]?).map (·.1)) e
    simp only [List.getElem?_map,Array.getElem?_toList,Option.map_map,Function.comp_def] at h2
    rw [h2]
    have:(kvs[i]?).map (fun x=>key x.1)=some (key k):=by
     have:=congrArg (Option.map key) e3
     simpa [Option.map_map,Function.comp_def] using this
    rw [this];rfl
   refine ⟨_,?_,⟨_,_,mapw_at w (.map (es.modify i fun e=>{ e with key:=key k,val:=v }) c) hl,?_⟩,mapw_fr _ _ _⟩
   .simp only [hik,Instr.keyThatStays,L.stays,if_true,Sem.run_pure,Result.andThen_ok]
    exact obj_set _ h
   .rw [e4,Array.toList_modify]
    apply List.ext_getElem?
    intro j
    have h2:=congrArg (fun l:List (Value × Value)=>l[j]?) e
    simp only [List.getElem?_map,Array.getElem?_toList] at h2 ⊢
    rw [List.getElem?_modify,List.getElem?_set]
    by_cases hj:i=j
    .subst hj
     have hil:i<es.size:=by omega
     simp [hil,e2]
    .simp only [hj,if_false,Option.map_eq_map,id_map',Option.map_id',Array.getElem?_toList]
     exact h2
theorem MapIs.delete (h:MapIs w b key kvs) (L:KeyLaw P K key) (ht:P.underlying T=some (.map K E)) (k:κ) (t2 ty:TypeId) :
 ∃ w',(Builtin.delete_ #[T,t2] ty #[.map (some b),key k]).run P w=.ok (.tuple #[]) w'/\MapIs w' b key (mdel k kvs)/\Fr (fun k=>k=b) w w':=by
 have hl:=h.lt
 obtain ⟨es,c,h,e⟩:=h
 have hf:=L.find es.toList kvs k w e
 have hgo:∀ o:Obj,(setObj b o).run P w=.ok () { w with heap:=w.heap.setIfInBounds b o }:=fun o=>obj_set o h
 cases hlk:lookI k kvs 0 with
 | none =>
   refine ⟨{ w with heap:=w.heap.setIfInBounds b (.map es c) },?_,⟨_,_,mapw_at w _ hl,?_⟩,mapw_fr _ _ _⟩
   .simp [Builtin.delete_,run_underlying ht,obj_get h,L.check,hf,hlk,hgo]
   .rw [(lookI_none hlk (.bool true)).2];exact e
 | some x =>
   obtain ⟨i,u⟩:=x
   obtain ⟨m,e1,e2,e3,_,e5⟩:=lookI_some hlk
   obtain rfl:i=m:=by omega
   have hel:=congrArg List.length e
   simp at hel
   refine ⟨{ w with heap:=w.heap.setIfInBounds b (.map (es.eraseIdxIfInBounds i) c) },?_,⟨_,_,mapw_at w _ hl,?_⟩,mapw_fr _ _ _⟩
   .simp [Builtin.delete_,run_underlying ht,obj_get h,L.check,hf,hlk,hgo]
   .rw [e5]
    have:(es.eraseIdxIfInBounds i).toList=es.toList.eraseIdx i:=by
     simp [Array.eraseIdxIfInBounds,show i<es.size by omega]
    rw [this,map_eraseIdx,e,map_eraseIdx]
end
def intKey (n:Int):Value:=.int .i64 n
def strKey (s:ByteArray):Value:=.string s
theorem find_now {κ:Type} [DecidableEq κ] {key:κ->Value} {td:TypeDesc} (h:∀ a b:κ,Instr.sameNow td (key a) (key b)=some (decide (b=a))) (k:κ) :
 ∀ (es:List MapEntry) (kvs:List (κ × Value)) (i:Nat),es.map (fun e=>(e.key,e.val))=kvs.map (fun x=>(key x.1,x.2))->Instr.findNow td (key k) es i=some (lookI k kvs i)
 | [],[],_,_=>rfl
 | [],_::_,_,e=>by simp at e
 | _::_,[],_,e=>by simp at e
 | e::es,x::kvs,i,he=>by
   simp only [List.map_cons,List.cons.injEq,Prod.mk.injEq] at he
   obtain ⟨⟨h1,h2⟩,h3⟩:=he
   unfold Instr.findNow lookI
   rw [h1,h]
   by_cases hx:x.1=k
   .rw [if_pos hx,h2];simp [hx]
   .rw [if_neg hx];simp [hx];exact find_now h k es kvs (i+1) h3
theorem check_int {P:Program} {K:TypeId} (hK:P.underlying K=some (.int .i64)) (b:Bool) (k:Int) (w:World):∀ n:Nat,0<n->(Instr.checkKey b n K (.int .i64 k)).run P w=.ok () w
 | 0,h=>absurd h (by omega)
 | n+1,_=>by simp [Instr.checkKey,run_underlying hK]
theorem check_str {P:Program} {K:TypeId} (hK:P.underlying K=some .string) (b:Bool) (k:ByteArray) (w:World):∀ n:Nat,0<n->(Instr.checkKey b n K (.string k)).run P w=.ok () w
 | 0,h=>absurd h (by omega)
 | n+1,_=>by simp [Instr.checkKey,run_underlying hK]
theorem bits_int (k:Int):∀ n:Nat,Instr.sameBits n (.int .i64 k) (.int .i64 k)=true
 | 0=>by simp [Instr.sameBits]
 | n+1=>by simp [Instr.sameBits]
theorem ba_beq_self (k:ByteArray):(k == k)=true:=by
 rw [beq_toListBytes];exact beq_self_eq_true _
theorem bits_str (k:ByteArray):∀ n:Nat,Instr.sameBits n (.string k) (.string k)=true
 | 0=>by simp only [Instr.sameBits];exact ba_beq_self k
 | n+1=>by simp only [Instr.sameBits];exact ba_beq_self k
theorem intLaw {P:Program} {K:TypeId} (hK:P.underlying K=some (.int .i64)):KeyLaw P K intKey:=by
 refine ⟨fun b k w=>check_int hK b k w 10000 (by omega),fun es kvs k w h=>?_,fun k=>bits_int k 10000⟩
 have:=find_now (key:=intKey) (td:=.int .i64) (fun a b=>by
  simp only [Instr.sameNow,intKey,if_true,Option.some.injEq]
  by_cases h:b=a
  .rw [h,decide_eq_true rfl];exact beq_self_eq_true a
  .rw [decide_eq_false h];exact beq_eq_false_iff_ne.2 (Ne.symm h)) k es kvs 0 h
 simp [Instr.findKey,run_underlying hK,this]
theorem strLaw {P:Program} {K:TypeId} (hK:P.underlying K=some .string):KeyLaw P K strKey:=by
 refine ⟨fun b k w=>check_str hK b k w 10000 (by omega),fun es kvs k w h=>?_,fun k=>bits_str k 10000⟩
 have:=find_now (key:=strKey) (td:=.string) (fun a b=>by
  simp only [Instr.sameNow,strKey,Option.some.injEq]
  rw [beq_toListBytes]
  by_cases h:b=a
  .rw [h,decide_eq_true rfl];exact beq_self_eq_true _
  .rw [decide_eq_false h];exact beq_no (Ne.symm h)) k es kvs 0 h
 simp [Instr.findKey,run_underlying hK,this]
abbrev T:=List UInt8
theorem all_u8 {p:UInt8->Bool} (h:((List.range 256).all fun n=>p (UInt8.ofNat n))=true) (c:UInt8):p c=true:=by
 rw [List.all_eq_true] at h
 have:=h c.toNat (List.mem_range.2 c.toNat_lt)
 rwa [UInt8.ofNat_toNat] at this
def lo (c:UInt8):UInt8:=if 65<=c/\c<=90 then c+32 else c
def dig (c:UInt8):Bool:=decide (48<=c/\c<=57)
def alp (c:UInt8):Bool:=decide (65<=c/\c<=90\/97<=c/\c<=122)
def hexB (c:UInt8):Bool:=decide (48<=c/\c<=57\/65<=c/\c<=70\/97<=c/\c<=102)
def tok (c:UInt8):Bool:=dig c || alp c || decide (c∈([45,46,33,37,42,95,43,96,39,126]:List UInt8))
def pla (c:UInt8):Bool:=dig c || alp c || decide (c∈([45,95,46,33,126,42,39,40,41]:List UInt8))
def bla (c:UInt8):Bool:=decide (c=32\/c=9)
def hos (c:UInt8):Bool:=dig c || alp c || decide (c=45\/c=46)
def cls (c:UInt8):Nat:=(if dig c then 1 else 0)+(if alp c then 2 else 0)+(if hexB c then 4 else 0)+(if tok c then 8 else 0)+(if pla c then 16 else 0)+(if bla c then 32 else 0)+(if hos c then 64 else 0)
def users:T:=[38,61,43,36,44,59,63,47]
def params:T:=[91,93,47,58,38,43,36]
def headers:T:=[91,93,47,63,58,43,36]
def hx (n:UInt8):UInt8:=if n<10 then 48+n else 55+n
def wor (c:UInt8):UInt8:=if c<=57 then c-48 else lo c-97+10
def unesc:T->Option T
 | []=>some []
 | c::r=>if c≠37 then (unesc r).map (c::·) else match r with
   | a::b::r=>if hexB a&&hexB b then (unesc r).map ((wor a*16+wor b)::·) else none
   | _=>none
def low (l:T):T:=l.map lo
def plainT (keep l:T):Option T:=if l.all (fun c=>decide (c=37) || pla c || decide (c∈keep)) then unesc l else none
def cutT (c:UInt8):T->T × T × Bool
 | []=>([],[],false)
 | x::r=>if x=c then ([],r,true) else (x::(cutT c r).1,(cutT c r).2.1,(cutT c r).2.2)
def splitT (c:UInt8):T->List T
 | []=>[[]]
 | x::r=>if x=c then []::splitT c r else match splitT c r with
   | p::ps=>(x::p)::ps
   | []=>[[x]]
def schemeB (l:T):Bool:=decide (l=[115,105,112]\/l=[115,105,112,115]\/l=[112,114,101,115])
def sixB (l:T):Bool:=decide (4<=l.length)&&decide (l.getLast?=some 93)&&((l.drop 1).dropLast.all fun c=>decide (c=58) || decide (c=46) || hexB c)&&decide (2<=((l.drop 1).dropLast.filter fun c=>decide (c=58)).length)
def partB (l:T):Bool:=l.all hos&&decide (l.head?≠some 45)&&decide (l.getLast?≠some 45)&&decide (l≠[])
def hostB (l:T):Bool:=decide (l≠[])&&decide (l.length<=64)&&decide (low l=l)&&(if l.head?=some 91 then sixB l else (splitT 46 l).all partB)
structure Par where
 name:T
 value:T
 has:Bool
deriving DecidableEq
structure Uri where
 scheme:T
 user:T
 host:T
 port:Int
 params:List Par
 headers:List Par
deriving DecidableEq
def noUri:Uri:=⟨[],[],[],0,[],[]⟩
def parOk (p:Par):Bool:=decide (p.name≠[])&&decide (p.name.length<=64)&&decide (p.value.length<=64)&&(p.has || decide (p.value=[]))
def listB (l:List Par):Bool:=decide (l.length<=16)&&l.all parOk&&decide ((l.map fun p=>low p.name).Nodup)
def checkE (u:Uri):Int :=
 if schemeB u.scheme=false then 30 else if 64<u.user.length then 31 else if hostB u.host=false then 32 else if u.port<0\/65535<u.port then 33
 else if listB u.params=false then 34 else if listB u.headers=false then 34 else if u.headers.all (·.has)=false then 34 else 0
def endT:Bool->T->Nat
 | _,[]=>0
 | inside,c::r=>if inside=false/\c=58 then 0 else endT (if c=91 then true else if c=93 then false else inside) r+1
def valT (l:T):Nat:=l.foldl (fun n c=>10*n+(c-48).toNat) 0
def portO (l:T):Option Nat:=if l≠[]/\l.all dig=true/\1<=valT l/\valT l<=65535 then some (valT l) else none
def whereE (l:T):T × Int × Int :=
 let h:=low (l.take (endT false l))
 if hostB h=false then ([],0,32) else if endT false l=l.length then (h,0,0) else match portO (l.drop (endT false l+1)) with
  | some n=>(h,n,0)
  | none=>([],0,33)
def readP (keep:T):List T->Option (List Par)
 | []=>some []
 | s::r=>match plainT keep (cutT 61 s).1,plainT keep (cutT 61 s).2.1 with
   | some n,some v=>(readP keep r).map (⟨n,v,(cutT 61 s).2.2⟩::·)
   | _,_=>none
def userO (l:T):Option T:=match plainT users l with
 | some t=>if t=[]\/64<t.length then none else some t
 | none=>none
def finE (u:Uri):Uri × Int:=if checkE u=0 then (u,0) else (noUri,checkE u)
def restE (scheme user rest:T):Uri × Int :=
 let q:=cutT 63 rest
 let l:=splitT 59 q.1
 let w:=whereE (l.headD [])
 if w.2.2≠0 then (noUri,w.2.2) else match readP params l.tail,(if q.2.2 then readP headers (splitT 38 q.2.1) else some []) with
  | some p,some h=>finE ⟨scheme,user,w.1,w.2.1,p,h⟩
  | _,_=>(noUri,34)
def parseE (s:T):Uri × Int :=
 let c:=cutT 58 s
 if c.2.2=false\/schemeB (low c.1)=false then (noUri,30) else
  let a:=cutT 64 c.2.1
  if a.2.2 then match userO a.1 with
   | some t=>restE (low c.1) t a.2.1
   | none=>(noUri,31)
  else restE (low c.1) [] c.2.1
theorem cut_at {c:UInt8}:∀ {a:T} (_:c∉a) (b:T),cutT c (a++c::b)=(a,b,true)
 | [],_,b=>by unfold cutT;simp
 | x::a,h,b=>by
   have hx:x≠c:=fun e=>h (e▸List.mem_cons_self)
   have:=cut_at (a:=a) (fun q=>h (List.mem_cons_of_mem _ q)) b
   show cutT c (x::(a++c::b))=_
   unfold cutT
   rw [if_neg hx,this]
theorem cut_no {c:UInt8}:∀ {a:T} (_:c∉a),cutT c a=(a,[],false)
 | [],_=>rfl
 | x::a,h=>by
   have hx:x≠c:=fun e=>h (e▸List.mem_cons_self)
   have:=cut_no (a:=a) (fun q=>h (List.mem_cons_of_mem _ q))
   unfold cutT
   rw [if_neg hx,this]
theorem val_app (a:T) (c:UInt8):valT (a++[c])=10*valT a+(c-48).toNat:=by unfold valT;rw [List.foldl_append];rfl
theorem endT_cons (b:Bool) (c:UInt8) (r:T):endT b (c::r)=if b=false/\c=58 then 0 else endT (if c=91 then true else if c=93 then false else b) r+1:=rfl
end Go.Proofs.YthkadehlclcggaaGreatDoor
