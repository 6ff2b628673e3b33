/- Chapter 16: Live: the order of publications, slices.SortFunc at an own row of them. Chapter 16: Live, walked. Chapter 16: the store as the laws hold it; the chapter's example. Chapter 16: answers told apart. Chapter 16: the chapter's example. Chapter 16: a publication lasts. -/
import Derived.Test.YthfmekdbcoaolaaGreatDoorGy34
import Derived.Test.YthfmekdbcoaolaaGreatDoorGy38
import Derived.Sort.Walk0
import Derived.Shelf.SlSortCmp.NoneTotal
import Derived.Test.YthfmekdbcoaolaaGreatDoorGy36
import Derived.Laws.StructEq
namespace Go.Proofs.YthfmekdbcoaolaaGreatDoor
set_option linter.unusedSimpArgs false
set_option linter.unusedVariables false
open Go.RowKit Go.Shelf Go.Lib Go.Sort
open Go.Lib (hid)
abbrev SP:={ x:RP // 0<=x.p.number/\x.p.number<=1000001/\x.vt.oneCell'=true/\x.vn.oneCell'=true }
instance:Inhabited SP:=⟨⟨⟨⟨0,[],[],0,⟨[],[],[]⟩⟩,.slice none 0 0,.slice none 0 0⟩,by show (0:Int)<=0;omega,by show (0:Int)<=1000001;omega,rfl,rfl⟩⟩
def spC (x:SP):List Value:=rpC x.1
theorem spC_len (x:SP):(spC x).length=7:=rfl
def cmpS (x y:SP):Int:=x.1.p.number-y.1.p.number
theorem ltOf_cmpS (x y:SP):ltOf cmpS x y=decide (x.1.p.number<y.1.p.number):=by
 unfold ltOf cmpS
 by_cases h:x.1.p.number<y.1.p.number
 .rw [decide_eq_true h];simp;omega
 .rw [decide_eq_false h];simp;omega
theorem swoS:SWO (ltOf cmpS) where
 irrefl x:=by rw [ltOf_cmpS];exact decide_eq_false (by omega)
 trans x y z h1 h2:=by
  rw [ltOf_cmpS] at *
  have h1:=of_decide_eq_true h1
  have h2:=of_decide_eq_true h2
  exact decide_eq_true (by omega)
 ntrans x y z h1 h2:=by
  rw [ltOf_cmpS] at *
  have h1:=of_decide_eq_false h1
  have h2:=of_decide_eq_false h2
  exact decide_eq_false (by omega)
set_option maxHeartbeats 4000000 in
theorem closS_any (x y:SP) (W:World):Calls Tryz.prog 40 #[.agg (spC x).toArray,.agg (spC y).toArray] W fun e w'=>e=.returned (.int .i64 (cmpS x y))/\∃ q os',w'=grow (W.drewN q) os':=by
 obtain ⟨⟨⟨a1,a2,a3,a4,a5⟩,a6,a7⟩,ha,hb,_,_⟩:=x
 obtain ⟨⟨⟨b1,b2,b3,b4,b5⟩,b6,b7⟩,ga,gb,_,_⟩:=y
 unfold cmpS spC rpC
 simp only at ha hb ga gb ⊢
 obtain ⟨w0,hw0⟩:∃ w0,(W.alloc (.cells #[.int .i64 a1,.string (str a2),.string (str a3),.int .i64 a4,.string (str a5.ent),a6,a7] 66)).alloc (.cells #[.int .i64 b1,.string (str b2),.string (str b3),.int .i64 b4,.string (str b5.ent),b6,b7] 66)=w0:=⟨_,rfl⟩
 have k1:Blk w0 W.heap.size 66 #[.int .i64 a1,.string (str a2),.string (str a3),.int .i64 a4,.string (str a5.ent),a6,a7]:=hw0▸(Blk.new W _ _).alloc _
 have k2:Blk w0 (W.heap.size+1) 66 #[.int .i64 b1,.string (str b2),.string (str b3),.int .i64 b4,.string (str b5.ent),b6,b7]:=hw0▸Blk.new' (W.alloc _) _ _ (by simp)
 have c1:=k1.cell 0
 have c2:=k2.cell 0
 have hwr:IntKind.i64.wrap (a1-b1)=a1-b1:=IntWalk.i64_in _ (by omega)
 have HW0:=hid hw0
 clear k1 k2
 go_enter Tryz.func40,Tryz.ntmps40
 go_wp2
 go_ret
 exact ⟨rfl,0,#[.cells #[.int .i64 a1,.string (str a2),.string (str a3),.int .i64 a4,.string (str a5.ent),a6,a7] 66]++#[.cells #[.int .i64 b1,.string (str b2),.string (str b3),.int .i64 b4,.string (str b5.ent),b6,b7] 66],by rw [<-HW0.out];simp only [alloc_eq_grow,grow_grow];rfl⟩
def SortPPost (w:World) (base:Nat) (v:Value) (d:List SP) (e:Ending) (w':World):Prop :=
 ∃ d',e=.returned (.tuple #[])/\d'.length=d.length/\w'.ownsRow base 66 7 v d.length (rows spC d')/\d'.Perm d/\d'.Pairwise (fun a b=>a.1.p.number<=b.1.p.number)/\w.grownBy w' v.ownBlock
theorem fl_rows {α:Type} [Inhabited α] {f:α->List Value} {sz:Nat} (hf:∀ a,(f a).length=sz) (hz:0<sz) (l:List α):flatK f sz l.toArray=(rows f l).toArray:=by
 have hl:=rows_len hf l
 refine Array.ext (by simp [hl]) fun t h1 h2=>?_
 have ht:t<l.length*sz:=by simpa using h1
 have hi:t / sz<l.length:=(Nat.div_lt_iff_lt_mul hz).2 ht
 have hj:t % sz<sz:=Nat.mod_lt _ hz
 have hr:=rows_at hf hi hj
 rw [Nat.div_add_mod' t sz] at hr
 have e1:(rows f l)[t]?=some (rows f l)[t]:=List.getElem?_eq_getElem (by rw [hl];exact ht)
 have e2:(f l[t / sz])[t % sz]?=some ((f l[t / sz])[t % sz]'(by rw [hf];exact hj)):=List.getElem?_eq_getElem _
 rw [e1,e2] at hr
 injection hr with hr
 have g:=get_flatK f sz l.toArray t (by simpa using ht)
 rw [getElem!_pos _ t h1] at g
 rw [g]
 have d1:l.toArray[t / sz]! =l[t / sz]:=by rw [getElem!_pos _ _ (by simpa using hi)];simp
 rw [d1,getElem!_pos _ _ (by rw [hf];exact hj)]
 simpa using hr.symm
theorem tk_put (cur F:Array Value) (h:F.size<=cur.size):(putCells id 0 F cur).toList.take F.size=F.toList:=by
 apply List.ext_getElem?
 intro j
 by_cases hj:j<F.size
 .rw [List.getElem?_take_of_lt hj,Array.getElem?_toList,Array.getElem?_toList]
  simp [putCells,hj,show j<cur.size by omega]
 .rw [List.getElem?_take_eq_none (by omega),List.getElem?_eq_none (by simp;omega)]
theorem sort_pubs {w:World} {base:Nat} {v:Value} {d:List SP} (h:w.ownsRow base 66 7 v d.length (rows spC d)) (hz:d.length<=1000000) :
 Calls Tryz.prog 39 #[v,.func (.func 40) #[] #[]] w (SortPPost w base v d):=by
 have hl:=rows_len spC_len d
 rcases h.2 with ⟨rfl,h0⟩|⟨g,cap,cur,rfl,hg,hb,h1,h2,h3,h4⟩
 .have hz:d=[]:=List.eq_nil_of_length_eq_zero h0
  subst hz
  refine (Tryz.slices_SortFunc_none (α:=SP) none 0 _ w).mono ?_
  rintro e w' ⟨rfl,rfl⟩
  exact ⟨[],rfl,rfl,by simpa using h,List.Perm.refl _,List.Pairwise.nil,World.grownBy.refl _ _⟩
 .have hgl:g<w.heap.size:=Blk.lt (t:=66) hb
  have eg:∀ args w,(callFunc 40 args).run Tryz.prog w=.ok (.enter 40 args) w:=enters_of Tryz.func40 (by kernel_rfl) rfl
  have hH:HoldsK spC 7 w g 0 d.toArray:=by
   unfold HoldsK
   rw [fl_rows spC_len (by omega)]
   intro j hj
   have hj':j<(rows spC d).length:=by simpa using hj
   refine ⟨?_,by simp [World.frozen?,hb]⟩
   have q:(cur.toList.take (d.length*7))[j]?=(rows spC d)[j]?:=by rw [h4]
   rw [List.getElem?_take_of_lt (by omega)] at q
   rw [cell_of_row w g (0+j) cur 66 (0,0) hb,Nat.zero_add,<-Array.getElem?_toList,q]
   simp [hj']
  have hcmp:CmpLays Tryz.prog 40 #[] spC 7 cmpS g 0 d.toArray.size w:=fun _ _ _ _ x y=>closS_any x y _
  refine (Tryz.slices_SortFunc 7 Tryz.isAgg66 Tryz.sizeOf66 spC spC_len (fun x v hv=>by simp [spC,rpC] at hv;rcases hv with rfl|rfl|rfl|rfl|rfl|rfl|rfl <;> first|rfl|exact x.2.2.2.1|exact x.2.2.2.2) cmpS swoS 40 #[] g 0 cap d.toArray w eg hcmp hH hgl (by simp;omega)).mono ?_
  rintro e w' ⟨rfl,d',n,os,hp,hs,rfl⟩
  have hsz:d'.size=d.length:=by have:=hp.1;simpa using this
  have e0:flatK spC 7 d'=(rows spC d'.toList).toArray:=by
   have:=fl_rows (f:=spC) spC_len (by omega) d'.toList
   simpa using this
  refine ⟨d'.toList,rfl,by simpa using hsz,?_,?_,?_,?_⟩
  .have hh:(grow (putRow id (Sort.ahead w n) g 0 (rows spC d'.toList).toArray) os).heap[g]?=some (.cells (putCells id 0 (rows spC d'.toList).toArray cur) 66 (0,0)):=by
    rw [heap_grow_old _ _ (by simpa using hgl)]
    simp [putRow,mapBlock,onCells,Sort.ahead,Array.getElem?_modify,hb]
   have hl':(rows spC d'.toList).length=d.length*7:=by rw [rows_len spC_len d'.toList];simp [hsz]
   unfold sortWorldK putRowK
   rw [e0]
   refine ⟨by rw [hl'],.inr ⟨g,cap,_,rfl,hg,hh,h1,h2,by simp [putCells,h3],?_⟩⟩
   have tp:=tk_put cur (rows spC d'.toList).toArray (by simp [hl',h3];omega)
   simp only [List.size_toArray,hl'] at tp
   exact tp
  .have:=hp.2.2
   have e1:d'.extract 0 d.toArray.size=d':=by rw [show d.toArray.size=d'.size by simp [hsz]];exact Array.extract_size
   have e2:d.toArray.extract 0 d.toArray.size=d.toArray:=Array.extract_size
   rw [e1,e2] at this
   simpa using this
  .rw [List.pairwise_iff_getElem]
   intro i j hi hj hij
   have hi':i<d'.size:=by simpa using hi
   have hj':j<d'.size:=by simpa using hj
   have:=hs i j (Nat.zero_le _) hij (by simpa [<-hsz] using hj')
   rw [ltOf_cmpS,getElem!_pos _ i hi',getElem!_pos _ j hj'] at this
   have h8:=of_decide_eq_false this;simp only [Array.getElem_toList];omega
  .unfold sortWorldK putRowK
   refine ⟨rfl,rfl,rfl,by simp,fun k hk hne=>?_⟩
   rw [heap_grow_old _ _ (by simpa using hk)]
   have:g≠k:=fun e=>hne (by rw [e];rfl)
   simp [putRow,mapBlock,Sort.ahead,Array.getElem?_modify,this]
end Go.Proofs.YthfmekdbcoaolaaGreatDoor
namespace Go.Proofs.YthfmekdbcoaolaaGreatDoor
set_option linter.unusedSimpArgs false
set_option linter.unusedVariables false
open Go.RowKit
open Go.Lib (hid)
theorem ePub:ElemInfo Tryz.prog 66 7 112 (.agg #[.int .i64 0,.string ⟨#[]⟩,.string ⟨#[]⟩,.int .i64 0,.string ⟨#[]⟩,.slice none 0 0,.slice none 0 0]):=ElemInfo.mk' (by kernel_rfl)
abbrev kvX (x:XP):Value × Value:=(.int .i64 x.p.number,ptr x.b)
def LivePost (L:List Pub) (who:T) (w:World) (e:Ending) (w':World):Prop :=
 ∃ (ys:List RP) (A:Option Addr) (cp:Nat),e=.returned (.slice A ys.length cp)/\ys.map (·.p)=L.filter (fun p=>decide (p.who=who))/\w'.ownsRow w.heap.size 66 7 (.slice A ys.length cp) ys.length (rows rpC ys)/\(∀ y∈ys,DocM w' y.p.doc y.vt y.vn)/\Below w.heap.size w w'
structure LvRel (w:World) (g:Nat) (xs:List XP) (who:T) (v:Value) (wr:World) (left:List (Value × Value)) (ds:List RP):Prop where
 rng:Rng wr g w.heap.size left
 pm:∃ (ls zs:List XP),left.Perm (ls.map kvX)/\(ls++zs).Perm xs/\(ds.map (·.p)).Perm ((zs.map (·.p)).filter fun p=>decide (p.who=who))
 own:wr.ownsRow w.heap.size 66 7 v ds.length (rows rpC ds)
 doc:∀ y∈ds,DocM wr y.p.doc y.vt y.vn
 one:∀ y∈ds,y.vt.oneCell'=true/\y.vn.oneCell'=true
 be:Below w.heap.size w wr
theorem own_notB {w:World} {base:Nat} {e:TypeId} {size n:Nat} {v:Value} {xs:List Value} (h:w.ownsRow base e size v n xs) {b r:Nat} {left:List (Value × Value)} (hr:Rng w b r left):∀ k,v.ownBlock=some k->k≠b/\k≠r:=fun k hk=>by
 obtain ⟨cs,hc⟩:=own_tyS h hk
 exact hr.notCells hc
theorem rng_docs {w w':World} {d:DocP} {vt vn:Value} {b r:Nat} {left:List (Value × Value)} (h:DocM w d vt vn) (hr:Rng w b r left) (hf:Fr (fun j=>j=r) w w'):DocM w' d vt vn :=
 h.fr hf (fun b' ds T fr hb hT e=>(hr.notCells hb).2 e)
section
variable {w wr w2 w5:World} {g:Nat} {xs:List XP} {who:T} {v v4:Value} {left left2:List (Value × Value)} {ds:List RP} {n:Int} {b:Nat}
theorem LvRel.len (h:LvRel w g xs who v wr left ds):left.length+ds.length<=xs.length:=by
 obtain ⟨ls,zs,h1,h2,h3⟩:=h.pm
 have e1:=h1.length_eq
 have e2:=h2.length_eq
 have e3:=h3.length_eq
 have e4:=List.length_filter_le (fun p:Pub=>decide (p.who=who)) (zs.map (·.p))
 simp at e1 e2 e3 e4
 omega
theorem LvRel.shape (h:LvRel w g xs who v wr left ds):∀ x∈left,∃ (k:Int) (m:Nat),x=(.int .i64 k,ptr m):=fun x hx=>by
 obtain ⟨ls,zs,h1,_,_⟩:=h.pm
 obtain ⟨y,_,rfl⟩:=List.mem_map.1 (h1.mem_iff.1 hx)
 exact ⟨_,_,rfl⟩
theorem LvRel.pick (h:LvRel w g xs who v wr left ds) (hp:((.int .i64 n,ptr b)::left2).Perm left):∃ x∈xs,x.p.number=n/\x.b=b/\∃ (ls zs:List XP),left2.Perm (ls.map kvX)/\(ls++x::zs).Perm xs/\(ds.map (·.p)).Perm ((zs.map (·.p)).filter fun p=>decide (p.who=who)):=by
 obtain ⟨ls,zs,h1,h2,h3⟩:=h.pm
 have hm:=(hp.trans h1).mem_iff.1 List.mem_cons_self
 obtain ⟨x,hx,e⟩:=List.mem_map.1 hm
 obtain ⟨i,hi,ei⟩:=List.getElem_of_mem hx
 have hq:ls[i]?=some x:=by rw [List.getElem?_eq_getElem hi,ei]
 have hpl:=at_perm ls i x hq
 have e1:x.p.number=n:=by have:=congrArg Prod.fst e;injection this
 have e2:x.b=b:=by
  have h9:=congrArg Prod.snd e
  unfold ptr at h9
  injection h9 with h9
  injection h9 with h9
  injection h9
 refine ⟨x,h2.mem_iff.1 (List.mem_append_left _ hx),e1,e2,ls.eraseIdx i,zs,?_,?_,h3⟩
 .have h4:=(hp.trans h1).trans (hpl.map kvX)
  rw [List.map_cons,show kvX x=(.int .i64 n,ptr b) by rw [<-e1,<-e2]] at h4
  exact h4.cons_inv
 .refine List.Perm.trans ?_ h2
  refine List.Perm.trans ?_ (hpl.append_right zs).symm
  exact List.perm_middle
theorem LvRel.skip (h:LvRel w g xs who v wr left ds) {x:XP} {ls zs:List XP} (h1:left2.Perm (ls.map kvX)) (h2:(ls++x::zs).Perm xs) (h3:(ds.map (·.p)).Perm ((zs.map (·.p)).filter fun p=>decide (p.who=who))) (hr2:Rng w2 g w.heap.size left2) (hf2:Fr (fun k=>k=w.heap.size) wr w2) (hw:x.p.who≠who):LvRel w g xs who v w2 left2 ds:=by
 refine ⟨hr2,⟨ls,x::zs,h1,h2,?_⟩,own_fr h.own hf2 (fun k hk=>(own_notB h.own h.rng k hk).2),fun y hy=>rng_docs (h.doc y hy) h.rng hf2,h.one,h.be.trans (hf2.to_below h.be.size (fun k e=>by omega))⟩
 rw [List.map_cons,List.filter_cons_of_neg (by simpa using hw)]
 exact h3
theorem LvRel.step (h:LvRel w g xs who v wr left ds) {x:XP} {ls zs:List XP} (h1:left2.Perm (ls.map kvX)) (h2:(ls++x::zs).Perm xs) (h3:(ds.map (·.p)).Perm ((zs.map (·.p)).filter fun p=>decide (p.who=who))) (hr2:Rng w2 g w.heap.size left2) (hf2:Fr (fun k=>k=w.heap.size) wr w2) (hw:x.p.who=who)
 (f25:Fr (fun k=>v.ownBlock=some k\/w2.heap.size<=k) w2 w5) {y:RP} (hy:y.p=x.p) (ho5:w5.ownsRow w.heap.size 66 7 v4 (ds.length+1) (rows rpC ds++rpC y)) (hdy:DocM w5 y.p.doc y.vt y.vn) (h1y:y.vt.oneCell'=true/\y.vn.oneCell'=true):LvRel w g xs who v4 w5 left2 (ds++[y]):=by
 have ho2:w2.ownsRow w.heap.size 66 7 v ds.length (rows rpC ds):=own_fr h.own hf2 (fun k hk=>(own_notB h.own h.rng k hk).2)
 have hn2:=own_notB ho2 hr2
 have hg2:=hr2.ltb
 have hrr:=hr2.ltr
 have hbe2:Below w.heap.size w w2:=h.be.trans (hf2.to_below h.be.size (fun k e=>by omega))
 refine ⟨hr2.fr f25 (by rintro (e|e);exact (hn2 _ e).1 rfl;omega) (by rintro (e|e);exact (hn2 _ e).2 rfl;omega),⟨ls,x::zs,h1,h2,?_⟩,?_,fun z hz=>?_,fun z hz=>?_,hbe2.trans (f25.to_below hbe2.size (fun k e=>by
  rcases e with e|e
  .exact (ho2.lt k e).1
  .have:=hbe2.size;omega))⟩
 .rw [List.map_cons,List.filter_cons_of_pos (by simpa using hw),List.map_append,List.map_singleton,hy]
  refine List.perm_append_comm.trans ?_
  exact h3.cons _
 .rw [rows_snoc,List.length_append]
  exact ho5
 .rcases List.mem_append.1 hz with q|q
  .refine (rng_docs (h.doc z q) h.rng hf2).fr f25 (fun b' ds' T fr hb hT e=>?_)
   rcases e with e|e
   .obtain ⟨cs,hc⟩:=own_tyS ho2 e
    rw [hc] at hb
    injection hb with hb
    injection hb with _ hb _
    rcases hT with rfl|rfl <;> exact absurd hb (by decide)
   .have:=(Array.getElem?_eq_some_iff.1 hb).1;omega
  .simp at q
   subst q
   exact hdy
 .rcases List.mem_append.1 hz with q|q
  .exact h.one z q
  .simp at q
   subst q
   exact h1y
theorem to_sub {α:Type} {P:α->Prop}:∀ {l:List α},(∀ y∈l,P y)->∃ s:List { x // P x },s.map (·.1)=l
 | [],_=>⟨[],rfl⟩
 | a::r,h=>by
   obtain ⟨s,e⟩:=to_sub (l:=r) (fun y hy=>h y (List.mem_cons_of_mem _ hy))
   exact ⟨⟨a,h a List.mem_cons_self⟩::s,by rw [List.map_cons,e]⟩
theorem rows_sp:∀ l:List SP,rows spC l=rows rpC (l.map (·.1))
 | []=>rfl
 | a::r=>by rw [List.map_cons,rows_cons,rows_cons,rows_sp r];rfl
theorem LvRel.toS (h:LvRel w g xs who v wr [] ds) {c:Conf} {last:Int} {l:List TM} (Q:StQ c last (xs.map (·.p)) l) (hla:last<=1000000):∃ dS:List SP,dS.map (·.1)=ds/\wr.ownsRow w.heap.size 66 7 v dS.length (rows spC dS):=by
 obtain ⟨dS,e⟩:=to_sub (P:=fun x:RP=>0<=x.p.number/\x.p.number<=1000001/\x.vt.oneCell'=true/\x.vn.oneCell'=true) (l:=ds) (fun y hy=>by
  obtain ⟨ls,zs,h1,h2,h3⟩:=h.pm
  have hm:=(List.mem_filter.1 (h3.mem_iff.1 (List.mem_map.2 ⟨y,hy,rfl⟩))).1
  obtain ⟨z,hz,ez⟩:=List.mem_map.1 hm
  have hzx:=h2.mem_iff.1 (List.mem_append_right _ hz)
  have hl:=Q.low z.p (List.mem_map.2 ⟨z,hzx,rfl⟩)
  rw [ez] at hl
  exact ⟨by omega,by omega,(h.one y hy).1,(h.one y hy).2⟩)
 refine ⟨dS,e,?_⟩
 rw [rows_sp,e,show dS.length=ds.length by rw [<-e,List.length_map]]
 exact h.own
theorem LvRel.fin (h:LvRel w g xs who v wr [] ds) {c:Conf} {last:Int} {l:List TM} (Q:StQ c last (xs.map (·.p)) l) {dS d':List SP} (e:dS.map (·.1)=ds) (hl':d'.length=dS.length) (ho:w2.ownsRow w.heap.size 66 7 v dS.length (rows spC d')) (hp:d'.Perm dS) (hso:d'.Pairwise (fun a b=>a.1.p.number<=b.1.p.number)) (hg:wr.grownBy w2 v.ownBlock):LivePost (xs.map (·.p)) who w (.returned v) w2:=by
 have hlen:(d'.map (·.1)).length=dS.length:=by rw [List.length_map,hl']
 rw [rows_sp] at ho
 obtain ⟨A,cp,rfl,hcp,hmx,_⟩:=RdV.of_own ho
 have hf:Fr (fun k=>(Value.slice A dS.length cp).ownBlock=some k) wr w2:=Fr.of_grown hg (fun k e=>e)
 refine ⟨d'.map (·.1),A,cp,by rw [hlen],?_,by rw [hlen];exact ho,fun y hy=>?_,h.be.trans (hf.to_below h.be.size (fun k e=>(h.own.lt k e).1))⟩
 .obtain ⟨ls,zs,h1,h2,h3⟩:=h.pm
  have hls:ls=[]:=by
   have:=h1.length_eq
   simp at this
   exact List.eq_nil_of_length_eq_zero (by omega)
  subst hls
  rw [List.nil_append] at h2
  have hpp:((d'.map (·.1)).map (·.p)).Perm ((xs.map (·.p)).filter fun p=>decide (p.who=who)):=by
   refine ((hp.map (·.1)).map (·.p)).trans ?_
   rw [e]
   exact h3.trans ((h2.map (·.p)).filter _)
  have hnd:=pubs_idnd Q.ids
  refine hpp.eq_of_pairwise (le:=fun a b:Pub=>a.number<=b.number) (fun a b ha hb h1 h2=>?_) ?_ ?_
  .have ha':=(List.mem_filter.1 (hpp.mem_iff.1 ha)).1
   have hb':=(List.mem_filter.1 hb).1
   exact nodup_inj hnd ha' hb' (by omega)
  .rw [List.map_map,List.pairwise_map]
   exact hso
  .exact (Q.ids.sublist List.filter_sublist).imp (fun h=>by omega)
 .have hyd:y∈ds:=by
   rw [<-e]
   exact ((hp.map (·.1)).mem_iff).1 hy
  refine (h.doc y hyd).fr hf (fun b' ds' T fr hb hT e=>?_)
  obtain ⟨cs,hc⟩:=own_tyS h.own e
  rw [hc] at hb
  injection hb with hb
  injection hb with _ hb _
  rcases hT with rfl|rfl <;> exact absurd hb (by decide)
end
set_option maxRecDepth 100000 in
set_option maxHeartbeats 4000000 in
theorem live_any {w:World} {p:Nat} {c:Conf} {last:Int} {L:List Pub} {F:Nat->Prop} {who:T} (H:St w p c last L F) (hla:last<=1000000):Calls Tryz.prog 18 #[.pointer (some ⟨p,0,none⟩),.string (str who)] w (LivePost L who w):=by
 obtain ⟨xs,l,bl,bt,pw,kl,kt,FW,rfl,HI,Q⟩:=H
 have hmd:=hid (bmade_any HI.top)
 have HQ:=hid Q
 have HII:=hid HI
 have HLA:=hid hla
 have hc8:=HI.top.cell 8
 have hB:=HI.lb
 have hm:=HI.lm
 have HLX:Hid (xs.length<=200):=hid (by
  have h1:=Q.len
  have h2:=Q.pubs
  simp only [List.length_map] at h1
  omega)
 have HPL:=hid HI.pl
 clear HI Q hla
 go_enter Tryz.func18,Tryz.ntmps18
 go_wp2_with fail
 refine (hmd.out).mono ?_
 rintro e w9 ⟨rfl,rfl⟩
 go_wp2_with (first|(at_range;refine wpList_range_is rfl _ 51 rfl _ _ Tryz.underlying51 rfl hB hm ?_;intro w1 hr1 hf1 hs1)|go_in)
 try go_frame
 have H0:Hid (LvRel w bl xs who (.slice none 0 0) w1 (kl.map fun x=>(intKey x.1,x.2)) []):=hid ⟨hr1,⟨xs,[],by
  have h9:=HPL.out.map (fun x:Int × Value=>(intKey x.1,x.2))
  rw [List.map_map] at h9
  exact h9,by simp,by simp⟩,⟨rfl,.inl ⟨rfl,rfl⟩⟩,by simp,by simp,hf1.to_below (Nat.le_refl _) (fun _ h=>h.elim)⟩
 clear hr1 hf1 hs1 hm hB hc8
 go_loopw [5] (fun v wr=>∃ left ds,LvRel w bl xs who v wr left ds) (fun _ wr=>wr.rangeLeft bl w.heap.size)
 case atStart=>exact ⟨_,_,H0.out⟩
 case round =>
  obtain ⟨left,ds,hR⟩:=hrel
  have HR:=hid hR
  have hrg:=hR.rng
  have hsh:=hR.shape
  clear hR
  go_wp2_with (first|(at_next;refine wpList_next_is rfl _ rfl (fun k:Int=>.int .i64 k) (fun m:Nat=>ptr m) rfl hrg hsh ?_ ?_)|go_in)
  .intro h0
   subst h0
   have HS:Hid (Calls Tryz.prog 39 #[u5,.func (.func 40) #[] #[]] wr fun e w'=>e=.returned (.tuple #[])/\LivePost (xs.map (·.p)) who w (.returned u5) w'):=hid (by
    obtain ⟨dS,e,ho⟩:=HR.out.toS HQ.out HLA.out
    have hln:=HR.out.len
    have hl9:dS.length=ds.length:=by rw [<-e,List.length_map]
    refine (sort_pubs ho (by have:=HLX.out;simp at hln;omega)).mono ?_
    rintro e3 w3 ⟨d',rfl,h1,h2,h3,h4,h5⟩
    exact ⟨rfl,HR.out.fin HQ.out e h1 h2 h3 h4 h5⟩)
   clear hrg hsh
   go_wp2_with fail
   refine (HS.out).mono ?_
   rintro e w2 ⟨rfl,hP⟩
   have HP:=hid hP
   clear hP
   go_wp2
   go_ret
   exact HP.out
  .intro n b w2 left2 hpm hrg2 hf2 hs2 hen
   obtain ⟨x,hx,rfl,rfl,ls,zs,k1,k2,k3⟩:=HR.out.pick hpm
   have hbe2:Below w.heap.size w w2:=HR.out.be.trans (hf2.to_below HR.out.be.size (fun k e=>by omega))
   have hlen:=HR.out.len
   have hl1:left2.length<left.length:=by have:=hpm.length_eq;simp at this;omega
   have HLL:=hid hl1
   have HLF:=hid hrg.left_eq
   have hdx:=HII.out.doc x hx
   obtain ⟨A1,c1,hv1,_,_,_⟩:=hdx.t
   obtain ⟨A2,c2,hv2,_,_,_⟩:=hdx.n
   have HKX:Hid (∀ W,Below w.heap.size w W->Blk W x.b 66 #[.int .i64 x.p.number,.string (str x.p.who),.string (str x.p.tag),.int .i64 x.p.until_,.string (str x.p.doc.ent),.slice A1 x.p.doc.tups.length c1,.slice A2 x.p.doc.notes.length c2]):=hid (fun W hW=>by
    have h9:=(HII.out.its x hx).fr (Fr.of_below (F:=fun _=>False) hW) (fun h=>h)
    unfold pubA at h9
    rw [hv1,hv2] at h9
    exact h9)
   have kx:=HKX.out w2 hbe2
   have z0:=kx.cell 0
   have z1:=kx.cell 1
   have z2:=kx.cell 2
   have z3:=kx.cell 3
   have z4:=kx.cell 4
   have z5:=kx.cell 5
   have z6:=kx.cell 6
   unfold ptr at hen
   by_cases hw:x.p.who=who
   .have qw1:((str x.p.who).toList == (str who).toList)=true:=by rw [hw];exact beq_self_eq_true _
    have qw2:(str x.p.who).toList=(str who).toList:=by rw [hw]
    have hdl:=docE_lens (HQ.out.docs x.p (List.mem_map.2 ⟨x,hx,rfl⟩))
    obtain ⟨w3,hw3⟩:∃ w3,w2.alloc (.cells #[.int .i64 x.p.number,.string (str x.p.who),.string (str x.p.tag),.int .i64 x.p.until_,.string (str x.p.doc.ent),.slice A1 x.p.doc.tups.length c1,.slice A2 x.p.doc.notes.length c2] 66)=w3:=⟨_,rfl⟩
    have hb3:Below w2.heap.size w2 w3:=hw3▸(Below.refl _ _).alloc (Nat.le_refl _) _
    have hk3:Blk w3 w2.heap.size 66 #[.int .i64 x.p.number,.string (str x.p.who),.string (str x.p.tag),.int .i64 x.p.until_,.string (str x.p.doc.ent),.slice A1 x.p.doc.tups.length c1,.slice A2 x.p.doc.notes.length c2]:=hw3▸Blk.new w2 _ _
    have hx3:Below w.heap.size w w3:=thenB_ hbe2 hb3
    have kx3:=HKX.out w3 hx3
    have z4':=kx3.cell 4
    have z5':=kx3.cell 5
    have z6':=kx3.cell 6
    have hd3:DocB w3 w3.heap.size x.p.doc (.slice A1 x.p.doc.tups.length c1) (.slice A2 x.p.doc.notes.length c2):=by
     have h9:=DocB.of_m (hdx.below hx3)
     rw [hv1,hv2] at h9
     exact h9
    have HCP:=hid (copied_any (w:=w3) (Nat.le_refl _) hd3 hdl.1 hdl.2)
    unfold CopPost at HCP
    have HK3:=hid hk3
    have HB3:=hid hb3
    have ho2:w2.ownsRow w.heap.size 66 7 u5 ds.length (rows rpC ds):=own_fr HR.out.own hf2 (fun k hk=>(own_notB HR.out.own HR.out.rng k hk).2)
    have HO2:=hid ho2
    have HDL:Hid (ds.length<=200):=hid (by have:=HLX.out;omega)
    have HSW:=hid hbe2.size
    have HSTEP:=hid (fun w5 v4 y f25 hy ho5 hdy h1y=>HR.out.step (w5:=w5) (v4:=v4) (y:=y) k1 k2 k3 hrg2 hf2 hw f25 hy ho5 hdy h1y)
    clear hs2 hrg hsh hpm hf2 hlen hl1 hrg2 k1 k2 k3 kx hdx hbe2 hw hb3 hk3 hx3 kx3 hd3 hdl ho2
    go_wp2_with fail
    refine (HCP.out).mono ?_
    rintro e w4 ⟨A5,c5,A6,c6,rfl,hdm4,hb4⟩
    have hk4:=HK3.out.fr (Fr.of_below (F:=fun _=>False) hb4) (fun h=>h)
    have y0:=hk4.cell 0
    have y1:=hk4.cell 1
    have y2:=hk4.cell 2
    have y3:=hk4.cell 3
    have y4:=hk4.cell 4
    have y5:=hk4.cell 5
    have y6:=hk4.cell 6
    have g4:=hk4.frozen 4
    have g5:=hk4.frozen 5
    have g6:=hk4.frozen 6
    obtain ⟨wA,hwA⟩:∃ wA,((w4.setCell ⟨w2.heap.size,4,none⟩ (.string (str x.p.doc.ent))).setCell ⟨w2.heap.size,5,none⟩ (.slice A5 x.p.doc.tups.length c5)).setCell ⟨w2.heap.size,6,none⟩ (.slice A6 x.p.doc.notes.length c6)=wA:=⟨_,rfl⟩
    have fA:Fr (fun k=>k=w2.heap.size) w4 wA:=hwA▸(((Fr.refl (fun k=>k=w2.heap.size) w4).set (p:=⟨w2.heap.size,4,none⟩) (fun _=>rfl) _).set (p:=⟨w2.heap.size,5,none⟩) (fun _=>rfl) _).set (p:=⟨w2.heap.size,6,none⟩) (fun _=>rfl) _
    have hkA:Blk wA w2.heap.size 66 #[.int .i64 x.p.number,.string (str x.p.who),.string (str x.p.tag),.int .i64 x.p.until_,.string (str x.p.doc.ent),.slice A5 x.p.doc.tups.length c5,.slice A6 x.p.doc.notes.length c6]:=hwA▸((hk4.set_ 4 _).set_ 5 _).set_ 6 _
    have f2A:Fr (fun k=>w2.heap.size<=k) w2 wA:=((Fr.of_below HB3.out).trans (G:=fun k=>w3.heap.size<=k) (Fr.of_belowB hb4) (fun k _ e=>Nat.le_trans HB3.out.size e)).trans (G:=fun k=>k=w2.heap.size) fA (fun k _ e=>by omega)
    have hoA:wA.ownsRow w.heap.size 66 7 u5 ds.length (rows rpC ds):=own_fr HO2.out f2A (fun k hk e=>by have:=(HO2.out.lt k hk).2;omega)
    have hdA:=hdm4.fr fA (fun b ds T fr hb hT e=>by
     subst e
     have hk4':=hk4
     unfold Blk at hk4'
     rw [hk4'] at hb
     injection hb with hb
     injection hb with _ hb _
     rcases hT with rfl|rfl <;> exact absurd hb (by decide))
    have x0:=hkA.cell 0
    have x1:=hkA.cell 1
    have x2:=hkA.cell 2
    have x3:=hkA.cell 3
    have x4:=hkA.cell 4
    have x5:=hkA.cell 5
    have x6:=hkA.cell 6
    have HOA:=hid hoA
    have HF2A:=hid f2A
    have HDA:=hid hdA
    clear hdm4 hb4 hk4 fA hkA f2A hoA hdA
    go_upto_region 10 with (fail)
    try rw [hwA]
    clear hwA
    go_wp2_with (at_builtin;go_must (refine wpList_app1' rfl (.tmp 36) (.tmp 38) 45 rfl w.heap.size 66 7 112 _ Tryz.underlying45 ePub rfl (by omega) u5 ds.length (rows rpC ds) rfl HOA.out [.int .i64 x.p.number,.string (str x.p.who),.string (str x.p.tag),.int .i64 x.p.until_,.string (str x.p.doc.ent),.slice A5 x.p.doc.tups.length c5,.slice A6 x.p.doc.notes.length c6] _ rfl (by first|rfl|(simp;done)) rfl (by intro u hu;simp at hu;rcases hu with rfl|rfl|rfl|rfl|rfl|rfl|rfl <;> rfl) (by have:=HDL.out;unfold maxLen;omega) (by have:=HDL.out;omega) (by have:=HSW.out;have:=HF2A.out.size;omega) ?_);intro v4 w5 hown5 hb5 hg5 hat5)
    have HZ:=hid (HSTEP.out w5 v4 ⟨x.p,.slice A5 x.p.doc.tups.length c5,.slice A6 x.p.doc.notes.length c6⟩ ((HF2A.out.mono fun k _ e=>.inr e).trans (G:=fun k=>u5.ownBlock=some k) (Fr.of_grown hg5 (fun k e=>e)) (fun k _ e=>.inl e)) rfl hown5 (HDA.out.fr (Fr.of_grown hg5 (F:=fun k=>u5.ownBlock=some k) (fun k e=>e)) (fun b' ds' T fr hb hT e=>by
     obtain ⟨cs,hc⟩:=own_tyS HOA.out e
     rw [hc] at hb
     injection hb with hb
     injection hb with _ hb _
     rcases hT with rfl|rfl <;> exact absurd hb (by decide))) ⟨rfl,rfl⟩)
    clear hown5 hb5 hg5 hat5
    go_roundw
    case rel=>exact ⟨_,_,HZ.out⟩
    case measure =>
     have e1:=HZ.out.rng.left_eq
     have e2:=HLF.out
     have e3:=HLL.out
     omega
   .have qw1:=bs_neb hw
    have qw2:=bs_ne hw
    have HZ:=hid (HR.out.skip k1 k2 k3 hrg2 hf2 hw)
    clear hs2 hrg hsh hpm hf2 hlen hl1 hrg2 k1 k2 k3 kx hdx hbe2 hw
    go_wp2
    go_roundw
    case rel=>exact ⟨_,_,HZ.out⟩
    case measure =>
     have e1:=HZ.out.rng.left_eq
     have e2:=HLF.out
     have e3:=HLL.out
     omega
def Sto (B:Nat) (w:World) (p:Nat) (c:Conf) (last:Int) (L:List Pub):Prop:=∃ F,St w p c last L F/\∀ k,F k->B<=k
def okT (T:TypeId):Bool:=decide (T≠124)&&decide (T≠130)&&decide (T≠131)&&decide (T≠55)&&decide (T≠66)
def Stay (w w':World):Prop:=∀ (g:Nat) (T:TypeId) (cs:Array Value),Blk w g T cs->okT T=true->Blk w' g T cs
section
variable {w w' w2:World} {B p:Nat} {c:Conf} {last:Int} {L:List Pub} {F F':Nat->Prop}
theorem Stay.trans (h:Stay w w') (k:Stay w' w2):Stay w w2:=fun g T cs hb ht=>k g T cs (h g T cs hb ht) ht
theorem Stay.below (hb:Below w.heap.size w w'):Stay w w':=fun g T cs h _=>h.fr (Fr.of_below (F:=fun _=>False) hb) (fun h=>h)
theorem Stay.refl (w:World):Stay w w:=fun _ _ _ h _=>h
theorem stay_of (H:St w p c last L F) (hf:Fr F w w'):Stay w w':=fun g T cs h ht=>by
 unfold okT at ht
 simp only [Bool.and_eq_true,decide_eq_true_eq] at ht
 exact h.fr hf (H.notT h ht.1.1.1.1 ht.1.1.1.2 ht.1.1.2 ht.1.2 ht.2)
theorem Sto.below (h:Sto B w p c last L) (hb:Below w.heap.size w w'):Sto B w' p c last L:=by
 obtain ⟨F,hs,hF⟩:=h
 exact ⟨F,hs.below hb,hF⟩
theorem Sto.set (h:Sto B w p c last L) {td:Nat} {T:TypeId} {cs:Array Value} (ht:Blk w td T cs) (hok:okT T=true) (h6:T≠115) (h7:T≠9) (hf:Fr (fun k=>k=td) w w'):Sto B w' p c last L:=by
 obtain ⟨F,hs,hF⟩:=h
 unfold okT at hok
 simp only [Bool.and_eq_true,decide_eq_true_eq] at hok
 exact ⟨F,hs.fr_blk hf ht hok.1.1.1.1 hok.1.1.1.2 hok.1.1.2 hok.1.2 hok.2 h6 h7,hF⟩
def DoesPost (B p:Nat) (c:Conf) (r:DoR) (w:World) (e:Ending) (w':World):Prop:=e=.returned (.tuple #[toldV r.told,.int .i64 r.err])/\Sto B w' p c r.last r.L/\Below B w w'/\Stay w w'
theorem does_sto {now:Int} {a:AskP} {At An:Option Addr} {ct cn:Nat} (H:Sto B w p c last L) (hB:B<=w.heap.size) (hd:DocB w B a.doc (.slice At a.doc.tups.length ct) (.slice An a.doc.notes.length cn)) (hs:AskS a) (he:a.has=true->a.doc.ent.length<=99999990) (hla:last<=1000000) :
 Calls Tryz.prog 14 #[.pointer (some ⟨p,0,none⟩),.int .i64 now,.agg #[.string (str a.who),.string (str a.mtch),.int .i64 a.exp,.bool a.has,.string (str a.doc.ent),.slice At a.doc.tups.length ct,.slice An a.doc.notes.length cn,.string (str a.tag)]] w (DoesPost B p c (doR c last L now a) w):=by
 obtain ⟨F,hst,hF⟩:=H
 refine (does_any hst hB hd hs he hla hF).mono ?_
 rintro e w' ⟨rfl,F',hst',hf,hx⟩
 exact ⟨rfl,⟨F',hst',fun k hk=>(hx k hk).elim (fun q=>hF k q) (fun q=>Nat.le_trans hB q)⟩,hf.to_below hB hF,stay_of hst hf⟩
theorem expire_sto {now:Int} (H:Sto B w p c last L) (hB:B<=w.heap.size):Calls Tryz.prog 16 #[.pointer (some ⟨p,0,none⟩),.int .i64 now] w fun e w'=>(∃ A cp,e=.returned (.slice A (expW L now).length cp)/\RdV w' 9 1 (expW L now).length (.slice A (expW L now).length cp) (rows noteC (expW L now)))/\Sto B w' p c last (expL L now)/\Below B w w'/\Stay w w':=by
 obtain ⟨F,hst,hF⟩:=H
 refine (stexpire_any hst).mono ?_
 rintro e w' ⟨A,cp,rfl,hr,F',hst',hf,hx⟩
 exact ⟨⟨A,cp,rfl,hr⟩,⟨F',hst',fun k hk=>hF k (hx k hk)⟩,hf.to_below hB hF,stay_of hst hf⟩
theorem len_sto (H:Sto B w p c last L):Calls Tryz.prog 17 #[.pointer (some ⟨p,0,none⟩)] w fun e w'=>e=.returned (.int .i64 L.length)/\w=w':=by
 obtain ⟨F,hst,hF⟩:=H
 exact stlen_any hst
theorem live_sto {who:T} (H:Sto B w p c last L) (hla:last<=1000000):Calls Tryz.prog 18 #[.pointer (some ⟨p,0,none⟩),.string (str who)] w (LivePost L who w):=by
 obtain ⟨F,hst,hF⟩:=H
 exact live_any hst hla
end
theorem docB_nil (w:World) (B:Nat) (s:T):DocB w B ⟨s,[],[]⟩ (.slice none 0 0) (.slice none 0 0):=⟨SlB.nil w B 5,SlB.nil w B 1⟩
theorem askS_nil {who m tag:T} {exp:Int} {has:Bool} {ent:T} (h1:who.length<=140737488351232) (h2:m.length<=1000) (h3:tag.length<=140737488351233) (h4:-9223372036854775808<=exp) (h5:exp<=9223372036854775807) (h6:ent.length<=1000):AskS ⟨who,m,exp,has,⟨ent,[],[]⟩,tag⟩ :=
 ⟨h1,by show m.length<=_;omega,h3,h4,h5,⟨by show ent.length<=_;omega,by simp,by simp,by simp,by simp⟩⟩
def pabT:T:=[97,64,98]
def pw1:AskP:=⟨pabT,[],30,true,⟨pabT,[],[]⟩,[120]⟩
def pw2:AskP:=⟨pabT,[],-1,true,⟨pabT,[],[]⟩,[120]⟩
def pw3:AskP:=⟨pabT,[120],0,false,⟨[],[],[]⟩,[121]⟩
def pw4:AskP:=⟨pabT,[120],0,false,⟨[],[],[]⟩,[122]⟩
def pwP:Pub:=⟨1,pabT,[120],6000,⟨pabT,[],[]⟩⟩
theorem pw_1:doR (plC 1) 0 [] 0 pw1=⟨0,[],⟨423,60,[],false⟩,0⟩:=by kernel_rfl
theorem pw_2:doR (plC 1) 0 [] 0 pw2=⟨1,[pwP],⟨200,600,[120],true⟩,0⟩:=by kernel_rfl
theorem pw_3:doR (plC 1) 1 [pwP] 0 pw3=⟨1,[],⟨200,0,[121],true⟩,0⟩:=by kernel_rfl
theorem pw_4:doR (plC 1) 1 [] 0 pw4=⟨1,[],⟨412,0,[],false⟩,0⟩:=by kernel_rfl
theorem told_ba (a b:ByteArray):a.toList=b.toList<->a=b:=by
 rw [ByteArray.toList_eq,ByteArray.toList_eq]
 obtain ⟨⟨x⟩⟩:=a
 obtain ⟨⟨y⟩⟩:=b
 simp
theorem eq_told (a b c d:Int) (s t:ByteArray) (x y:Bool) (W:World):(binOp .eql 33 (.agg #[.int .i64 a,.int .i64 b,.string s,.bool x]) (.agg #[.int .i64 c,.int .i64 d,.string t,.bool y])).run Tryz.prog W=.ok (.bool (decide (a=c)&&decide (b=d)&&decide (s=t)&&decide (x=y))) W:=by
 by_cases q1:a=c <;> by_cases q2:b=d <;> by_cases q3:s=t <;> by_cases q4:x=y <;> simp [go_sem,told_ba,q1,q2,q3,q4]
theorem neq_told (a b c d:Int) (s t:ByteArray) (x y:Bool) (W:World):(binOp .neq 33 (.agg #[.int .i64 a,.int .i64 b,.string s,.bool x]) (.agg #[.int .i64 c,.int .i64 d,.string t,.bool y])).run Tryz.prog W=.ok (.bool (!(decide (a=c)&&decide (b=d)&&decide (s=t)&&decide (x=y)))) W:=by
 by_cases q1:a=c <;> by_cases q2:b=d <;> by_cases q3:s=t <;> by_cases q4:x=y <;> simp [go_sem,told_ba,q1,q2,q3,q4]
def AwkPost (w:World) (e:Ending) (w':World):Prop:=e=.returned (.bool true)/\Below w.heap.size w w'
set_option maxRecDepth 100000 in
set_option maxHeartbeats 4000000 in
theorem awake16_any (w:World):Calls Tryz.prog 13 #[] w (AwkPost w):=by
 have HPL:=hid (plain16_any 1)
 have HBG:Hid (∀ W,Calls Tryz.prog 10 #[.agg #[.string ⟨#[]⟩,.int .i64 1,.int .i64 1,.int .i64 1,.int .i64 60,.int .i64 3600,.int .i64 600]] W (BgnPost (plC 1) W)):=hid (fun W=>begun_any (c:=plC 1) (plC_right (by omega) (by omega)) W)
 have HDC:=hid (doc_any ⟨#[97,64,98]⟩)
 have HD1:Hid (∀ B W p,Sto B W p (plC 1) 0 []->B<=W.heap.size->Calls Tryz.prog 14 #[.pointer (some ⟨p,0,none⟩),.int .i64 0,.agg #[.string ⟨#[97,64,98]⟩,.string ⟨#[]⟩,.int .i64 30,.bool true,.string ⟨#[97,64,98]⟩,.slice none 0 0,.slice none 0 0,.string ⟨#[120]⟩]] W fun e w'=>e=.returned (.tuple #[.agg #[.int .i64 423,.int .i64 60,.string ⟨#[]⟩,.bool false],.int .i64 0])/\Sto B w' p (plC 1) 0 []/\Below B W w'/\Stay W w'):=hid (fun B W p hS hB=>by
  have h9:=does_sto (a:=pw1) (At:=none) (An:=none) (ct:=0) (cn:=0) (now:=0) hS hB (docB_nil W B _) (askS_nil (by decide) (by decide) (by decide) (by decide) (by decide) (by decide)) (fun _=>by decide) (by decide)
  rw [pw_1] at h9
  exact h9)
 have HD2:Hid (∀ B W p,Sto B W p (plC 1) 0 []->B<=W.heap.size->Calls Tryz.prog 14 #[.pointer (some ⟨p,0,none⟩),.int .i64 0,.agg #[.string ⟨#[97,64,98]⟩,.string ⟨#[]⟩,.int .i64 (-1),.bool true,.string ⟨#[97,64,98]⟩,.slice none 0 0,.slice none 0 0,.string ⟨#[120]⟩]] W fun e w'=>e=.returned (.tuple #[.agg #[.int .i64 200,.int .i64 600,.string ⟨#[120]⟩,.bool true],.int .i64 0])/\Sto B w' p (plC 1) 1 [pwP]/\Below B W w'/\Stay W w'):=hid (fun B W p hS hB=>by
  have h9:=does_sto (a:=pw2) (At:=none) (An:=none) (ct:=0) (cn:=0) (now:=0) hS hB (docB_nil W B _) (askS_nil (by decide) (by decide) (by decide) (by decide) (by decide) (by decide)) (fun _=>by decide) (by decide)
  rw [pw_2] at h9
  exact h9)
 have HD3:Hid (∀ B W p,Sto B W p (plC 1) 1 [pwP]->B<=W.heap.size->Calls Tryz.prog 14 #[.pointer (some ⟨p,0,none⟩),.int .i64 0,.agg #[.string ⟨#[97,64,98]⟩,.string ⟨#[120]⟩,.int .i64 0,.bool false,.string ⟨#[]⟩,.slice none 0 0,.slice none 0 0,.string ⟨#[121]⟩]] W fun e w'=>e=.returned (.tuple #[.agg #[.int .i64 200,.int .i64 0,.string ⟨#[121]⟩,.bool true],.int .i64 0])/\Sto B w' p (plC 1) 1 []/\Below B W w'/\Stay W w'):=hid (fun B W p hS hB=>by
  have h9:=does_sto (a:=pw3) (At:=none) (An:=none) (ct:=0) (cn:=0) (now:=0) hS hB (docB_nil W B _) (askS_nil (by decide) (by decide) (by decide) (by decide) (by decide) (by decide)) (fun _=>by decide) (by decide)
  rw [pw_3] at h9
  exact h9)
 have HD4:Hid (∀ B W p,Sto B W p (plC 1) 1 []->B<=W.heap.size->Calls Tryz.prog 14 #[.pointer (some ⟨p,0,none⟩),.int .i64 0,.agg #[.string ⟨#[97,64,98]⟩,.string ⟨#[120]⟩,.int .i64 0,.bool false,.string ⟨#[]⟩,.slice none 0 0,.slice none 0 0,.string ⟨#[122]⟩]] W fun e w'=>e=.returned (.tuple #[.agg #[.int .i64 412,.int .i64 0,.string ⟨#[]⟩,.bool false],.int .i64 0])/\Sto B w' p (plC 1) 1 []/\Below B W w'/\Stay W w'):=hid (fun B W p hS hB=>by
  have h9:=does_sto (a:=pw4) (At:=none) (An:=none) (ct:=0) (cn:=0) (now:=0) hS hB (docB_nil W B _) (askS_nil (by decide) (by decide) (by decide) (by decide) (by decide) (by decide)) (fun q=>by cases q) (by decide)
  rw [pw_4] at h9
  exact h9)
 unfold BgnPost at HBG
 go_enter Tryz.func13,Tryz.ntmps13
 go_wp2_with fail
 refine (HPL.out _).mono ?_
 rintro e w1 ⟨rfl,hb1⟩
 have HB1:=hid hb1
 clear hb1
 go_wp2_with fail
 refine (HBG.out _).mono ?_
 rintro e w2 ⟨p,F,rfl,hst,hb2,hF⟩
 have HS2:Hid (Sto w.heap.size w2 p (plC 1) 0 []):=hid ⟨F,hst,fun k hk=>Nat.le_trans HB1.out.size (hF k hk)⟩
 have HB2:=hid (thenB_ HB1.out hb2)
 clear hst hb2 hF
 go_wp2_with fail
 refine (HDC.out _).mono ?_
 rintro e w3 ⟨rfl,hb3⟩
 have HS3:=hid (HS2.out.below hb3)
 have HB3:=hid (thenB_ HB2.out hb3)
 clear hb3
 go_wp2_with fail
 refine (HD1.out _ _ _ HS3.out HB3.out.size).mono ?_
 rintro e w4 ⟨rfl,hs4,hb4,_⟩
 go_upto_region 5 with (fail)
 obtain ⟨w5,hw5⟩:∃ w5,w4.alloc (.cells #[.int .i64 423,.int .i64 60,.string ⟨#[]⟩,.bool false] 33)=w5:=⟨_,rfl⟩
 rw [hw5]
 have hb5:Below w4.heap.size w4 w5:=hw5▸(Below.refl _ _).alloc (Nat.le_refl _) _
 have hk5:Blk w5 w4.heap.size 33 #[.int .i64 423,.int .i64 60,.string ⟨#[]⟩,.bool false]:=hw5▸Blk.new w4 _ _
 have HS5:=hid (hs4.below hb5)
 have HB5:=hid (thenB_ (HB3.out.trans hb4) hb5)
 have HK5:=hid hk5
 clear hs4 hb4 hb5 hk5 hw5
 go_wp2_with fail
 refine (HDC.out _).mono ?_
 rintro e w6 ⟨rfl,hb6⟩
 have HS6:=hid (HS5.out.below hb6)
 have HB6:=hid (thenB_ HB5.out hb6)
 have HK6:=hid (Stay.below hb6 _ _ _ HK5.out (by decide))
 clear hb6
 go_wp2_with fail
 refine (HD2.out _ _ _ HS6.out HB6.out.size).mono ?_
 rintro e w7 ⟨rfl,hs7,hb7,hst7⟩
 go_upto_region 6 with (fail)
 obtain ⟨w8,hw8⟩:∃ w8,w7.alloc (.cells #[.int .i64 200,.int .i64 600,.string ⟨#[120]⟩,.bool true] 33)=w8:=⟨_,rfl⟩
 rw [hw8]
 have hb8:Below w7.heap.size w7 w8:=hw8▸(Below.refl _ _).alloc (Nat.le_refl _) _
 have hk8:Blk w8 w7.heap.size 33 #[.int .i64 200,.int .i64 600,.string ⟨#[120]⟩,.bool true]:=hw8▸Blk.new w7 _ _
 have HS8:=hid (hs7.below hb8)
 have HB8:=hid (thenB_ (HB6.out.trans hb7) hb8)
 have HK8:=hid (And.intro (Stay.below hb8 _ _ _ (hst7 _ _ _ HK6.out (by decide)) (by decide)) hk8)
 clear hs7 hb7 hb8 hk8 hst7 hw8
 go_wp2_with fail
 refine (HD3.out _ _ _ HS8.out HB8.out.size).mono ?_
 rintro e w9 ⟨rfl,hs9,hb9,hst9⟩
 go_upto_region 7 with (fail)
 obtain ⟨wa,hwa⟩:∃ wa,w9.alloc (.cells #[.int .i64 200,.int .i64 0,.string ⟨#[121]⟩,.bool true] 33)=wa:=⟨_,rfl⟩
 rw [hwa]
 have hba:Below w9.heap.size w9 wa:=hwa▸(Below.refl _ _).alloc (Nat.le_refl _) _
 have hka:Blk wa w9.heap.size 33 #[.int .i64 200,.int .i64 0,.string ⟨#[121]⟩,.bool true]:=hwa▸Blk.new w9 _ _
 have HSa:=hid (hs9.below hba)
 have HBa:=hid (thenB_ (HB8.out.trans hb9) hba)
 have hsa:=hst9.trans (Stay.below hba)
 have HKa:=hid (And.intro (And.intro (hsa _ _ _ HK8.out.1 (by decide)) (hsa _ _ _ HK8.out.2 (by decide))) hka)
 clear hs9 hb9 hba hka hst9 hsa hwa
 go_wp2_with fail
 refine (HD4.out _ _ _ HSa.out HBa.out.size).mono ?_
 rintro e wb ⟨rfl,hsb,hbb,hstb⟩
 go_upto_region 8 with (fail)
 obtain ⟨wc,hwc⟩:∃ wc,wb.alloc (.cells #[.int .i64 412,.int .i64 0,.string ⟨#[]⟩,.bool false] 33)=wc:=⟨_,rfl⟩
 rw [hwc]
 have hbc:Below wb.heap.size wb wc:=hwc▸(Below.refl _ _).alloc (Nat.le_refl _) _
 have hkc:Blk wc wb.heap.size 33 #[.int .i64 412,.int .i64 0,.string ⟨#[]⟩,.bool false]:=hwc▸Blk.new wb _ _
 have HBc:=hid (thenB_ (HBa.out.trans hbb) hbc)
 have hsc:=hstb.trans (Stay.below hbc)
 have k1:=hsc _ _ _ HKa.out.1.1 (by decide)
 have k2:=hsc _ _ _ HKa.out.1.2 (by decide)
 have k3:=hsc _ _ _ HKa.out.2 (by decide)
 have a0:=k1.cell 0
 have a1:=k1.cell 1
 have a2:=k1.cell 2
 have a3:=k1.cell 3
 have b0:=k2.cell 0
 have b1:=k2.cell 1
 have b2:=k2.cell 2
 have b3:=k2.cell 3
 have d0:=k3.cell 0
 have e0:=hkc.cell 0
 have q1:=eq_told 423 60 423 60 ⟨#[]⟩ ⟨#[]⟩ false false
 have q2:=eq_told 200 600 200 600 ⟨#[120]⟩ ⟨#[120]⟩ true true
 clear hsb hbb hstb hbc hkc hsc k1 k2 k3 hwc
 go_wp2
 go_ret
 exact ⟨rfl,HBc.out⟩
def lsD:DocP:=⟨pabT,[],[]⟩
def ls1 (who:T) (sec:Int):AskP:=⟨who,[],sec,true,lsD,[120]⟩
def ls2 (who:T) (sec:Int):AskP:=⟨who,[120],sec,false,⟨[],[],[]⟩,[121]⟩
def lsP (who:T) (u:Int):Pub:=⟨1,who,[120],u,lsD⟩
def lsQ (who:T) (u:Int):Pub:=⟨1,who,[121],u,lsD⟩
theorem ls_1 {who:T} {sec:Int} (hk:secK (plC 1) sec=true) (hn:secN (plC 1) sec≠0):doR (plC 1) 0 [] 0 (ls1 who sec)=⟨1,[lsP who (0+10*secN (plC 1) sec)],⟨200,secN (plC 1) sec,[120],true⟩,0⟩ :=
 doR_new4 (a:=ls1 who sec) (by kernel_rfl) rfl hk rfl hn (by decide)
theorem ls_2 {who:T} {sec u now:Int} (hk:secK (plC 1) sec=true) (hn:secN (plC 1) sec≠0) (h0:0<=now) (h1:now<=549755813888):doR (plC 1) 1 [lsP who u] now (ls2 who sec)=⟨1,[lsQ who (now+10*secN (plC 1) sec)],⟨200,secN (plC 1) sec,[121],false⟩,0⟩:=by
 refine (doR_old4 (a:=ls2 who sec) (p:=lsP who u) (argE_not (by omega) (by omega) (by kernel_rfl) (by show ([121]:T)∉[([120]:T)];decide) (fun h=>by cases h)) (by show ([120]:T)≠[];decide) (by simp) (by simp) (by simp) rfl rfl hk hn).trans ?_
 unfold setP putP ls2 lsP lsQ
 simp
theorem ls_w (who:T) (u now:Int):expL [lsQ who u] now=(if now<u then [lsQ who u] else [])/\expW [lsQ who u] now=(if now<u then [] else [who]):=by
 unfold expW expL expD
 by_cases h:now<u
 .have h':¬u<=now:=by omega
  simp [lsQ,h,h',risA]
 .have h':u<=now:=by omega
  simp [lsQ,h,h',risA,risT]
theorem ls_n {sec:Int} (hk:secK (plC 1) sec=true) (hn:secN (plC 1) sec≠0):1<=secN (plC 1) sec/\secN (plC 1) sec<=3600:=by
 have e:secN (plC 1) sec=if sec<0 then 600 else if 3600<sec then 3600 else sec:=rfl
 have e2:secK (plC 1) sec=(decide (sec<0) || decide (3600<sec) || decide (sec=0) || decide (60<=sec)):=rfl
 rw [e] at hn ⊢
 rw [e2] at hk
 simp only [Bool.or_eq_true,decide_eq_true_eq] at hk
 by_cases h1:sec<0
 .rw [if_pos h1];omega
 .rw [if_neg h1] at hn ⊢
  by_cases h2:3600<sec
  .rw [if_pos h2];omega
  .rw [if_neg h2] at hn ⊢;omega
theorem note_rd {w:World} {l:List T} {A:Option Addr} (h:Rd w 9 1 l.length A (rows noteC l)) {j:Nat} (hj:j<l.length):∃ gb off,A=some ⟨gb,off,none⟩/\gb<w.heap.size/\w.cell? ⟨gb,off+j,none⟩=some (.string (str l[j])):=by
 obtain ⟨gb,off,rfl,hg,hc⟩:=h.at_ (by omega)
 refine ⟨gb,off,rfl,hg,hc j _ ?_⟩
 rw [rows_note]
 simp [encStr,hj]
 try rfl
theorem rtexts_same {l:List T} {A1 A2:Option Addr} {c1 c2:Nat} {w:World} (h1:Rd w 9 1 l.length A1 (rows noteC l)) (h2:Rd w 9 1 l.length A2 (rows noteC l)) (l1:l.length<=1000000) :
 Calls Tryz.prog 19 #[.slice A1 l.length c1,.slice A2 l.length c2] w fun e w'=>e=.returned (.bool true)/\∃ n,w'=w.drewN n:=by
 have H1:=hid h1
 have H2:=hid h2
 clear h1 h2
 go_enter Tryz.func19,Tryz.ntmps19
 go_wp2
 go_loopw [5] (fun i wr=>∃ j:Nat,j<=l.length/\i=.int .i64 j/\∃ n,wr=w.drewN n) (fun i _=>l.length-(intOf i).toNat)
 case atStart=>exact ⟨0,by omega,rfl,0,rfl⟩
 case round =>
  obtain ⟨j,hj,rfl,n,rfl⟩:=hrel
  by_cases hlt:j<l.length
  .have x0:(0:Int)<=j:=by omega
   have x1:(j:Int)<l.length:=by omega
   obtain ⟨gb,off,rfl,_,y0⟩:=note_rd H1.out hlt
   obtain ⟨gb2,off2,rfl,_,z0⟩:=note_rd H2.out hlt
   go_wp2
   go_quiet (fail)
   go_wp2
   go_roundw
   case rel=>exact ⟨j+1,by omega,by go_num,_,by first|rfl|exact World.drewN_drewN _ _ _⟩
   case measure=>simp [intOf] <;> omega
  .have x1:¬(j:Int)<l.length:=by omega
   go_wp2
   go_ret
   exact ⟨rfl,n,rfl⟩
set_option maxRecDepth 100000 in
set_option maxHeartbeats 8000000 in
theorem pubLasts_any (who:T) (sec:Int) (at_ later:Nat) (hw:who.length<=140737488351232) (hs0:-9223372036854775808<=sec) (hs1:sec<=9223372036854775807) (ha:at_<=65535) (hl:later<=18446744073709551615) (w:World) :
 Calls Tryz.prog 3 #[.string (str who),.int .i64 sec,.int .u16 at_,.int .u64 later] w (TruePost w):=by
 have HAW:=hid awake16_any
 unfold AwkPost at HAW
 have HPL:=hid (plain16_any 1)
 have HBG:Hid (∀ W,Calls Tryz.prog 10 #[.agg #[.string ⟨#[]⟩,.int .i64 1,.int .i64 1,.int .i64 1,.int .i64 60,.int .i64 3600,.int .i64 600]] W (BgnPost (plC 1) W)):=hid (fun W=>begun_any (c:=plC 1) (plC_right (by omega) (by omega)) W)
 have HSC:Hid (∀ W,Calls Tryz.prog 12 #[.agg #[.string ⟨#[]⟩,.int .i64 1,.int .i64 1,.int .i64 1,.int .i64 60,.int .i64 3600,.int .i64 600],.int .i64 sec] W fun e w'=>e=.returned (.tuple #[.int .i64 (secN (plC 1) sec),.bool (secK (plC 1) sec)])/\Below W.heap.size W w'):=hid (fun W=>rseconds_any (plC 1) sec W)
 have HDC:=hid (doc_any ⟨#[97,64,98]⟩)
 have HX:Hid (secK (plC 1) sec=true->secN (plC 1) sec≠0->(1<=secN (plC 1) sec/\secN (plC 1) sec<=3600) /\
  (∀ B W p,Sto B W p (plC 1) 0 []->B<=W.heap.size->Calls Tryz.prog 14 #[.pointer (some ⟨p,0,none⟩),.int .i64 0,.agg #[.string (str who),.string ⟨#[]⟩,.int .i64 sec,.bool true,.string ⟨#[97,64,98]⟩,.slice none 0 0,.slice none 0 0,.string ⟨#[120]⟩]] W fun e w'=>e=.returned (.tuple #[.agg #[.int .i64 200,.int .i64 (secN (plC 1) sec),.string ⟨#[120]⟩,.bool true],.int .i64 0])/\Sto B w' p (plC 1) 1 [lsP who (0+10*secN (plC 1) sec)]/\Below B W w'/\Stay W w') /\
  (∀ B W p u now,0<=now->now<=549755813888->Sto B W p (plC 1) 1 [lsP who u]->B<=W.heap.size->Calls Tryz.prog 14 #[.pointer (some ⟨p,0,none⟩),.int .i64 now,.agg #[.string (str who),.string ⟨#[120]⟩,.int .i64 sec,.bool false,.string ⟨#[]⟩,.slice none 0 0,.slice none 0 0,.string ⟨#[121]⟩]] W fun e w'=>e=.returned (.tuple #[.agg #[.int .i64 200,.int .i64 (secN (plC 1) sec),.string ⟨#[121]⟩,.bool false],.int .i64 0])/\Sto B w' p (plC 1) 1 [lsQ who (now+10*secN (plC 1) sec)]/\Below B W w'/\Stay W w')):=hid (fun hk hn=>by
  refine ⟨ls_n hk hn,fun B W p hS hB=>?_,fun B W p u now h0 h1 hS hB=>?_⟩
  .have h9:=does_sto (a:=ls1 who sec) (At:=none) (An:=none) (ct:=0) (cn:=0) (now:=0) hS hB (docB_nil W B _) (askS_nil hw (by decide) (by decide) hs0 hs1 (by decide)) (fun _=>(by decide:pabT.length<=99999990)) (by decide)
   rw [ls_1 hk hn] at h9
   exact h9
  .have h9:=does_sto (a:=ls2 who sec) (At:=none) (An:=none) (ct:=0) (cn:=0) (now:=now) hS hB (docB_nil W B _) (askS_nil hw (by decide) (by decide) hs0 hs1 (by decide)) (fun q=>by cases q) (by decide)
   rw [ls_2 hk hn h0 h1] at h9
   exact h9)
 unfold BgnPost at HBG
 clear hw
 generalize hN:secN (plC 1) sec=N at *
 generalize hK:secK (plC 1) sec=K at *
 clear hN hK
 go_enter Tryz.func3,Tryz.ntmps3
 go_wp2_with fail
 refine (HPL.out _).mono ?_
 rintro e w1 ⟨rfl,hb1⟩
 have HB1:=hid hb1
 clear hb1
 go_wp2_with fail
 refine (HBG.out _).mono ?_
 rintro e w2 ⟨p,F,rfl,hst,hb2,hF⟩
 have HS2:Hid (Sto w.heap.size w2 p (plC 1) 0 []):=hid ⟨F,hst,fun k hk=>Nat.le_trans HB1.out.size (hF k hk)⟩
 have HB2:=hid (thenB_ HB1.out hb2)
 clear hst hb2 hF
 go_wp2_with fail
 refine (HPL.out _).mono ?_
 rintro e w3 ⟨rfl,hb3⟩
 have HS3:=hid (HS2.out.below hb3)
 have HB3:=hid (thenB_ HB2.out hb3)
 clear hb3
 go_wp2_with fail
 refine (HSC.out _).mono ?_
 rintro e w4 ⟨rfl,hb4⟩
 have HS4:=hid (HS3.out.below hb4)
 have HB4:=hid (thenB_ HB3.out hb4)
 clear hb4
 by_cases hgo:K=true/\N≠0
 .obtain ⟨rfl,hn⟩:=hgo
  obtain ⟨⟨hn1,hn2⟩,hd1,hd2⟩:=HX.out rfl hn
  have HD1:=hid hd1
  have HD2:=hid hd2
  clear hd1 hd2 HX
  go_wp2_with fail
  refine (HDC.out _).mono ?_
  rintro e w5 ⟨rfl,hb5⟩
  have HS5:=hid (HS4.out.below hb5)
  have HB5:=hid (thenB_ HB4.out hb5)
  clear hb5
  go_wp2_with fail
  refine (HD1.out _ _ _ HS5.out HB5.out.size).mono ?_
  rintro e w6 ⟨rfl,hs6,hb6,hst6⟩
  go_upto_region 8 with (fail)
  obtain ⟨w7,hw7⟩:∃ w7,w6.alloc (.cells #[.int .i64 200,.int .i64 N,.string ⟨#[120]⟩,.bool true] 33)=w7:=⟨_,rfl⟩
  rw [hw7]
  have hb7:Below w6.heap.size w6 w7:=hw7▸(Below.refl _ _).alloc (Nat.le_refl _) _
  have hk7:Blk w7 w6.heap.size 33 #[.int .i64 200,.int .i64 N,.string ⟨#[120]⟩,.bool true]:=hw7▸Blk.new w6 _ _
  have HS7:=hid (hs6.below hb7)
  have HB7:=hid (thenB_ (HB5.out.trans hb6) hb7)
  have a1:=hk7.cell 1
  clear hs6 hb6 hb7 hk7 hw7 hst6
  go_upto_region 11 with (fail)
  obtain ⟨now,hnow⟩:∃ now:Int,(at_:Int) % (10*N)=now:=⟨_,rfl⟩
  have hw0:0<=now:=hnow▸Int.emod_nonneg _ (by omega)
  have hw1:now<36000:=by
   have:=Int.emod_lt_of_pos (at_:Int) (show (0:Int)<10*N by omega)
   omega
  rw [hnow]
  clear hnow a1
  go_wp2_with fail
  refine (HD2.out _ _ _ _ _ hw0 (by omega) HS7.out HB7.out.size).mono ?_
  rintro e w8 ⟨rfl,hs8,hb8,_⟩
  go_upto_region 12 with (fail)
  obtain ⟨w9,hw9⟩:∃ w9,w8.alloc (.cells #[.int .i64 200,.int .i64 N,.string ⟨#[121]⟩,.bool false] 33)=w9:=⟨_,rfl⟩
  rw [hw9]
  have hb9:Below w8.heap.size w8 w9:=hw9▸(Below.refl _ _).alloc (Nat.le_refl _) _
  have hk9:Blk w9 w8.heap.size 33 #[.int .i64 200,.int .i64 N,.string ⟨#[121]⟩,.bool false]:=hw9▸Blk.new w8 _ _
  have HS9:=hid (hs8.below hb9)
  have HB9:=hid (thenB_ (HB7.out.trans hb8) hb9)
  have a1:=hk9.cell 1
  have a3:=hk9.cell 3
  clear hs8 hb8 hb9 hk9 hw9
  go_upto_region 16 with (fail)
  obtain ⟨d,hd⟩:∃ d:Int,(later:Int) % (20*N)=d:=⟨_,rfl⟩
  have hd0:0<=d:=hd▸Int.emod_nonneg _ (by omega)
  have hd1:d<72000:=by
   have:=Int.emod_lt_of_pos (later:Int) (show (0:Int)<20*N by omega)
   omega
  have hwr:wrap64 (now+wrap64 ((later:Int) % (20*N)))=now+d:=by
   unfold wrap64;omega
  rw [hwr]
  clear hd hwr a1 a3 ha hl
  by_cases hend:now+d<now+10*N
  .have HEX:Hid (∀ B W,Sto B W p (plC 1) 1 [lsQ who (now+10*N)]->B<=W.heap.size->Calls Tryz.prog 16 #[.pointer (some ⟨p,0,none⟩),.int .i64 (now+d)] W fun e w'=>(∃ A cp,e=.returned (.slice A 0 cp))/\Sto B w' p (plC 1) 1 [lsQ who (now+10*N)]/\Below B W w'):=hid (fun B W hS hB=>by
    have h9:=expire_sto (now:=now+d) hS hB
    rw [(ls_w _ _ _).1,(ls_w _ _ _).2,if_pos hend,if_pos hend] at h9
    exact h9.mono fun e w' ⟨⟨A,cp,q,_⟩,h2,h3,_⟩=>⟨⟨A,cp,q⟩,h2,h3⟩)
   have HLN:Hid (∀ B W,Sto B W p (plC 1) 1 [lsQ who (now+10*N)]->Calls Tryz.prog 17 #[.pointer (some ⟨p,0,none⟩)] W fun e w'=>e=.returned (.int .i64 1)/\W=w'):=hid (fun B W hS=>len_sto hS)
   have HLV:Hid (∀ B W,Sto B W p (plC 1) 1 [lsQ who (now+10*N)]->Calls Tryz.prog 18 #[.pointer (some ⟨p,0,none⟩),.string (str who)] W fun e w'=>(∃ A cp,e=.returned (.slice A 1 cp))/\Below W.heap.size W w'):=hid (fun B W hS=>(live_sto (who:=who) hS (by decide)).mono fun e w' ⟨ys,A,cp,q,hy,_,_,hb⟩=>by
    have hl:ys.length=1:=by
     have:=congrArg List.length hy
     simpa [lsQ] using this
    rw [hl] at q
    exact ⟨⟨A,cp,q⟩,hb⟩)
   have x1:now+d<now+10*N:=hend
   go_wp2_with fail
   refine (HEX.out _ _ HS9.out HB9.out.size).mono ?_
   rintro e wa ⟨⟨A,cp,rfl⟩,hsa,hba⟩
   have HSa:=hid hsa
   have HBa:=hid (HB9.out.trans hba)
   clear hsa hba
   go_wp2_with fail
   refine (HLN.out _ _ HSa.out).mono ?_
   rintro e _ ⟨rfl,rfl⟩
   go_wp2_with fail
   refine (HLV.out _ _ HSa.out).mono ?_
   rintro e wb ⟨⟨A2,cp2,rfl⟩,hbb⟩
   have HBb:=hid (thenB_ HBa.out hbb)
   clear hbb
   go_wp2_with fail
   refine (HAW.out _).mono ?_
   rintro e wc ⟨rfl,hbc⟩
   have HBc:=hid (thenB_ HBb.out hbc)
   go_wp2
   go_ret
   exact ⟨rfl,HBc.out⟩
  .have HEX:Hid (∀ B W,Sto B W p (plC 1) 1 [lsQ who (now+10*N)]->B<=W.heap.size->Calls Tryz.prog 16 #[.pointer (some ⟨p,0,none⟩),.int .i64 (now+d)] W fun e w'=>(∃ A cp,e=.returned (.slice A 1 cp)/\Rd w' 9 1 1 A (rows noteC [who]))/\Sto B w' p (plC 1) 1 []/\Below B W w'):=hid (fun B W hS hB=>by
    have h9:=expire_sto (now:=now+d) hS hB
    rw [(ls_w _ _ _).1,(ls_w _ _ _).2,if_neg hend,if_neg hend] at h9
    exact h9.mono fun e w' ⟨⟨A,cp,q,A',cp',q',_,_,hr⟩,h2,h3,_⟩=>by
     simp only [Value.slice.injEq] at q'
     obtain ⟨rfl,_,rfl⟩:=q'
     exact ⟨⟨_,_,q,hr⟩,h2,h3⟩)
   have HTX:Hid (∀ W A c,Rd W 9 1 1 A (rows noteC [who])->Calls Tryz.prog 19 #[.slice A 1 c,.slice (some ⟨W.heap.size,0,none⟩) 1 1] (W.alloc (.cells #[.string (str who)] 9)) fun e w'=>e=.returned (.bool true)/\Below W.heap.size W w'):=hid (fun W A c hr=>by
    have hb:Below W.heap.size W (W.alloc (.cells #[.string (str who)] 9)):=(Below.refl _ _).alloc (Nat.le_refl _) _
    refine (rtexts_same (l:=[who]) (A2:=some ⟨W.heap.size,0,none⟩) (c2:=1) (hr.below hb) (Rd.of_blk (el:=[.string (str who)]) (Blk.new W _ _) rfl) (by show 1<=1000000;omega)).mono ?_
    rintro e w' ⟨rfl,n,rfl⟩
    exact ⟨rfl,below_drewN hb n⟩)
   have HLN:Hid (∀ B W,Sto B W p (plC 1) 1 []->Calls Tryz.prog 17 #[.pointer (some ⟨p,0,none⟩)] W fun e w'=>e=.returned (.int .i64 0)/\W=w'):=hid (fun B W hS=>len_sto hS)
   have HLV:Hid (∀ B W,Sto B W p (plC 1) 1 []->Calls Tryz.prog 18 #[.pointer (some ⟨p,0,none⟩),.string (str who)] W fun e w'=>(∃ A cp,e=.returned (.slice A 0 cp))/\Below W.heap.size W w'):=hid (fun B W hS=>(live_sto (who:=who) hS (by decide)).mono fun e w' ⟨ys,A,cp,q,hy,_,_,hb⟩=>by
    have hl:ys.length=0:=by
     have:=congrArg List.length hy
     simpa using this
    rw [hl] at q
    exact ⟨⟨A,cp,q⟩,hb⟩)
   have x1:¬now+d<now+10*N:=hend
   go_wp2_with fail
   refine (HEX.out _ _ HS9.out HB9.out.size).mono ?_
   rintro e wa ⟨⟨A,cp,rfl,hra⟩,hsa,hba⟩
   have HTa:=hid (HTX.out wa A cp hra)
   have HSa:=hid hsa
   have HBa:=hid (HB9.out.trans hba)
   clear hsa hba hra
   go_wp2_with fail
   refine (HTa.out).mono ?_
   rintro e wd ⟨rfl,hbd⟩
   have HSd:=hid (HSa.out.below hbd)
   have HBd:=hid (thenB_ HBa.out hbd)
   clear hbd
   go_wp2_with fail
   refine (HLN.out _ _ HSd.out).mono ?_
   rintro e _ ⟨rfl,rfl⟩
   go_wp2_with fail
   refine (HLV.out _ _ HSd.out).mono ?_
   rintro e wb ⟨⟨A2,cp2,rfl⟩,hbb⟩
   have HBb:=hid (thenB_ HBd.out hbb)
   clear hbb
   go_wp2_with fail
   refine (HAW.out _).mono ?_
   rintro e wc ⟨rfl,hbc⟩
   have HBc:=hid (thenB_ HBb.out hbc)
   go_wp2
   go_ret
   exact ⟨rfl,HBc.out⟩
 .clear HX
  cases K with
  | false =>
    go_wp2_with fail
    refine (HAW.out _).mono ?_
    rintro e wc ⟨rfl,hbc⟩
    have HBc:=hid (thenB_ HB4.out hbc)
    go_wp2
    go_ret
    exact ⟨rfl,HBc.out⟩
  | true =>
    have h0:N=0:=Decidable.byContradiction fun h=>hgo ⟨rfl,h⟩
    subst h0
    clear hgo
    go_wp2_with fail
    refine (HAW.out _).mono ?_
    rintro e wc ⟨rfl,hbc⟩
    have HBc:=hid (thenB_ HB4.out hbc)
    go_wp2
    go_ret
    exact ⟨rfl,HBc.out⟩
end Go.Proofs.YthfmekdbcoaolaaGreatDoor
