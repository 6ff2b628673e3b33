/- Chapter 16 in plain Lean: documents; which may be. Chapter 16: the store of publications as an object. Chapter 16: how the store's memory goes on: a publication is laid, changed, taken away. Chapter 16 in plain Lean: what Do and Expire do to the list. -/
import Derived.Test.YthkadehlclcggaaGreatDoorGy02
import Derived.Lib.SlTrimSet
import Derived.Test.YthkadehlclcggaaGreatDoorGy12
import Derived.Test.YthkadehlclcggaaGreatDoorGy13
import Derived.Lib.SlicesCompact
namespace Go.Proofs.YthkadehlclcggaaGreatDoor
set_option linter.unusedSimpArgs false
set_option linter.unusedVariables false
open Go.RowKit
structure Tup where
 id:T
 opn:Bool
 contact:T
 prio:Int
 note:T
def tupC (t:Tup):List Value:=[.string (str t.id),.bool t.opn,.string (str t.contact),.int .i64 t.prio,.string (str t.note)]
instance:DecidableEq Tup:=fun p q=>decidable_of_iff (p.id=q.id/\p.opn=q.opn/\p.contact=q.contact/\p.prio=q.prio/\p.note=q.note) (by
 obtain ⟨a1,a2,a3,a4,a5⟩:=p
 obtain ⟨b1,b2,b3,b4,b5⟩:=q
 simp)
structure DocP where
 ent:T
 tups:List Tup
 notes:List T
def noteC (s:T):List Value:=[.string (str s)]
def blaN:List UInt8:=[32,9,13,10]
def sgnB (c:UInt8):Bool:=!((decide (c<32)&&!decide (c=9)&&!decide (c=13)&&!decide (c=10)) || decide (c=127))
def edgeB (s:T):Bool:=decide (Lib.trimS s blaN=s)
def textB (s:T):Bool:=decide (s.length<=128)&&s.all sgnB&&edgeB s
def visB (c:UInt8):Bool:=decide (33<=c)&&decide (c<=126)
def identB (s:T):Bool:=decide (1<=s.length)&&decide (s.length<=64)&&s.all visB
def tupB (t:Tup):Bool:=identB t.id&&textB t.contact&&textB t.note&&decide (-1<=t.prio)&&decide (t.prio<=1000)&&(decide (t.contact≠[]) || decide (t.prio=-1))
def noteB (s:T):Bool:=decide (s≠[])&&textB s
def idsNd (l:List Tup):Bool:=decide ((l.map (·.id)).Nodup)
def docB (d:DocP):Bool:=nameB d.ent&&decide (d.tups.length<=16)&&decide (d.notes.length<=16)&&d.tups.all tupB&&idsNd d.tups&&d.notes.all noteB
def docE (d:DocP):Int:=if docB d=true then 0 else 140
def TupTo (l:List Tup) (j:Nat):Prop:=(∀ t∈l.take j,tupB t=true)/\((l.take j).map (·.id)).Nodup
theorem TupTo.zero (l:List Tup):TupTo l 0:=⟨by simp,by simp⟩
theorem TupTo.step {l:List Tup} {j:Nat} (h:TupTo l j) (hj:j<l.length) (ht:tupB l[j]=true) (hn:l[j].id∉(l.take j).map (·.id)):TupTo l (j+1):=by
 unfold TupTo
 rw [List.take_succ_eq_append_getElem hj]
 refine ⟨fun t hm=>?_,?_⟩
 .rcases List.mem_append.1 hm with q|q
  .exact h.1 t q
  .simp at q;subst q;exact ht
 .rw [List.map_append,List.nodup_append]
  refine ⟨h.2,by simp,fun a ha b hb e=>?_⟩
  simp at hb
  subst hb
  exact hn (e▸ha)
theorem TupTo.all {l:List Tup} (h:TupTo l l.length):l.all tupB=true/\idsNd l=true:=by
 unfold TupTo at h
 rw [List.take_length] at h
 exact ⟨List.all_eq_true.2 h.1,decide_eq_true h.2⟩
structure Pub where
 number:Int
 who:T
 tag:T
 until_:Int
 doc:DocP
structure Conf where
 host:T
 calls:Int
 pubs:Int
 subs:Int
 least:Int
 most:Int
 usual:Int
def rightB (c:Conf):Bool:=decide (1<=c.pubs)&&decide (c.pubs<=200)&&decide (1<=c.subs)&&decide (c.subs<=200)&&decide (1<=c.calls)&&decide (c.calls<=200)&&decide (1<=c.least)&&decide (c.least<=c.usual)&&decide (c.usual<=c.most)&&decide (c.most<=2147483647)
def secN (c:Conf) (a:Int):Int:=if a<0 then c.usual else if c.most<a then c.most else a
def secK (c:Conf) (a:Int):Bool:=decide (a<0) || decide (c.most<a) || decide (a=0) || decide (c.least<=a)
def tokB (s:T):Bool:=decide (1<=s.length)&&decide (s.length<=64)&&s.all tok
structure AskP where
 who:T
 mtch:T
 exp:Int
 has:Bool
 doc:DocP
 tag:T
structure XP where
 b:Nat
 p:Pub
 vt:Value
 vn:Value
structure StQ (c:Conf) (last:Int) (L:List Pub) (l:List TM):Prop where
 right:rightB c=true
 ids:L.Pairwise fun a b=>a.number<b.number
 low:∀ p∈L,1<=p.number/\p.number<=last
 last:0<=last
 tags:(L.map (·.tag)).Nodup
 tok:∀ p∈L,tokB p.tag=true
 len:L.length<=c.pubs
 time:∀ p∈L,0<=p.until_/\p.until_<=1099511627776
 docs:∀ p∈L,docE p.doc=0
 lp:l.Perm (L.map fun p=>(p.until_,p.number))
section
variable {w w':World} {p bl bt pw:Nat} {c:Conf} {last:Int} {xs:List XP} {L:List Pub} {l:List TM} {F FW G:Nat->Prop} {kl:List (Int × Value)} {kt:List (ByteArray × Value)}
theorem StQ.pubs (H:StQ c last L l):1<=c.pubs/\c.pubs<=200:=by
 have h:=H.right
 unfold rightB at h
 simp only [Bool.and_eq_true,decide_eq_true_eq] at h
 exact ⟨h.1.1.1.1.1.1.1.1.1,h.1.1.1.1.1.1.1.1.2⟩
theorem StQ.nil (h:rightB c=true) (hl:0<=last):StQ c last [] []:=by
 refine ⟨h,List.Pairwise.nil,by simp,hl,by simp,by simp,?_,by simp,by simp,List.Perm.refl _⟩
 unfold rightB at h
 simp only [Bool.and_eq_true,decide_eq_true_eq] at h
 have:=h.1.1.1.1.1.1.1.1.1
 simp
 omega
theorem pubs_idnd (h:L.Pairwise fun a b=>a.number<b.number):(L.map (·.number)).Nodup:=by
 rw [List.nodup_iff_pairwise_ne,List.pairwise_map]
 exact h.imp fun h=>by omega
end
section
variable {c:Conf} {last:Int} {L:List Pub} {l:List TM}
theorem StQ.wnd (H:StQ c last L l):(l.map (·.2)).Nodup:=by
 have h1:(l.map (·.2)).Perm (L.map (·.number)):=by
  have:=H.lp.map (·.2)
  simpa [Function.comp_def] using this
 exact (h1.nodup_iff).2 (pubs_idnd H.ids)
theorem StQ.wlen (H:StQ c last L l):l.length=L.length:=by have:=H.lp.length_eq;simpa using this
theorem StQ.win (H:StQ c last L l) {n:Int}:n∈l.map (·.2)<->n∈L.map (·.number):=by
 have h1:(l.map (·.2)).Perm (L.map (·.number)):=by
  have:=H.lp.map (·.2)
  simpa [Function.comp_def] using this
 exact h1.mem_iff
theorem StQ.append (H:StQ c last L l) {q:Pub} (hn:q.number=last+1) (ht:q.tag∉L.map (·.tag)) (htk:tokB q.tag=true) (hlen:(L.length:Int)<c.pubs) (h1:0<=q.until_) (h2:q.until_<=1099511627776) (hdoc:docE q.doc=0) :
 rSetE l (last+1) q.until_=0/\StQ c (last+1) (L++[q]) (rSetL l (last+1) q.until_):=by
 have hni:last+1∉l.map (·.2):=fun h=>by
  obtain ⟨d,hd,e⟩:=List.mem_map.1 (H.win.1 h)
  have:=H.low d hd
  omega
 have hla:=H.last
 have hp:=H.pubs
 have hll:=H.wlen
 have h0:rSetE l (last+1) q.until_=0:=setE_new hni (by omega) (by omega) (by omega) (by omega)
 refine ⟨h0,H.right,?_,?_,by omega,?_,?_,?_,?_,?_,?_⟩
 .rw [List.pairwise_append]
  refine ⟨H.ids,by simp,fun a ha b hb=>?_⟩
  simp at hb
  subst hb
  have:=H.low a ha
  omega
 .intro d hd
  rcases List.mem_append.1 hd with r|r
  .have:=H.low d r;omega
  .simp at r;subst r;omega
 .rw [List.map_append,List.nodup_append]
  refine ⟨H.tags,by simp,fun a ha b hb e=>?_⟩
  simp at hb
  subst hb
  exact ht (e▸ha)
 .intro d hd
  rcases List.mem_append.1 hd with r|r
  .exact H.tok d r
  .simp at r;subst r;exact htk
 .rw [List.length_append];simp;omega
 .intro d hd
  rcases List.mem_append.1 hd with r|r
  .exact H.time d r
  .simp at r;subst r;exact ⟨h1,h2⟩
 .intro d hd
  rcases List.mem_append.1 hd with r|r
  .exact H.docs d r
  .simp at r;subst r;exact hdoc
 .unfold rSetL
  rw [if_pos h0,stop_none hni,List.map_append]
  refine ((ins_perm _ _).trans (H.lp.cons _)).trans ?_
  rw [<-hn]
  exact List.perm_append_comm (l₁:=[(q.until_,q.number)])
end
theorem due_parts {l:List TM} (hs:l.Pairwise ah) (now:Int):rDueA l now=l.filter (fun t=>decide (t.1<=now))/\rDueB l now=l.filter (fun t=>decide (now<t.1)):=by
 induction l with
 | nil=>exact ⟨rfl,rfl⟩
 | cons t r ih =>
   rw [List.pairwise_cons] at hs
   have ih:=ih hs.2
   unfold rDueA rDueB at *
   by_cases h:t.1<=now
   .rw [List.takeWhile_cons_of_pos (by simpa using h),List.dropWhile_cons_of_pos (by simpa using h),List.filter_cons_of_pos (by simpa using h),List.filter_cons_of_neg (by simp;omega),ih.1,ih.2]
    exact ⟨rfl,rfl⟩
   .have hr:∀ s∈r,now<s.1:=fun s hs'=>by have:=hs.1 s hs';unfold ah at this;omega
    rw [List.takeWhile_cons_of_neg (by simpa using h),List.dropWhile_cons_of_neg (by simpa using h),List.filter_cons_of_neg (by simpa using h),List.filter_cons_of_pos (by simp;omega)]
    constructor
    .rw [List.filter_eq_nil_iff.2 (fun s hs'=>by have:=hr s hs';simp;omega)]
    .rw [List.filter_eq_self.2 (fun s hs'=>by have:=hr s hs';simp;omega)]
section
variable {c:Conf} {last:Int} {L:List Pub} {l:List TM}
def dropP (L:List Pub) (n:Int):List Pub:=L.filter fun p=>decide (p.number≠n)
def setP (L:List Pub) (q:Pub):List Pub:=L.map fun p=>if p.number=q.number then q else p
theorem StQ.drop (H:StQ c last L l) (n:Int):StQ c last (dropP L n) (rStop l n) where
 right:=H.right
 ids:=H.ids.sublist List.filter_sublist
 low:=fun p hp=>H.low p (List.mem_filter.1 hp).1
 last:=H.last
 tags:=H.tags.sublist (List.filter_sublist.map _)
 tok:=fun p hp=>H.tok p (List.mem_filter.1 hp).1
 len:=by
  have h1:(dropP L n).length<=L.length:=List.length_filter_le _ _
  have:=H.len
  omega
 time:=fun p hp=>H.time p (List.mem_filter.1 hp).1
 docs:=fun p hp=>H.docs p (List.mem_filter.1 hp).1
 lp:=by
  unfold rStop dropP
  refine (H.lp.filter _).trans (List.Perm.of_eq ?_)
  rw [List.filter_map]
  rfl
theorem setP_num (L:List Pub) (q:Pub):(setP L q).map (·.number)=L.map (·.number):=by
 unfold setP
 rw [List.map_map]
 apply List.map_congr_left
 intro p hp
 show (if p.number=q.number then q else p).number=p.number
 split
 .next h=>exact h.symm
 .rfl
theorem setP_mem {q p:Pub} (h:p∈setP L q):p=q\/p∈L/\p.number≠q.number:=by
 obtain ⟨r,hr,rfl⟩:=List.mem_map.1 h
 by_cases hn:r.number=q.number
 .rw [if_pos hn];exact .inl rfl
 .rw [if_neg hn];exact .inr ⟨hr,hn⟩
theorem tags_set:∀ {L:List Pub} {q:Pub},(L.map (·.number)).Nodup->(L.map (·.tag)).Nodup->q.tag∉L.map (·.tag)->((setP L q).map (·.tag)).Nodup
 | [],_,_,_,_=>by simp [setP]
 | p::r,q,h1,h2,h3=>by
   rw [List.map_cons,List.nodup_cons] at h1 h2
   have h3':q.tag∉r.map (·.tag):=fun h=>h3 (by rw [List.map_cons];exact List.mem_cons_of_mem _ h)
   have h3p:q.tag≠p.tag:=fun h=>h3 (by rw [List.map_cons,h];exact List.mem_cons_self)
   have ih:=tags_set h1.2 h2.2 h3'
   have e:setP (p::r) q=(if p.number=q.number then q else p)::setP r q:=rfl
   rw [e,List.map_cons,List.nodup_cons]
   refine ⟨fun hm=>?_,ih⟩
   obtain ⟨s,hs,es⟩:=List.mem_map.1 hm
   by_cases hn:p.number=q.number
   .rw [if_pos hn] at es
    rcases setP_mem hs with rfl|⟨hs,hne⟩
    .obtain ⟨s',hs',e'⟩:=List.mem_map.1 hs
     by_cases hk:s'.number=s.number
     .exact h1.1 (List.mem_map.2 ⟨s',hs',hk.trans hn.symm⟩)
     .rw [if_neg hk] at e'
      subst e'
      exact hk rfl
    .exact h3' (List.mem_map.2 ⟨s,hs,es⟩)
   .rw [if_neg hn] at es
    rcases setP_mem hs with rfl|⟨hs,hne⟩
    .exact h3p es
    .exact h2.1 (List.mem_map.2 ⟨s,hs,es⟩)
theorem setP_perm:∀ {L:List Pub} {p0 q:Pub},(L.map (·.number)).Nodup->p0∈L->q.number=p0.number->(setP L q).Perm (q::dropP L p0.number)
 | [],_,_,_,h,_=>by cases h
 | p::r,p0,q,hn,h,hq=>by
   rw [List.map_cons,List.nodup_cons] at hn
   have e:setP (p::r) q=(if p.number=q.number then q else p)::setP r q:=rfl
   rcases List.mem_cons.1 h with rfl|h
   .have hr:setP r q=r:=by
     have h9:setP r q=r.map id:=List.map_congr_left (fun s hs=>if_neg fun k=>hn.1 (List.mem_map.2 ⟨s,hs,Eq.trans k hq⟩))
     rw [h9,List.map_id]
    have hd:dropP (p0::r) p0.number=r:=by
     unfold dropP
     rw [List.filter_cons_of_neg (by simp),List.filter_eq_self]
     intro s hs
     exact decide_eq_true fun k=>hn.1 (List.mem_map.2 ⟨s,hs,k⟩)
    rw [e,if_pos hq.symm,hr,hd]
   .have hne:p.number≠p0.number:=fun k=>hn.1 (List.mem_map.2 ⟨p0,h,k.symm⟩)
    have hd:dropP (p::r) p0.number=p::dropP r p0.number:=by
     unfold dropP
     rw [List.filter_cons_of_pos (by simp [hne])]
    rw [e,if_neg (by rw [hq];exact hne),hd]
    exact ((setP_perm hn.2 h hq).cons p).trans (List.Perm.swap _ _ _)
theorem StQ.put (H:StQ c last L l) {p0 q:Pub} (hp:p0∈L) (hq:q.number=p0.number) (ht:q.tag∉L.map (·.tag)) (htk:tokB q.tag=true) (h1:0<=q.until_) (h2:q.until_<=1099511627776) (hdoc:docE q.doc=0) :
 rSetE l p0.number q.until_=0/\StQ c last (setP L q) (rSetL l p0.number q.until_):=by
 have hlo:=H.low p0 hp
 have h0:rSetE l p0.number q.until_=0:=setE_in H.wnd (H.win.2 (List.mem_map.2 ⟨p0,hp,rfl⟩)) (by omega) h1 h2
 refine ⟨h0,H.right,?_,fun p hm=>?_,H.last,tags_set (pubs_idnd H.ids) H.tags ht,fun p hm=>?_,?_,fun p hm=>?_,fun p hm=>?_,?_⟩
 .rw [<-List.pairwise_map (f:=fun p:Pub=>p.number) (R:=fun a b=>a<b),setP_num,List.pairwise_map]
  exact H.ids
 .rcases setP_mem hm with rfl|⟨hm,_⟩
  .rw [hq];exact hlo
  .exact H.low p hm
 .rcases setP_mem hm with rfl|⟨hm,_⟩
  .exact htk
  .exact H.tok p hm
 .have:(setP L q).length=L.length:=by unfold setP;simp
  rw [this]
  exact H.len
 .rcases setP_mem hm with rfl|⟨hm,_⟩
  .exact ⟨h1,h2⟩
  .exact H.time p hm
 .rcases setP_mem hm with rfl|⟨hm,_⟩
  .exact hdoc
  .exact H.docs p hm
 .have hd:=(H.drop p0.number).lp
  unfold rSetL
  rw [if_pos h0]
  refine (ins_perm _ _).trans ?_
  have hs:=(setP_perm (pubs_idnd H.ids) hp hq).map fun p=>(p.until_,p.number)
  refine List.Perm.trans ?_ hs.symm
  rw [List.map_cons,hq]
  exact hd.cons _
end
section
variable {c:Conf} {last now:Int} {L:List Pub} {a:AskP}
variable {p:Pub}
theorem sec_lo (H:rightB c=true) (a:Int):0<=secN c a/\secN c a<=2147483647:=by
 unfold rightB at H
 simp only [Bool.and_eq_true,decide_eq_true_eq] at H
 unfold secN
 split
 .omega
 .split <;> omega
end
def expL (L:List Pub) (now:Int):List Pub:=L.filter fun p=>decide (now<p.until_)
theorem StQ.exp {c:Conf} {last:Int} {L:List Pub} {l:List TM} (H:StQ c last L l) (hs:l.Pairwise ah) (now:Int):StQ c last (expL L now) (rDueB l now) where
 right:=H.right
 ids:=H.ids.sublist List.filter_sublist
 low:=fun p hp=>H.low p (List.mem_filter.1 hp).1
 last:=H.last
 tags:=H.tags.sublist (List.filter_sublist.map _)
 tok:=fun p hp=>H.tok p (List.mem_filter.1 hp).1
 len:=by
  have h1:(expL L now).length<=L.length:=List.length_filter_le _ _
  have:=H.len
  omega
 time:=fun p hp=>H.time p (List.mem_filter.1 hp).1
 docs:=fun p hp=>H.docs p (List.mem_filter.1 hp).1
 lp:=by
  rw [(due_parts hs now).2]
  refine (H.lp.filter fun t=>decide (now<t.1)).trans (List.Perm.of_eq ?_)
  unfold expL
  rw [List.filter_map]
  rfl
end Go.Proofs.YthkadehlclcggaaGreatDoor
