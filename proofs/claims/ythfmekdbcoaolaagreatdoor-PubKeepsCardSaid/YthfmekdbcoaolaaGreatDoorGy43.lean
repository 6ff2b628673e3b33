/- Chapter 16 in plain Lean: what a call leaves; what becomes of a replaced tag. Chapter 16 in plain Lean: places in the document's list. Chapter 16: the reference's store, Place. Chapters 13, 14: the document's answer: signs of a text, its ends, texts and ids that may  Chapter 14: the document's answer: Text, ident, Check. Chapter 16: the store and the document's list side by side. -/
import Derived.Test.YthfmekdbcoaolaaGreatDoorGy25
import Derived.Test.YthfmekdbcoaolaaGreatDoorGy21
import Derived.Test.YthfmekdbcoaolaaGreatDoorGy07
import Derived.Test.YthfmekdbcoaolaaGreatDoorGy10
import Derived.Test.YthfmekdbcoaolaaGreatDoorGy39
namespace Go.Proofs.YthfmekdbcoaolaaGreatDoor
set_option linter.unusedSimpArgs false
set_option linter.unusedVariables false
open Go.RowKit
open Go.Lib (hid)
def WhoS (L:List Pub):Prop:=∀ p∈L,p.who.length<=140737488351232
theorem WhoS.nil:WhoS []:=fun _ h=>absurd h (by simp)
section
variable {c:Conf} {last now:Int} {L:List Pub} {a:AskP}
theorem doR_keep:((doR c last L now a).err=0/\(doR c last L now a).told.status=200)\/((doR c last L now a).L=L/\(doR c last L now a).last=last/\(doR c last L now a).told.tag=[]/\(doR c last L now a).told.changed=false):=by
 unfold doR
 split
 .exact .inr ⟨rfl,rfl,rfl,rfl⟩
 .split
  .split
   .exact .inr ⟨rfl,rfl,rfl,rfl⟩
   .split
    .exact .inr ⟨rfl,rfl,rfl,rfl⟩
    .split
     .exact .inr ⟨rfl,rfl,rfl,rfl⟩
     .exact .inl ⟨rfl,rfl⟩
  .split
   .exact .inr ⟨rfl,rfl,rfl,rfl⟩
   .split
    .exact .inr ⟨rfl,rfl,rfl,rfl⟩
    .split
     .exact .inr ⟨rfl,rfl,rfl,rfl⟩
     .split
      .exact .inr ⟨rfl,rfl,rfl,rfl⟩
      .split
       .exact .inl ⟨rfl,rfl⟩
       .exact .inl ⟨rfl,rfl⟩
theorem doR_last:(doR c last L now a).last<=last+1:=by
 unfold doR
 split
 .show last<=_;omega
 .split
  .split
   .show last<=_;omega
   .split
    .show last<=_;omega
    .split
     .show last<=_;omega
     .show last+1<=_;omega
  .split
   .show last<=_;omega
   .split
    .show last<=_;omega
    .split
     .show last<=_;omega
     .split
      .show last<=_;omega
      .split
       .show last<=_;omega
       .show last<=_;omega
theorem doR_whoS (h:WhoS L) (ha:a.who.length<=140737488351232):WhoS (doR c last L now a).L:=by
 unfold doR
 split
 .exact h
 .split
  .split
   .exact h
   .split
    .exact h
    .split
     .exact h
     .intro p hp
      rcases List.mem_append.1 hp with q|q
      .exact h p q
      .rw [List.mem_singleton] at q
       subst q
       exact ha
  .split
   .exact h
   .split
    .exact h
    .split
     .exact h
     .split
      .exact h
      .split
       .exact fun p hp=>h p (List.mem_filter.1 hp).1
       .intro p hp
        obtain ⟨q,hq,e⟩:=List.mem_map.1 hp
        split at e
        .subst e
         exact h q hq
        .subst e
         exact h q hq
def goA (who m:T) (exp:Int) (tag:T):AskP:=⟨who,m,exp,false,⟨[],[],[]⟩,tag⟩
theorem tok_ne {s:T} (h:tokB s=true):s≠[]:=by
 rintro rfl
 revert h
 decide
theorem goA_no {who m tag:T} {exp:Int} (h1:0<=now) (h2:now<=549755813888) (h3:tokB tag=true) (h4:tag∉L.map (·.tag)):argE L now (goA who m exp tag)=false :=
 argE_not (a:=goA who m exp tag) (by omega) (by omega) h3 h4 (fun h=>by cases h)
theorem set_tags {p q:Pub} (hn:(L.map (·.number)).Nodup) (hp:p∈L) (hq:q.number=p.number) (x:T):x∈(setP L q).map (·.tag)<->x=q.tag\/∃ r∈L,r.number≠p.number/\r.tag=x:=by
 constructor
 .intro h
  obtain ⟨r,hr,e⟩:=List.mem_map.1 h
  rcases setP_mem hr with rfl|⟨h1,h2⟩
  .exact .inl e.symm
  .exact .inr ⟨r,h1,by rw [<-hq];exact h2,e⟩
 .rintro (e|⟨r,h1,h2,h3⟩)
  .subst e
   exact List.mem_map.2 ⟨q,by unfold setP;exact List.mem_map.2 ⟨p,hp,by rw [if_pos hq.symm]⟩,rfl⟩
  .exact List.mem_map.2 ⟨r,by unfold setP;exact List.mem_map.2 ⟨r,h1,by rw [if_neg (by rw [hq];exact h2)]⟩,h3⟩
end
theorem tags_law {c:Conf} {last now:Int} {L:List Pub} {l:List TM} (Q:StQ c last L l) {p:Pub} (hp:p∈L) {tag tagx other:T} (h1:0<=now) (h2:now<=549755813888) (h3:tokB tag=true) (h4:tag∉L.map (·.tag)) (h5:tokB tagx=true) (h6:tagx∉L.map (·.tag)) (h7:tagx≠tag) (hk:secK c 60=true) (hs:secN c 60=60) (hk0:secK c 0=true) (hs0:secN c 0=0) :
 doR c last L now (goA p.who p.tag 60 tag)=⟨last,setP L (putP p (goA p.who p.tag 60 tag) now 60),⟨200,60,tag,false⟩,0⟩ /\
 doR c last (setP L (putP p (goA p.who p.tag 60 tag) now 60)) now (goA p.who p.tag 60 tagx)=⟨last,setP L (putP p (goA p.who p.tag 60 tag) now 60),⟨412,0,[],false⟩,0⟩ /\
 (other≠p.who->doR c last (setP L (putP p (goA p.who p.tag 60 tag) now 60)) now (goA other tag 60 tagx)=⟨last,setP L (putP p (goA p.who p.tag 60 tag) now 60),⟨412,0,[],false⟩,0⟩) /\
 (∃ L2,doR c last (setP L (putP p (goA p.who p.tag 60 tag) now 60)) now (goA p.who tag 0 tagx)=⟨last,L2,⟨200,0,tagx,true⟩,0⟩/\doR c last L2 now (goA p.who tag 60 tag)=⟨last,L2,⟨412,0,[],false⟩,0⟩/\(L2.length:Int)=L.length-1):=by
 have hnd:(L.map (·.number)).Nodup:=pubs_idnd Q.ids
 have hpt:tokB p.tag=true:=Q.tok p hp
 have hq:(putP p (goA p.who p.tag 60 tag) now 60).number=p.number:=rfl
 have hqt:(putP p (goA p.who p.tag 60 tag) now 60).tag=tag:=rfl
 have hqw:(putP p (goA p.who p.tag 60 tag) now 60).who=p.who:=rfl
 have a1:=doR_old4 (c:=c) (last:=last) (goA_no (who:=p.who) (m:=p.tag) (exp:=60) h1 h2 h3 h4) (tok_ne hpt) hnd Q.tags hp rfl rfl hk (by show secN c 60≠0;rw [hs];omega)
 have ht:∀ x,x∈(setP L (putP p (goA p.who p.tag 60 tag) now 60)).map (·.tag)<->x=tag\/∃ r∈L,r.number≠p.number/\r.tag=x:=fun x=>set_tags hnd hp hq x
 have hm1:putP p (goA p.who p.tag 60 tag) now 60∈setP L (putP p (goA p.who p.tag 60 tag) now 60):=by unfold setP;exact List.mem_map.2 ⟨p,hp,by rw [if_pos hq.symm]⟩
 have hnd1:((setP L (putP p (goA p.who p.tag 60 tag) now 60)).map (·.number)).Nodup:=by rw [setP_num];exact hnd
 have htn1:((setP L (putP p (goA p.who p.tag 60 tag) now 60)).map (·.tag)).Nodup:=tags_set hnd Q.tags h4
 have hx1:tagx∉(setP L (putP p (goA p.who p.tag 60 tag) now 60)).map (·.tag):=fun h=>by
  rcases (ht _).1 h with e|⟨r,hr,_,e⟩
  .exact h7 e
  .exact h6 (List.mem_map.2 ⟨r,hr,e⟩)
 have hpo:p.tag∉(setP L (putP p (goA p.who p.tag 60 tag) now 60)).map (·.tag):=fun h=>by
  rcases (ht _).1 h with e|⟨r,hr,hne,e⟩
  .exact h4 (List.mem_map.2 ⟨p,hp,e⟩)
  .exact hne ((tag_num hnd Q.tags hp r hr).1 e)
 have hlen:(setP L (putP p (goA p.who p.tag 60 tag) now 60)).length=L.length:=by unfold setP;rw [List.length_map]
 generalize hL1:setP L (putP p (goA p.who p.tag 60 tag) now 60)=L1 at *
 generalize hp1:putP p (goA p.who p.tag 60 tag) now 60=p1 at *
 refine ⟨?_,doR_no (goA_no h1 h2 h5 hx1) (tok_ne hpt) hpo,fun ho=>?_,dropP L1 p1.number,?_,?_,?_⟩
 .rw [a1]
  show (⟨last,setP L (putP p (goA p.who p.tag 60 tag) now (secN c 60)),⟨200,secN c 60,tag,false⟩,0⟩:DoR)=_
  rw [hs,hp1,hL1]
 .exact doR_who (goA_no h1 h2 h5 hx1) (tok_ne h3) htn1 hm1 hqt (by rw [hqw];exact fun e=>ho e.symm)
 .exact doR_old3 (goA_no h1 h2 h5 hx1) (tok_ne h3) hnd1 htn1 hm1 hqt hqw hk0 rfl hs0
 .have hout:tag∉(dropP L1 p1.number).map (·.tag):=fun h=>by
   obtain ⟨r,hr,e⟩:=List.mem_map.1 h
   obtain ⟨hr1,hr2⟩:=List.mem_filter.1 hr
   have:=(tag_num hnd1 htn1 hm1 r hr1).1 (by rw [hqt];exact e)
   simp [this] at hr2
  exact doR_no (goA_no h1 h2 h3 hout) (tok_ne h3) hout
 .have hpr:L1.Perm (p1::dropP L1 p1.number):=by
   have:=setP_perm hnd1 hm1 (q:=p1) rfl
   have e:setP L1 p1=L1:=by
    unfold setP
    refine (List.map_congr_left fun r hr=>?_).trans (List.map_id _)
    by_cases he:r.number=p1.number
    .rw [if_pos he]
     exact (nodup_inj hnd1 hm1 hr he.symm)
    .rw [if_neg he];rfl
   rw [e] at this
   exact this
  have:=hpr.length_eq
  simp at this
  omega
def plcI (L:List Pub) (tag:T):Int:=match L.findIdx? (fun p=>decide (p.tag=tag)) with
 | some i=>i
 | none=>-1
theorem plc_at {L:List Pub} {tag:T} {j:Nat} (hj:j<L.length) (h1:∀ p∈L.take j,p.tag≠tag) (h2:L[j].tag=tag):plcI L tag=j:=by
 have:L.findIdx? (fun p=>decide (p.tag=tag))=some j:=by
  rw [List.findIdx?_eq_some_iff_getElem]
  refine ⟨hj,by simpa using h2,fun i hi=>?_⟩
  have:L[i]∈L.take j:=List.mem_take_iff_getElem.2 ⟨i,by omega,rfl⟩
  simpa using h1 _ this
 unfold plcI
 rw [this]
theorem plc_no {L:List Pub} {tag:T} (h1:∀ p∈L,p.tag≠tag):plcI L tag=-1:=by
 have:L.findIdx? (fun p=>decide (p.tag=tag))=none:=by
  rw [List.findIdx?_eq_none_iff]
  intro p hp
  simpa using h1 p hp
 unfold plcI
 rw [this]
theorem plc_ways (L:List Pub) (tag:T):(plcI L tag=-1/\tag∉L.map (·.tag))\/∃ (j:Nat) (hj:j<L.length),plcI L tag=j/\L[j].tag=tag:=by
 by_cases h:tag∈L.map (·.tag)
 .right
  unfold plcI
  cases hf:L.findIdx? (fun p=>decide (p.tag=tag)) with
  | none =>
    exfalso
    rw [List.findIdx?_eq_none_iff] at hf
    obtain ⟨p,hp,e⟩:=List.mem_map.1 h
    have:=hf p hp
    simp [e] at this
  | some i =>
    obtain ⟨hi,h2,_⟩:=List.findIdx?_eq_some_iff_getElem.1 hf
    exact ⟨i,hi,rfl,by simpa using h2⟩
 .left
  exact ⟨plc_no fun p hp e=>h (List.mem_map.2 ⟨p,hp,e⟩),h⟩
theorem psplit {L:List Pub} {j:Nat} (hj:j<L.length):L=L.take j++L[j]::L.drop (j+1):=by
 have h:=(List.take_append_drop j L).symm
 rw [List.drop_eq_getElem_cons hj] at h
 exact h
theorem psplit_ne {L:List Pub} {j:Nat} (hj:j<L.length) (hn:(L.map (·.number)).Nodup):(∀ r∈L.take j,r.number≠L[j].number)/\∀ r∈L.drop (j+1),r.number≠L[j].number:=by
 have h:=hn
 rw [psplit hj,List.map_append,List.map_cons,List.nodup_append,List.nodup_cons] at h
 refine ⟨fun r hr e=>?_,fun r hr e=>?_⟩
 .exact h.2.2 _ (List.mem_map.2 ⟨r,hr,rfl⟩) _ List.mem_cons_self e
 .exact h.2.1.1 (List.mem_map.2 ⟨r,hr,e⟩)
theorem drop_split {L:List Pub} {j:Nat} (hj:j<L.length) (hn:(L.map (·.number)).Nodup):dropP L L[j].number=L.take j++L.drop (j+1):=by
 obtain ⟨h1,h2⟩:=psplit_ne hj hn
 obtain ⟨n,hnn⟩:∃ n,L[j].number=n:=⟨_,rfl⟩
 have h:=congrArg (List.filter fun p:Pub=>decide (p.number≠n)) (psplit hj)
 rw [List.filter_append,List.filter_cons_of_neg (by simpa using hnn)] at h
 rw [hnn] at h1 h2 ⊢
 unfold dropP
 rw [h,List.filter_eq_self.2 fun r hr=>by simpa using h1 r hr,List.filter_eq_self.2 fun r hr=>by simpa using h2 r hr]
theorem set_split {L:List Pub} {j:Nat} (hj:j<L.length) (hn:(L.map (·.number)).Nodup) {q:Pub} (hq:q.number=L[j].number):setP L q=L.take j++q::L.drop (j+1):=by
 obtain ⟨h1,h2⟩:=psplit_ne hj hn
 unfold setP
 have h:=congrArg (List.map fun p:Pub=>if p.number=q.number then q else p) (psplit hj)
 rw [List.map_append,List.map_cons,if_pos hq.symm] at h
 rw [h]
 congr 1
 .refine (List.map_congr_left fun r hr=>?_).trans (List.map_id _)
  rw [if_neg (by rw [hq];exact h1 r hr)];rfl
 .congr 1
  refine (List.map_congr_left fun r hr=>?_).trans (List.map_id _)
  rw [if_neg (by rw [hq];exact h2 r hr)];rfl
section
variable {L:List Pub} {now:Int} {j:Nat}
theorem exp_keep (hj:j<L.length) (h:now<L[j].until_):expL (L.take (j+1)) now=expL (L.take j) now++[L[j]]/\expW (L.take (j+1)) now=expW (L.take j) now:=by
 rw [List.take_succ_eq_append_getElem hj]
 unfold expL expW expD
 rw [List.filter_append,List.filter_append,List.filter_cons_of_pos (by simpa using h),List.filter_cons_of_neg (by simp;omega)]
 simp
theorem exp_gone (hj:j<L.length) (h:¬now<L[j].until_):expL (L.take (j+1)) now=expL (L.take j) now/\expW (L.take (j+1)) now=risT (expW (L.take j) now) L[j].who:=by
 rw [List.take_succ_eq_append_getElem hj]
 unfold expL expW expD
 rw [List.filter_append,List.filter_append,List.filter_cons_of_neg (by simpa using h),List.filter_cons_of_pos (by simp;omega)]
 refine ⟨by simp,?_⟩
 unfold risA
 rw [List.map_append,List.foldl_append]
 rfl
theorem who_in {who:T} (hj:j<L.length) (h:L[j].who=who):(L.take (j+1)).filter (fun p=>decide (p.who=who))=(L.take j).filter (fun p=>decide (p.who=who))++[L[j]]:=by
 rw [List.take_succ_eq_append_getElem hj,List.filter_append,List.filter_cons_of_pos (by simpa using h)]
 rfl
theorem who_out {who:T} (hj:j<L.length) (h:¬L[j].who=who):(L.take (j+1)).filter (fun p=>decide (p.who=who))=(L.take j).filter (fun p=>decide (p.who=who)):=by
 rw [List.take_succ_eq_append_getElem hj,List.filter_append,List.filter_cons_of_neg (by simpa using h)]
 simp
end
theorem rp_rd {w:World} {A:Option Addr} {l:List RP} (h:Rd w 66 7 l.length A (rows rpC l)) {i:Nat} (hi:i<l.length) :
 ∃ gb off,A=some ⟨gb,off,none⟩/\gb<w.heap.size/\w.cell? ⟨gb,off+i*7,none⟩=some (.int .i64 l[i].p.number)/\w.cell? ⟨gb,off+i*7+1,none⟩=some (.string (str l[i].p.who))/\w.cell? ⟨gb,off+i*7+2,none⟩=some (.string (str l[i].p.tag))/\w.cell? ⟨gb,off+i*7+3,none⟩=some (.int .i64 l[i].p.until_)/\w.cell? ⟨gb,off+i*7+4,none⟩=some (.string (str l[i].p.doc.ent))/\w.cell? ⟨gb,off+i*7+5,none⟩=some l[i].vt/\w.cell? ⟨gb,off+i*7+6,none⟩=some l[i].vn:=by
 obtain ⟨gb,off,e,hlt,hc⟩:=rd_row rpC_len h hi
 refine ⟨gb,off,e,hlt,?_,hc 1 (by omega),hc 2 (by omega),hc 3 (by omega),hc 4 (by omega),hc 5 (by omega),hc 6 (by omega)⟩
 have:=hc 0 (by omega)
 rwa [Nat.add_zero] at this
abbrev rsV (c:Conf) (last:Int) (v:Value):Array Value:=#[.string (str c.host),.int .i64 c.calls,.int .i64 c.pubs,.int .i64 c.subs,.int .i64 c.least,.int .i64 c.most,.int .i64 c.usual,.int .i64 last,v]
def PlcPost (L:List Pub) (tag:T) (w:World) (e:Ending) (w':World):Prop:=e=.returned (.int .i64 (plcI L tag))/\Below w.heap.size w w'
set_option maxRecDepth 100000 in
theorem place_any {w:World} {N:Nat->Prop} {B:Nat} {L:List Pub} {v:Value} {c:Conf} {last:Int} {tag:T} (H:RL w N B L v) (hl:L.length<=1000000):Calls Tryz.prog 22 #[.agg (rsV c last v),.string (str tag)] w (PlcPost L tag w):=by
 obtain ⟨xs,A,cp,rfl,rfl,hcp,hmx,hrd,_,_⟩:=H
 rw [List.length_map] at hl
 clear hmx
 obtain ⟨w0,hw0⟩:∃ w0,w.alloc (.cells (rsV c last (.slice A xs.length cp)) 60)=w0:=⟨_,rfl⟩
 have hb0:Below w.heap.size w w0:=hw0▸(Below.refl _ _).alloc (Nat.le_refl _) _
 have hk:Blk w0 w.heap.size 60 (rsV c last (.slice A xs.length cp)):=hw0▸Blk.new w _ _
 have HP:Hid (∀ n:Int,plcI (xs.map (·.p)) tag=n->PlcPost (xs.map (·.p)) tag w (.returned (.int .i64 n)) w0):=hid (fun n h=>⟨by rw [h],hb0⟩)
 have HR:=hid (hrd.below hb0)
 have c8:=hk.cell 8
 clear hb0 hk hrd
 go_enter Tryz.func22,Tryz.ntmps22
 go_wp2
 try rw [hw0]
 clear hw0
 go_loop [5] (fun i=>∃ j:Nat,j<=xs.length/\i=.int .i64 j/\∀ p∈(xs.map (·.p)).take j,p.tag≠tag) (fun i=>xs.length-(intOf i).toNat)
 case atStart=>exact ⟨0,by omega,rfl,by simp⟩
 case round =>
  obtain ⟨j,hj,rfl,hno⟩:=hrel
  have HNO:=hid hno
  clear hno
  by_cases hlt:j<xs.length
  .have x0:(0:Int)<=j:=by omega
   have x1:(j:Int)<xs.length:=by omega
   obtain ⟨gb,off,rfl,_,_,_,y2,_⟩:=rp_rd HR.out hlt
   by_cases ht:xs[j].p.tag=tag
   .have HT:=hid (HP.out j (plc_at (by simpa using hlt) HNO.out (by simpa using ht)))
    have q1:((str xs[j].p.tag).toList == (str tag).toList)=true:=by rw [strv_dec,decide_eq_true ht]
    clear ht
    go_wp2
    go_ret
    exact HT.out
   .have q1:((str xs[j].p.tag).toList == (str tag).toList)=false:=by rw [strv_dec,decide_eq_false ht]
    have HN2:Hid (∀ p∈(xs.map (·.p)).take (j+1),p.tag≠tag):=hid (by
     intro p hp
     rw [List.take_succ_eq_append_getElem (by simpa using hlt),List.mem_append] at hp
     rcases hp with hp|hp
     .exact HNO.out p hp
     .rw [List.mem_singleton] at hp
      rw [hp]
      simpa using ht)
    clear ht
    go_wp2
    go_round
    case rel=>exact ⟨j+1,by omega,by go_num,HN2.out⟩
    case measure=>simp [intOf] <;> omega
  .have x1:¬(j:Int)<xs.length:=by omega
   have HT:=hid (HP.out (-1) (plc_no (by
    have:=HNO.out
    rwa [List.take_of_length_le (by simp;omega)] at this)))
   go_wp2
   go_ret
   exact HT.out
theorem sgr_ways (c:UInt8):(inB (str blaN) c=true/\sgnB c=true)\/(inB (str blaN) c=false/\c.toNat<32/\sgnB c=false)\/(inB (str blaN) c=false/\32<=c.toNat/\c.toNat=127/\sgnB c=false)\/(inB (str blaN) c=false/\32<=c.toNat/\c.toNat≠127/\sgnB c=true):=by
 have:=all_u8 (p:=fun c=>decide ((inB (str blaN) c=true/\sgnB c=true)\/(inB (str blaN) c=false/\c.toNat<32/\sgnB c=false)\/(inB (str blaN) c=false/\32<=c.toNat/\c.toNat=127/\sgnB c=false)\/(inB (str blaN) c=false/\32<=c.toNat/\c.toNat≠127/\sgnB c=true))) (by decide +kernel) c
 exact of_decide_eq_true this
theorem bla_any (c:UInt8) (w:World):Calls Tryz.prog 114 #[.string ⟨#[32,9,13,10]⟩,.int .u8 (c.toNat:Int)] w fun e w'=>e=.returned (.bool (inB (str blaN) c))/\w=w':=rHas_any (str blaN) c w (by decide)
set_option maxRecDepth 100000 in
set_option maxHeartbeats 2000000 in
theorem rSigns_any (s:ByteArray) (w:World) (hs:s.size<=9223372036854775807) :
 Calls Tryz.prog 91 #[.string s] w fun e w'=>e=.returned (.bool (allB sgnB s))/\w=w':=by
 go_enter Tryz.func91,Tryz.ntmps91
 go_wp2
 go_loop [3] (fun i=>∃ j:Nat,j<=s.size/\i=.int .i64 j/\AllTo sgnB s j) (fun i=>s.size-(intOf i).toNat)
 case atStart=>exact ⟨0,by omega,rfl,by simp [AllTo]⟩
 case round =>
  obtain ⟨j,hj,rfl,hrel⟩:=hrel
  have HR:=hid hrel
  clear hrel
  by_cases hlt:j<s.size
  .have HT:=hid (all_take hlt HR.out)
   have HF:=hid (fun q=>all_fail (p:=sgnB) hlt q)
   have HC:=hid (bla_any s[j] w)
   have hn:((s[j]).toNat:Int)<256:=by have:=(s[j]).toNat_lt;omega
   go_wp2_with fail
   refine (HC.out).mono ?_
   rintro e w' ⟨rfl,rfl⟩
   rcases sgr_ways s[j] with ⟨h0,hb⟩|⟨h0,h1,hb⟩|⟨h0,h1,h2,hb⟩|⟨h0,h1,h2,hb⟩
   .have HX:=hid (HT.out.trans hb)
    clear hb
    go_wp2
    go_round
    case rel=>exact ⟨j+1,by omega,by go_num,HX.out⟩
    case measure=>simp [intOf] <;> omega
   .have HX:=hid (HF.out hb)
    have a1:(((s[j]).toNat:Int)<32):=by omega
    clear hb h1
    go_wp2
    go_ret
    exact ⟨ret_bool (show _=allB sgnB s from HX.out.symm),rfl⟩
   .have HX:=hid (HF.out hb)
    have a1:¬(((s[j]).toNat:Int)<32):=by omega
    have e0:((s[j]).toNat:Int)=127:=by omega
    clear hb h1 h2
    go_wp2
    go_ret
    exact ⟨ret_bool (show _=allB sgnB s from HX.out.symm),rfl⟩
   .have HX:=hid (HT.out.trans hb)
    have a1:¬(((s[j]).toNat:Int)<32):=by omega
    have a2:(((s[j]).toNat:Int) == 127)=false:=by simp;omega
    clear hb h1 h2
    go_wp2
    go_round
    case rel=>exact ⟨j+1,by omega,by go_num,HX.out⟩
    case measure=>simp [intOf] <;> omega
  .obtain rfl:j=s.size:=by omega
   have HX:Hid (allB sgnB s=true):=hid (by have:=HR.out;unfold AllTo at this;rwa [List.take_of_length_le (by simp)] at this)
   go_wp2
   go_ret
   exact ⟨ret_bool (show _=allB sgnB s from HX.out.symm),rfl⟩
theorem trimR_cons (a:UInt8) (t cs:T):Lib.trimRightS (a::t) cs=if (Lib.trimRightS t cs).isEmpty then (if cs.contains a then [] else [a]) else a::Lib.trimRightS t cs:=by
 unfold Lib.trimRightS
 rw [List.reverse_cons,List.dropWhile_append]
 by_cases h:(t.reverse.dropWhile (cs.contains ·)).isEmpty=true
 .have h2:((t.reverse.dropWhile (cs.contains ·)).reverse).isEmpty=true:=by simpa using h
  rw [if_pos h,if_pos h2]
  by_cases hc:cs.contains a=true
  .have hm:a∈cs:=by simpa using hc
   rw [if_pos hc];simp [hm]
  .have hm:¬a∈cs:=by simpa using hc
   rw [if_neg hc];simp [hm]
 .have h2:¬((t.reverse.dropWhile (cs.contains ·)).reverse).isEmpty=true:=by simpa using h
  rw [if_neg h,if_neg h2]
  simp
theorem trim_turn (cs:T):∀ s:T,Lib.trimLeftS (Lib.trimRightS s cs) cs=Lib.trimRightS (Lib.trimLeftS s cs) cs
 | []=>rfl
 | a::t=>by
   have ih:=trim_turn cs t
   by_cases hc:cs.contains a=true
   .have e1:Lib.trimLeftS (a::t) cs=Lib.trimLeftS t cs:=by unfold Lib.trimLeftS;rw [List.dropWhile_cons_of_pos hc]
    rw [e1,trimR_cons]
    by_cases hh:(Lib.trimRightS t cs).isEmpty=true
    .rw [if_pos hh,if_pos hc]
     have h2:Lib.trimRightS t cs=[]:=by simpa using hh
     rw [h2] at ih
     exact ih
    .rw [if_neg hh,<-ih]
     unfold Lib.trimLeftS
     rw [List.dropWhile_cons_of_pos hc]
   .have e1:∀ r,Lib.trimLeftS (a::r) cs=a::r:=fun r=>by unfold Lib.trimLeftS;rw [List.dropWhile_cons_of_neg hc]
    rw [e1,trimR_cons]
    by_cases hh:(Lib.trimRightS t cs).isEmpty=true
    .rw [if_pos hh,if_neg hc,e1]
    .rw [if_neg hh,e1]
theorem trimS_other (s:T):Lib.trimS s blaN=Lib.trimRightS (Lib.trimLeftS s blaN) blaN:=trim_turn blaN s
theorem bla_in (c:UInt8):inB (str blaN) c=blaN.contains c:=by
 have:=all_u8 (p:=fun c=>decide (inB (str blaN) c=blaN.contains c)) (by decide +kernel) c
 exact of_decide_eq_true this
theorem trimL_in {s:ByteArray} (h:0<s.size) (hc:inB (str blaN) s[0]=true):Lib.trimLeftS (s.extract 1 s.size).data.toList blaN=Lib.trimLeftS s.data.toList blaN:=by
 obtain ⟨⟨l⟩⟩:=s
 cases l with
 | nil=>simp [ByteArray.size] at h
 | cons a t =>
   rw [ext_str]
   have hc':blaN.contains a=true:=by rw [<-bla_in];exact hc
   show Lib.trimLeftS ((List.drop 1 (a::t)).take _) blaN=Lib.trimLeftS (a::t) blaN
   rw [List.drop_one,List.tail_cons,List.take_of_length_le (by simp [ByteArray.size])]
   unfold Lib.trimLeftS
   rw [List.dropWhile_cons_of_pos hc']
theorem trimL_out {s:ByteArray} (h:0<s.size) (hc:inB (str blaN) s[0]=false):Lib.trimLeftS s.data.toList blaN=s.data.toList:=by
 obtain ⟨⟨l⟩⟩:=s
 cases l with
 | nil=>simp [ByteArray.size] at h
 | cons a t =>
   have hc':blaN.contains a=false:=by rw [<-bla_in];exact hc
   show Lib.trimLeftS (a::t) blaN=a::t
   unfold Lib.trimLeftS
   rw [List.dropWhile_cons_of_neg (by rw [hc'];decide)]
theorem ba_last {s:ByteArray} (h:0<s.size):s.data.toList=(s.extract 0 (s.size-1)).data.toList++[s[s.size-1]]:=by
 obtain ⟨⟨l⟩⟩:=s
 rw [ext_str]
 have h0:0<l.length:=h
 have hix:l.length-1<l.length:=by omega
 show l=(List.take (l.length-1-0) (List.drop 0 l))++[l[l.length-1]'hix]
 rw [List.drop_zero,Nat.sub_zero]
 have h2:=List.take_succ_eq_append_getElem (l:=l) (i:=l.length-1) (by omega)
 rw [show l.length-1+1=l.length by omega,List.take_length] at h2
 exact h2
theorem trimR_in {s:ByteArray} (h:0<s.size) (hc:inB (str blaN) s[s.size-1]=true):Lib.trimRightS (s.extract 0 (s.size-1)).data.toList blaN=Lib.trimRightS s.data.toList blaN:=by
 have hl:=ba_last h
 conv=>rhs;rw [hl]
 unfold Lib.trimRightS
 rw [List.reverse_append,List.reverse_singleton,List.singleton_append,List.dropWhile_cons_of_pos (by rw [<-bla_in];exact hc)]
theorem trimR_out {s:ByteArray} (h:0<s.size) (hc:inB (str blaN) s[s.size-1]=false):Lib.trimRightS s.data.toList blaN=s.data.toList:=by
 have hl:=ba_last h
 conv=>lhs;rw [hl]
 unfold Lib.trimRightS
 rw [List.reverse_append,List.reverse_singleton,List.singleton_append,List.dropWhile_cons_of_neg (by rw [<-bla_in,hc];decide)]
 conv=>rhs;rw [hl]
 simp
theorem ba_emp {s:ByteArray} (h:¬0<s.size):s.data.toList=[]:=List.eq_nil_of_length_eq_zero (by
 have:s.data.toList.length=s.size:=rfl
 omega)
theorem trimL_emp {s:ByteArray} (h:¬0<s.size):Lib.trimLeftS s.data.toList blaN=s.data.toList:=by rw [ba_emp h];rfl
theorem trimR_emp {s:ByteArray} (h:¬0<s.size):Lib.trimRightS s.data.toList blaN=s.data.toList:=by rw [ba_emp h];rfl
theorem ext_init (s:ByteArray):(s.extract 0 (s.size-1)).size=s.size-1:=by simp [ByteArray.size_extract]
theorem ext_init' {s:ByteArray} {m:Nat} (hm:s.size=m+1):(s.extract 0 m).size=m:=by
 have:=ext_init s
 rw [hm] at this
 exact this
theorem trimR_in' {s:ByteArray} {m:Nat} (hm:s.size=m+1) (hc:inB (str blaN) (s[m]'(by omega))=true):Lib.trimRightS (s.extract 0 m).data.toList blaN=Lib.trimRightS s.data.toList blaN:=by
 obtain rfl:m=s.size-1:=by omega
 exact trimR_in (by omega) hc
theorem trimR_out' {s:ByteArray} {m:Nat} (hm:s.size=m+1) (hc:inB (str blaN) (s[m]'(by omega))=false):Lib.trimRightS s.data.toList blaN=s.data.toList:=by
 obtain rfl:m=s.size-1:=by omega
 exact trimR_out (by omega) hc
theorem ext_tail (s:ByteArray):(s.extract 1 s.size).size=s.size-1:=by simp [ByteArray.size_extract]
set_option maxRecDepth 100000 in
set_option maxHeartbeats 2000000 in
theorem rTrim_any (s:T) (w:World) (hs:s.length<=140737488351232) :
 Calls Tryz.prog 92 #[.string (str s)] w fun e w'=>e=.returned (.string (str (Lib.trimS s blaN)))/\w=w':=by
 have HZ:Hid ((str s).size<=140737488351232):=hid hs
 have HE:Hid (∀ S:ByteArray,Lib.trimRightS S.data.toList blaN=Lib.trimS s blaN->S.data.toList=Lib.trimRightS S.data.toList blaN->S=str (Lib.trimS s blaN)):=hid (fun S h1 h2=>by
  rw [<-h1,<-h2]
  exact rfl)
 have HM:Hid (∀ S:ByteArray,Lib.trimLeftS S.data.toList blaN=Lib.trimLeftS (str s).data.toList blaN->Lib.trimLeftS S.data.toList blaN=S.data.toList->Lib.trimRightS S.data.toList blaN=Lib.trimS s blaN):=hid (fun S h1 h2=>by
  rw [trimS_other,<-h2,h1]
  exact rfl)
 generalize hS:str s=S0 at *
 clear hS hs
 go_enter Tryz.func92,Tryz.ntmps92
 go_wp2
 go_loop [0] (fun v=>∃ S:ByteArray,v=.string S/\S.size<=S0.size/\Lib.trimLeftS S.data.toList blaN=Lib.trimLeftS S0.data.toList blaN) (fun v=>match v with|.string S=>S.size|_=>0)
 case atStart=>exact ⟨S0,rfl,Nat.le_refl _,rfl⟩
 case round =>
  obtain ⟨S,rfl,hsz,hrel⟩:=hrel
  have HR:=hid hrel
  have HSZ:=hid hsz
  clear hrel hsz
  by_cases hp:0<S.size
  .have x1:(0:Int)<S.size:=by omega
   have HC:=hid (bla_any S[0] w)
   go_wp2_with fail
   refine (HC.out).mono ?_
   rintro e w' ⟨rfl,rfl⟩
   cases hb:inB (str blaN) S[0] with
   | true =>
     have HX:=hid ((trimL_in hp hb).trans HR.out)
     clear hb
     go_wp2
     go_round
     case rel=>exact ⟨_,rfl,by rw [ext_tail];have:=HSZ.out;omega,HX.out⟩
     case measure =>
      show (S.extract 1 S.size).size<S.size
      rw [ext_tail];omega
   | false =>
     have HX:=hid (HM.out S HR.out (trimL_out hp hb))
     clear hb
     go_wp2
     go_loop [0] (fun v=>∃ R:ByteArray,v=.string R/\R.size<=S0.size/\Lib.trimRightS R.data.toList blaN=Lib.trimS s blaN) (fun v=>match v with|.string S=>S.size|_=>0)
     case atStart=>exact ⟨S,rfl,HSZ.out,HX.out⟩
     case round =>
      obtain ⟨R,rfl,hsz,hrel⟩:=hrel
      have HR2:=hid hrel
      have HSZ2:=hid hsz
      clear hrel hsz
      by_cases hp2:0<R.size
      .obtain ⟨m,hm⟩:∃ m,R.size=m+1:=⟨R.size-1,by omega⟩
       have hmb:m<=140737488351232:=by have:=HSZ2.out;have:=HZ.out;omega
       have y1:(0:Int)<R.size:=by omega
       have em:(R.size:Int)-1=(m:Int):=by omega
       have hml:m<R.size:=by omega
       have HRM:=hid hm
       clear hm
       have HC2:=hid (bla_any R[m] w)
       go_wp2_with fail
       refine (HC2.out).mono ?_
       rintro e w' ⟨rfl,rfl⟩
       cases hb:inB (str blaN) R[m] with
       | true =>
         have HY:=hid ((trimR_in' HRM.out hb).trans HR2.out)
         clear hb
         go_wp2
         go_round
         case rel=>exact ⟨_,rfl,by rw [ext_init' HRM.out];have:=HSZ2.out;omega,HY.out⟩
         case measure =>
          show (R.extract 0 m).size<R.size
          rw [ext_init' HRM.out];omega
       | false =>
         have HY:=hid (HE.out R HR2.out (trimR_out' HRM.out hb).symm)
         clear hb
         go_wp2
         go_ret
         exact ⟨show Ending.returned (Value.string R)=_ by rw [HY.out],rfl⟩
      .have y1:¬(0:Int)<R.size:=by omega
       have HY:=hid (HE.out R HR2.out (trimR_emp hp2).symm)
       go_wp2
       go_ret
       exact ⟨show Ending.returned (Value.string R)=_ by rw [HY.out],rfl⟩
  .have x1:¬(0:Int)<S.size:=by omega
   have HX:=hid (HM.out S HR.out (trimL_emp hp))
   go_wp2
   go_loop [0] (fun v=>∃ R:ByteArray,v=.string R/\R.size<=S0.size/\Lib.trimRightS R.data.toList blaN=Lib.trimS s blaN) (fun v=>match v with|.string S=>S.size|_=>0)
   case atStart=>exact ⟨S,rfl,HSZ.out,HX.out⟩
   case round =>
    obtain ⟨R,rfl,hsz,hrel⟩:=hrel
    have HR2:=hid hrel
    have HSZ2:=hid hsz
    clear hrel hsz
    by_cases hp2:0<R.size
    .obtain ⟨m,hm⟩:∃ m,R.size=m+1:=⟨R.size-1,by omega⟩
     have hmb:m<=140737488351232:=by have:=HSZ2.out;have:=HZ.out;omega
     have y1:(0:Int)<R.size:=by omega
     have em:(R.size:Int)-1=(m:Int):=by omega
     have hml:m<R.size:=by omega
     have HRM:=hid hm
     clear hm
     have HC2:=hid (bla_any R[m] w)
     go_wp2_with fail
     refine (HC2.out).mono ?_
     rintro e w' ⟨rfl,rfl⟩
     cases hb:inB (str blaN) R[m] with
     | true =>
       have HY:=hid ((trimR_in' HRM.out hb).trans HR2.out)
       clear hb
       go_wp2
       go_round
       case rel=>exact ⟨_,rfl,by rw [ext_init' HRM.out];have:=HSZ2.out;omega,HY.out⟩
       case measure =>
        show (R.extract 0 m).size<R.size
        rw [ext_init' HRM.out];omega
     | false =>
       have HY:=hid (HE.out R HR2.out (trimR_out' HRM.out hb).symm)
       clear hb
       go_wp2
       go_ret
       exact ⟨show Ending.returned (Value.string R)=_ by rw [HY.out],rfl⟩
    .have y1:¬(0:Int)<R.size:=by omega
     have HY:=hid (HE.out R HR2.out (trimR_emp hp2).symm)
     go_wp2
     go_ret
     exact ⟨show Ending.returned (Value.string R)=_ by rw [HY.out],rfl⟩
theorem vir_ways (c:UInt8):(c.toNat<33/\visB c=false)\/(33<=c.toNat/\126<c.toNat/\visB c=false)\/(33<=c.toNat/\c.toNat<=126/\visB c=true):=by
 have:=all_u8 (p:=fun c=>decide ((c.toNat<33/\visB c=false)\/(33<=c.toNat/\126<c.toNat/\visB c=false)\/(33<=c.toNat/\c.toNat<=126/\visB c=true))) (by decide +kernel) c
 exact of_decide_eq_true this
set_option maxHeartbeats 2000000 in
theorem rident_any (s:T) (w:World) (hs:s.length<=140737488351232):Calls Tryz.prog 60 #[.string (str s)] w fun e w'=>e=.returned (.bool (identB s))/\w=w':=by
 have hz:(str s).size=s.length:=rfl
 have HI:Hid (identB s=(decide (1<=(str s).size)&&decide ((str s).size<=64)&&allB visB (str s))):=hid rfl
 have HZ:Hid ((str s).size<=140737488351232):=hid hs
 clear hs hz
 generalize identB s=B at *
 generalize str s=S at *
 go_enter Tryz.func60,Tryz.ntmps60
 go_wp2
 go_loop [3] (fun i=>∃ j:Nat,j<=S.size/\i=.int .i64 j/\AllTo visB S j) (fun i=>S.size-(intOf i).toNat)
 case atStart=>exact ⟨0,by omega,rfl,by simp [AllTo]⟩
 case round =>
  obtain ⟨j,hj,rfl,hrel⟩:=hrel
  have HR:=hid hrel
  have hzz:=HZ.out
  clear hrel
  by_cases hlt:j<S.size
  .have HT:=hid (all_take hlt HR.out)
   have HF:=hid (fun q=>all_fail (p:=visB) hlt q)
   have hn:((S[j]).toNat:Int)<256:=by have:=(S[j]).toNat_lt;omega
   rcases vir_ways S[j] with ⟨h1,hb⟩|⟨h0,h1,hb⟩|⟨h0,h1,hb⟩
   .have HX:Hid (B=false):=hid (by rw [HI.out,show allB visB S=_ from HF.out hb,Bool.and_false])
    have a1:(((S[j]).toNat:Int)<33):=by omega
    clear hb h1
    go_wp2
    go_ret
    exact ⟨ret_bool HX.out.symm,rfl⟩
   .have HX:Hid (B=false):=hid (by rw [HI.out,show allB visB S=_ from HF.out hb,Bool.and_false])
    have a1:¬(((S[j]).toNat:Int)<33):=by omega
    have a2:(((S[j]).toNat:Int) > 126):=by omega
    clear hb h0 h1
    go_wp2
    go_ret
    exact ⟨ret_bool HX.out.symm,rfl⟩
   .have HX:=hid (HT.out.trans hb)
    have a1:¬(((S[j]).toNat:Int)<33):=by omega
    have a2:¬(((S[j]).toNat:Int) > 126):=by omega
    clear hb h0 h1
    go_wp2
    go_round
    case rel=>exact ⟨j+1,by omega,by go_num,HX.out⟩
    case measure=>simp [intOf] <;> omega
  .obtain rfl:j=S.size:=by omega
   have HX:Hid (B=(decide (1<=S.size)&&decide (S.size<=64))):=hid (by
    have:=HR.out;unfold AllTo at this;rw [List.take_of_length_le (by simp)] at this
    rw [HI.out,show allB visB S=true from this,Bool.and_true])
   by_cases h1:1<=S.size
   .have x1:((S.size:Int)>=1):=by omega
    by_cases h2:S.size<=64
    .have x2:((S.size:Int)<=64):=by omega
     have HY:Hid (B=true):=hid (by rw [HX.out,decide_eq_true h1,decide_eq_true h2];rfl)
     clear HX HR HI
     go_wp2
     go_ret
     exact ⟨ret_bool HY.out.symm,rfl⟩
    .have x2:¬((S.size:Int)<=64):=by omega
     have HY:Hid (B=false):=hid (by rw [HX.out,decide_eq_true h1,decide_eq_false h2];rfl)
     clear HX HR HI
     go_wp2
     go_ret
     exact ⟨ret_bool HY.out.symm,rfl⟩
   .have x1:¬((S.size:Int)>=1):=by omega
    have HY:Hid (B=false):=hid (by rw [HX.out,decide_eq_false h1];rfl)
    clear HX HR HI
    go_wp2
    go_ret
    exact ⟨ret_bool HY.out.symm,rfl⟩
set_option maxHeartbeats 2000000 in
theorem rText_any (s:T) (w:World) (hs:s.length<=140737488351232):Calls Tryz.prog 61 #[.string (str s)] w fun e w'=>e=.returned (.bool (textB s))/\w=w':=by
 have hz:(str s).size=s.length:=rfl
 have HSG:=hid (rSigns_any (str s) w (by rw [hz];omega))
 have HTR:=hid (rTrim_any s w hs)
 have hal:allB sgnB (str s)=s.all sgnB:=rfl
 rw [hal] at HSG
 have HT:Hid (textB s=(decide (s.length<=128)&&s.all sgnB&&edgeB s)):=hid rfl
 have HE:Hid (edgeB s=decide (Lib.trimS s blaN=s)):=hid rfl
 clear hal
 generalize textB s=B at *
 generalize edgeB s=E at *
 generalize s.all sgnB=G at *
 by_cases hl:s.length<=128
 .have x1:((s.length:Int)<=128):=by omega
  have HT2:Hid (B=(G&&E)):=hid (by rw [HT.out,decide_eq_true hl];simp)
  clear HT hl
  go_enter Tryz.func61,Tryz.ntmps61
  go_wp2_with fail
  refine (HSG.out).mono ?_
  rintro e w' ⟨rfl,rfl⟩
  cases G with
  | false =>
    have HY:Hid (B=false):=hid (by rw [HT2.out];rfl)
    clear HT2
    go_wp2
    go_ret
    exact ⟨ret_bool HY.out.symm,rfl⟩
  | true =>
    have HY:Hid (B=decide (Lib.trimS s blaN=s)):=hid (by rw [HT2.out,HE.out,Bool.true_and])
    clear HT2
    go_wp2_with fail
    refine (HTR.out).mono ?_
    rintro e w' ⟨rfl,rfl⟩
    by_cases he:Lib.trimS s blaN=s
    .have HY2:Hid (B=true):=hid (by rw [HY.out,decide_eq_true he])
     have q1:((str (Lib.trimS s blaN)).toList == (str s).toList)=true:=by rw [strv_dec,decide_eq_true he]
     have q2:(str (Lib.trimS s blaN)).toList=(str s).toList:=by rw [he]
     clear he HY
     go_wp2
     go_ret
     exact ⟨ret_bool HY2.out.symm,rfl⟩
    .have HY2:Hid (B=false):=hid (by rw [HY.out,decide_eq_false he])
     have q1:((str (Lib.trimS s blaN)).toList == (str s).toList)=false:=by rw [strv_dec,decide_eq_false he]
     clear he HY
     go_wp2
     go_ret
     exact ⟨ret_bool HY2.out.symm,rfl⟩
 .have x1:¬((s.length:Int)<=128):=by omega
  have HY:Hid (B=false):=hid (by rw [HT.out,decide_eq_false hl];rfl)
  clear HT hl
  go_enter Tryz.func61,Tryz.ntmps61
  go_wp2
  go_ret
  exact ⟨ret_bool HY.out.symm,rfl⟩
def Two (B:Nat) (w:World) (p:Nat) (c:Conf) (last:Int) (L L2:List Pub) (v:Value):Prop:=∃ F,St w p c last L F/\(∀ k,F k->B<=k)/\RL w (fun k=>B<=k/\¬F k) B L2 v
def NewL (w:World) (N:Nat->Prop) (B:Nat) (L:List Pub) (v:Value) (w':World):Prop:=RL w' (fun k=>N k\/w.heap.size<=k) B L v/\Below w.heap.size w w'
section
variable {w w':World} {B p:Nat} {c:Conf} {last now:Int} {L L2 L3:List Pub} {v v':Value}
theorem Two.sto (h:Two B w p c last L L2 v):Sto B w p c last L:=by
 obtain ⟨F,h1,h2,_⟩:=h
 exact ⟨F,h1,h2⟩
theorem Two.rl (h:Two B w p c last L L2 v):RL w (fun _=>True) B L2 v:=by
 obtain ⟨F,_,_,h3⟩:=h
 exact h3.mono (fun _ _ _=>trivial)
theorem Two.q (h:Two B w p c last L L2 v):∃ l,StQ c last L l:=by
 obtain ⟨F,⟨xs,l,_,_,_,_,_,_,_,_,Q⟩,_⟩:=h
 exact ⟨l,Q⟩
theorem Two.below (h:Two B w p c last L L2 v) (hb:Below w.heap.size w w') (hB:B<=w.heap.size):Two B w' p c last L L2 v:=by
 obtain ⟨F,h1,h2,h3⟩:=h
 exact ⟨F,h1.below hb,h2,h3.below hb hB⟩
theorem Two.begin_ {F:Nat->Prop} (h:St w p c last L F) (hF:∀ k,F k->B<=k):Two B w p c last L [] (.slice none 0 0):=⟨F,h,hF,RL.nil _ _ _⟩
theorem Two.new (h:Two B w p c last L L2 v) (hB:B<=w.heap.size) (hn:∀ N,RL w N B L2 v->NewL w N B L3 v' w'):Two B w' p c last L L3 v':=by
 obtain ⟨F,h1,h2,h3⟩:=h
 obtain ⟨h4,h5⟩:=hn _ h3
 refine ⟨F,h1.below h5,h2,h4.mono fun k hk q=>?_⟩
 rcases q with q|q
 .exact q
 .exact ⟨Nat.le_trans hB q,fun hF=>by have:=h1.lt hF;omega⟩
theorem Two.set (h:Two B w p c last L L2 v) {td:Nat} {T:TypeId} {cs:Array Value} (ht:Blk w td T cs) (hok:okT T=true) (h6:T≠115) (h7:T≠9) (hf:Fr (fun k=>k=td) w w') (hB:B<=td):Two B w' p c last L L2 v:=by
 obtain ⟨F,h1,h2,h3⟩:=h
 unfold okT at hok
 simp only [Bool.and_eq_true,decide_eq_true_eq] at hok
 refine ⟨F,h1.fr_blk hf ht hok.1.1.1.1 hok.1.1.1.2 hok.1.1.2 hok.1.2 hok.2 h6 h7,h2,?_⟩
 obtain ⟨xs,A,cp,e1,e2,e3,e4,e5,e6,e7⟩:=h3
 refine ⟨xs,A,cp,e1,e2,e3,e4,e5.fr hf (fun gb ds fr hb e=>?_),e6,fun x hx=>(e7 x hx).below (hf.to_below (by have:=ht.lt;omega) (fun k e=>by omega))⟩
 subst e
 unfold Blk at ht
 rw [ht] at hb
 injection hb with hb
 injection hb with _ hb _
 exact hok.2 hb
theorem does_two {a:AskP} {At An:Option Addr} {ct cn:Nat} (H:Two B w p c last L L2 v) (hB:B<=w.heap.size) (hd:DocB w B a.doc (.slice At a.doc.tups.length ct) (.slice An a.doc.notes.length cn)) (hs:AskS a) (he:a.has=true->a.doc.ent.length<=99999990) (hla:last<=1000000) :
 Calls Tryz.prog 14 #[.pointer (some ⟨p,0,none⟩),.int .i64 now,.agg #[.string (str a.who),.string (str a.mtch),.int .i64 a.exp,.bool a.has,.string (str a.doc.ent),.slice At a.doc.tups.length ct,.slice An a.doc.notes.length cn,.string (str a.tag)]] w fun e w'=>e=.returned (.tuple #[toldV (doR c last L now a).told,.int .i64 (doR c last L now a).err])/\Two B w' p c (doR c last L now a).last (doR c last L now a).L L2 v/\Below B w w'/\Stay w w':=by
 obtain ⟨F,hst,hF,hr⟩:=H
 refine (does_any hst hB hd hs he hla hF).mono ?_
 rintro e w' ⟨rfl,F',hst',hf,hx⟩
 refine ⟨rfl,⟨F',hst',fun k hk=>(hx k hk).elim (fun q=>hF k q) (fun q=>Nat.le_trans hB q),?_⟩,hf.to_below hB hF,stay_of hst hf⟩
 have h1:RL w (fun k=>(B<=k/\¬F k)/\k<w.heap.size) B L2 v:=hr.mono fun k hk q=>⟨q,hk⟩
 refine (h1.fr hf (fun k q=>q.1.2) (hf.to_below hB hF)).mono fun k _ q=>⟨q.1.1,fun hF'=>?_⟩
 rcases hx k hF' with q'|q'
 .exact q.1.2 q'
 .have:=q.2;omega
end
def PubsR (w:World) (L:List Pub) (v:Value):Prop:=∃ (xs:List RP) (A:Option Addr) (cp:Nat),xs.map (·.p)=L/\v=.slice A xs.length cp/\Rd w 66 7 xs.length A (rows rpC xs)/\∀ x∈xs,DocB w w.heap.size x.p.doc x.vt x.vn
theorem PubsR.below {w w':World} {L:List Pub} {v:Value} (h:PubsR w L v) (hb:Below w.heap.size w w'):PubsR w' L v:=by
 obtain ⟨xs,A,cp,h1,h2,h3,h4⟩:=h
 exact ⟨xs,A,cp,h1,h2,h3.below hb,fun x hx=>(h4 x hx).on hb⟩
theorem PubsR.of_live {w w':World} {L:List Pub} {who:T} {e:Ending} (h:LivePost L who w e w'):∃ v,e=.returned v/\PubsR w' (L.filter fun p=>decide (p.who=who)) v/\Below w.heap.size w w':=by
 obtain ⟨ys,A,cp,rfl,h1,h2,h3,h4⟩:=h
 obtain ⟨A',c',e,h5,h6,h7⟩:=RdV.of_own h2
 injection e with e1 _ e2
 subst e1
 exact ⟨_,rfl,⟨ys,A,cp,h1,rfl,h7,fun y hy=>DocB.of_m (h3 y hy)⟩,h4⟩
end Go.Proofs.YthfmekdbcoaolaaGreatDoor
