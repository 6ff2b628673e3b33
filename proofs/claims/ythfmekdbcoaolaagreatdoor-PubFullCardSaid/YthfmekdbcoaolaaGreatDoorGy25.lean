/- Chapter 16: how the store's memory goes on where the wheel turns too; the ends of drop, be Chapter 16: what is asked, in memory: documents that lie below a block, sizes, lists of ac -/
import Derived.Test.YthfmekdbcoaolaaGreatDoorGy03
namespace Go.Proofs.YthfmekdbcoaolaaGreatDoor
set_option linter.unusedSimpArgs false
set_option linter.unusedVariables false
open Go.RowKit
theorem nodup_inj {α β:Type} {f:α->β}:∀ {l:List α},(l.map f).Nodup->∀ {a b:α},a∈l->b∈l->f a=f b->a=b
 | [],_,_,_,h,_,_=>by cases h
 | x::r,hn,a,b,ha,hb,e=>by
   rw [List.map_cons,List.nodup_cons] at hn
   rcases List.mem_cons.1 ha with e1|ha'
   .rcases List.mem_cons.1 hb with e2|hb'
    .rw [e1,e2]
    .exact absurd (List.mem_map.2 ⟨b,hb',by rw [<-e,e1]⟩) hn.1
   .rcases List.mem_cons.1 hb with e2|hb'
    .exact absurd (List.mem_map.2 ⟨a,ha',by rw [e,e2]⟩) hn.1
    .exact nodup_inj hn.2 ha' hb' e
section
variable {w w' w1 w2 w3:World} {p bl bt pw:Nat} {c:Conf} {last:Int} {xs:List XP} {L:List Pub} {l l':List TM} {F FW FW' G:Nat->Prop} {kl:List (Int × Value)} {kt:List (ByteArray × Value)}
theorem StI.turnw (H:StI w p c last xs l F bl bt pw kl kt FW) {last':Int} {xs':List XP} {kl':List (Int × Value)} {kt':List (ByteArray × Value)} {b0:Nat} (hb0:b0∈xs.map (·.b)\/w.heap.size<=b0)
 (hf:Fr (fun k=>k=p\/k=bl\/k=bt\/k=b0\/FW k) w w') (ht:Blk w' p 55 #[.string (str c.host),.int .i64 c.calls,.int .i64 c.pubs,.int .i64 c.subs,.int .i64 c.least,.int .i64 c.most,.int .i64 c.usual,.int .i64 last',.map (some bl),.map (some bt),.pointer (some ⟨pw,0,none⟩)])
 (hl:MapIs w' bl intKey kl') (hb:Born w' bl) (htm:MapIs w' bt strKey kt') (hw:Wh w' pw l' FW') (hx:Ext FW FW' w)
 (hits:∀ x∈xs',(x∈xs/\x.b≠b0)\/(x.b=b0/\Blk w' x.b 66 (pubA x)/\DocM w' x.p.doc x.vt x.vn)) (hnd:(xs'.map (·.b)).Nodup)
 (hpl:kl'.Perm (xs'.map fun x=>(x.p.number,ptr x.b))) (hpt:kt'.Perm (xs'.map fun x=>(str x.p.tag,.int .i64 x.p.number))) :
 StI w' p c last' xs' l' (PF p bl bt xs' FW') bl bt pw kl' kt' FW'/\Fr F w w'/\Ext F (PF p bl bt xs' FW') w:=by
 have hb0F:b0<w.heap.size->F b0:=fun hlt=>by
  rcases hb0 with q|q
  .exact (H.ff b0).2 (.inr (.inr (.inr (.inl q))))
  .omega
 have hsub:∀ k,k<w.heap.size->(k=p\/k=bl\/k=bt\/k=b0\/FW k)->F k:=fun k hk q=>by
  rcases q with rfl|rfl|rfl|rfl|q
  .exact (H.ff _).2 (.inl rfl)
  .exact (H.ff _).2 (.inr (.inl rfl))
  .exact (H.ff _).2 (.inr (.inr (.inl rfl)))
  .exact hb0F hk
  .exact (H.ff _).2 (.inr (.inr (.inr (.inr q))))
 have hkp:Keeps (fun k=>k=p\/k=bl\/k=bt\/k=b0\/FW k) w:=fun b ds T fr hb hT q=>by
  have hlt:b<w.heap.size:=(Array.getElem?_eq_some_iff.1 hb).1
  exact H.keeps b ds T fr hb hT (hsub b hlt q)
 refine ⟨⟨ht,hl,hb,htm,hw,fun x hx'=>?_,fun x hx'=>?_,hnd,hpl,hpt,H.dn,fun h=>?_,fun h=>?_,fun k=>Iff.rfl⟩,hf.mono hsub,fun k hk=>?_⟩
 .rcases hits x hx' with ⟨q,hne⟩|⟨_,q,_⟩
  .obtain ⟨a1,a2,a3,_⟩:=H.ne_x q
   exact (H.its x q).fr hf (by
    rintro (e|e|e|e|e)
    .exact a1 e
    .exact a2 e
    .exact a3 e
    .exact hne e
    .exact H.fwx q e)
  .exact q
 .rcases hits x hx' with ⟨q,hne⟩|⟨_,_,q⟩
  .exact (H.doc x q).fr hf hkp
  .exact q
 .rcases hx _ h with q|q
  .exact H.fl q
  .have:=H.lm.lt;omega
 .rcases hx _ h with q|q
  .exact H.ft q
  .have:=H.tm.lt;omega
 .rcases hk with q|q|q|q|q
  .exact .inl ((H.ff k).2 (.inl q))
  .exact .inl ((H.ff k).2 (.inr (.inl q)))
  .exact .inl ((H.ff k).2 (.inr (.inr (.inl q))))
  .obtain ⟨x,hx',rfl⟩:=List.mem_map.1 q
   rcases hits x hx' with ⟨q,_⟩|⟨e,_,_⟩
   .exact .inl ((H.ff _).2 (.inr (.inr (.inr (.inl (List.mem_map.2 ⟨x,q,rfl⟩))))))
   .rw [e]
    rcases hb0 with r|r
    .exact .inl ((H.ff _).2 (.inr (.inr (.inr (.inl r)))))
    .exact .inr r
  .rcases hx k q with r|r
   .exact .inl ((H.ff k).2 (.inr (.inr (.inr (.inr r)))))
   .exact .inr r
theorem filter_b:∀ {xs:List XP} {x:XP},(xs.map (·.b)).Nodup->x∈xs->xs.Perm (x::xs.filter fun y=>decide (y.b≠x.b))
 | [],x,_,h=>by cases h
 | a::r,x,hn,h=>by
   rw [List.map_cons,List.nodup_cons] at hn
   rcases List.mem_cons.1 h with e|e
   .subst e
    have:(x::r).filter (fun y=>decide (y.b≠x.b))=r:=by
     rw [List.filter_cons_of_neg (by simp),List.filter_eq_self]
     intro y hy
     exact decide_eq_true fun q=>hn.1 (q▸List.mem_map.2 ⟨y,hy,rfl⟩)
    rw [this]
   .have hne:a.b≠x.b:=fun q=>hn.1 (q▸List.mem_map.2 ⟨x,e,rfl⟩)
    rw [List.filter_cons_of_pos (by simp [hne])]
    exact ((filter_b hn.2 e).cons a).trans (List.Perm.swap _ _ _)
def StDropPost (w:World) (p:Nat) (c:Conf) (last:Int) (xs:List XP) (x:XP) (l:List TM) (F:Nat->Prop) (bl bt pw:Nat) (kl:List (Int × Value)) (kt:List (ByteArray × Value)) (e:Ending) (w':World):Prop :=
 e=.returned (.tuple #[])/\∃ F' FW',StI w' p c last (xs.filter fun y=>decide (y.b≠x.b)) (rStop l x.p.number) F' bl bt pw (mdel x.p.number kl) (mdel (str x.p.tag) kt) FW'/\Fr F w w'/\∀ k,F' k->F k
theorem stdrop_end (H:StI w p c last xs l F bl bt pw kl kt FW) {x:XP} (hx:x∈xs) (hgl:mget x.p.number kl=some (ptr x.b)) (hgt:mget (str x.p.tag) kt=some (.int .i64 x.p.number))
 (h1:MapIs w1 bt strKey (mdel (str x.p.tag) kt)) (f1:Fr (fun k=>k=bt) w w1) (h2:MapIs w2 bl intKey (mdel x.p.number kl)) (hb2:Born w2 bl) (f2:Fr (fun k=>k=bl) w1 w2)
 (hw:Wh w3 pw (rStop l x.p.number) FW') (f3:Fr FW w2 w3) (hs:∀ k,FW' k->FW k):StDropPost w p c last xs x l F bl bt pw kl kt (.returned (.tuple #[])) w3:=by
 have hb1:bl<w1.heap.size:=Nat.lt_of_lt_of_le H.lm.lt f1.size
 have ff:Fr (fun k=>k=p\/k=bl\/k=bt\/k=x.b\/FW k) w w3:=(((f1.mono fun k _ e=>.inr (.inr (.inl e))).trans (G:=fun k=>k=bl) f2 (fun k _ e=>.inr (.inl e))).trans (G:=FW) f3 (fun k _ e=>.inr (.inr (.inr (.inr e)))))
 have g1:Fr (fun k=>k=bl\/k=bt\/FW k) w w3:=(((f1.mono fun k _ e=>.inr (.inl e)).trans (G:=fun k=>k=bl) f2 (fun k _ e=>.inl e)).trans (G:=FW) f3 (fun k _ e=>.inr (.inr e)))
 have hsub:∀ y∈xs.filter (fun y=>decide (y.b≠x.b)),y∈xs/\y.b≠x.b:=fun y hy=>⟨(List.mem_filter.1 hy).1,of_decide_eq_true (List.mem_filter.1 hy).2⟩
 have hpm:=filter_b H.nd hx
 obtain ⟨HI,hF,hE⟩:=H.turnw (last':=last) (xs':=xs.filter fun y=>decide (y.b≠x.b)) (kl':=mdel x.p.number kl) (kt':=mdel (str x.p.tag) kt) (b0:=x.b) (.inl (List.mem_map.2 ⟨x,hx,rfl⟩)) ff
  (H.top.fr g1 (by
    rintro (e|e|e)
    .exact H.ne_pl e
    .exact H.ne_pt e
    .exact H.fwp e))
  (h2.fr f3 H.fl) (hb2.fr f3 H.fl) ((h1.fr f2 (fun e=>H.dn e.symm)).fr f3 H.ft) hw (fun k hk=>.inl (hs k hk)) (fun y hy=>.inl (hsub y hy)) (H.nd.sublist (List.filter_sublist.map _))
  (List.Perm.cons_inv ((mdel_perm hgl).trans (H.pl.trans (hpm.map fun x=>(x.p.number,ptr x.b)))))
  (List.Perm.cons_inv ((mdel_perm hgt).trans (H.pt.trans (hpm.map fun x=>(str x.p.tag,Value.int .i64 x.p.number)))))
 refine ⟨rfl,_,FW',HI,hF,fun k hk=>?_⟩
 rcases hk with q|q|q|q|q
 .exact (H.ff k).2 (.inl q)
 .exact (H.ff k).2 (.inr (.inl q))
 .exact (H.ff k).2 (.inr (.inr (.inl q)))
 .obtain ⟨y,hy,rfl⟩:=List.mem_map.1 q
  exact (H.ff _).2 (.inr (.inr (.inr (.inl (List.mem_map.2 ⟨y,(hsub y hy).1,rfl⟩)))))
 .exact (H.ff k).2 (.inr (.inr (.inr (.inr (hs k q)))))
def pubL (n:Int) (who tag:T) (u:Int) (ent:T) (vt vn:Value):Array Value:=#[.int .i64 n,.string (str who),.string (str tag),.int .i64 u,.string (str ent),vt,vn]
def ArmPost (b bt pw:Nat) (num:Int) (who ent:T) (vt vn:Value) (tag:T) (u:Int) (kt:List (ByteArray × Value)) (l:List TM) (FW:Nat->Prop) (w:World) (e:Ending) (w':World):Prop :=
 e=.returned (.tuple #[])/\∃ FW',Blk w' b 66 (pubL num who tag u ent vt vn)/\MapIs w' bt strKey (mput (str tag) (.int .i64 num) kt)/\Wh w' pw (rSetL l num u) FW'/\Fr (fun k=>k=b\/k=bt\/FW k) w w'/\Ext FW FW' w
theorem stbegin_end (H:StI w p c last xs l F bl bt pw kl kt FW) (Q:StQ c last (xs.map (·.p)) l) {q:Pub} {b:Nat} {vt vn:Value} (hn:q.number=last+1) (ht:q.tag∉(xs.map (·.p)).map (·.tag)) (htk:tokB q.tag=true) (hlen:((xs.map (·.p)).length:Int)<c.pubs) (h1:0<=q.until_) (h2:q.until_<=1099511627776) (hdoc:docE q.doc=0) (hb:w.heap.size<=b)
 (hf:Fr (fun k=>k=p\/k=bl\/k=bt\/k=b\/FW k) w w') (htop:Blk w' p 55 #[.string (str c.host),.int .i64 c.calls,.int .i64 c.pubs,.int .i64 c.subs,.int .i64 c.least,.int .i64 c.most,.int .i64 c.usual,.int .i64 (last+1),.map (some bl),.map (some bt),.pointer (some ⟨pw,0,none⟩)])
 (hl:MapIs w' bl intKey (mput (last+1) (ptr b) kl)) (hbo:Born w' bl) (htm:MapIs w' bt strKey (mput (str q.tag) (.int .i64 (last+1)) kt)) (hw:Wh w' pw (rSetL l (last+1) q.until_) FW') (hx:Ext FW FW' w)
 (hblk:Blk w' b 66 (pubL q.number q.who q.tag q.until_ q.doc.ent vt vn)) (hm:DocM w' q.doc vt vn):∃ F',St w' p c (last+1) (xs.map (·.p)++[q]) F'/\Fr F w w'/\Ext F F' w:=by
 obtain ⟨_,Q'⟩:=Q.append hn ht htk hlen h1 h2 hdoc
 have hnl:last+1∉(xs.map (·.p)).map (·.number):=fun h=>by
  obtain ⟨d,hd,e⟩:=List.mem_map.1 h
  have:=Q.low d hd
  omega
 have e1:mput (last+1) (ptr b) kl=kl++[(last+1,ptr b)]:=mput_new _ (mget_none' (H.nol hnl))
 have e2:mput (str q.tag) (.int .i64 (last+1)) kt=kt++[(str q.tag,.int .i64 (last+1))]:=mput_new _ (mget_none' (H.not_ ht))
 obtain ⟨HI,hF,hE⟩:=H.turnw (last':=last+1) (xs':=xs++[⟨b,q,vt,vn⟩]) (kl':=_) (kt':=_) (b0:=b) (.inr hb) hf htop hl hbo htm hw hx
  (fun y hy=>by
    rcases List.mem_append.1 hy with r|r
    .exact .inl ⟨r,fun e=>by have:=(H.ne_x r).2.2.2;omega⟩
    .simp at r
     subst r
     exact .inr ⟨rfl,hblk,hm⟩)
  (by
    rw [List.map_append,List.nodup_append]
    refine ⟨H.nd,by simp,fun a ha b' hb' e=>?_⟩
    obtain ⟨y,hy,rfl⟩:=List.mem_map.1 ha
    simp at hb'
    have:=(H.ne_x hy).2.2.2
    omega)
  (by rw [e1,List.map_append];refine (H.pl.append_right _).trans (List.Perm.of_eq ?_);simp [hn])
  (by rw [e2,List.map_append];refine (H.pt.append_right _).trans (List.Perm.of_eq ?_);simp [hn])
 exact ⟨_,⟨_,_,_,_,_,_,_,_,by simp,HI,Q'⟩,hF,hE⟩
def setX (xs:List XP) (z:XP):List XP:=xs.map fun y=>if y.b=z.b then z else y
theorem setX_mem {xs:List XP} {z y:XP} (h:y∈setX xs z):y=z\/y∈xs/\y.b≠z.b:=by
 obtain ⟨r,hr,rfl⟩:=List.mem_map.1 h
 by_cases hn:r.b=z.b
 .rw [if_pos hn];exact .inl rfl
 .rw [if_neg hn];exact .inr ⟨hr,hn⟩
theorem setX_b (xs:List XP) (z:XP):(setX xs z).map (·.b)=xs.map (·.b):=by
 unfold setX
 rw [List.map_map]
 apply List.map_congr_left
 intro y hy
 show (if y.b=z.b then z else y).b=y.b
 split
 .next h=>exact h.symm
 .rfl
theorem setX_perm:∀ {xs:List XP} {x z:XP},(xs.map (·.b)).Nodup->x∈xs->z.b=x.b->(setX xs z).Perm (z::xs.filter fun y=>decide (y.b≠x.b))
 | [],_,_,_,h,_=>by cases h
 | a::r,x,z,hn,h,hz=>by
   rw [List.map_cons,List.nodup_cons] at hn
   have e:setX (a::r) z=(if a.b=z.b then z else a)::setX r z:=rfl
   rcases List.mem_cons.1 h with rfl|h
   .have hr:setX r z=r:=by
     have h9:setX r z=r.map id:=List.map_congr_left (fun s hs=>if_neg fun k=>hn.1 (List.mem_map.2 ⟨s,hs,Eq.trans k hz⟩))
     rw [h9,List.map_id]
    have hd:(x::r).filter (fun y=>decide (y.b≠x.b))=r:=by
     rw [List.filter_cons_of_neg (by simp),List.filter_eq_self]
     intro s hs
     exact decide_eq_true fun k=>hn.1 (List.mem_map.2 ⟨s,hs,k⟩)
    rw [e,if_pos hz.symm,hr,hd]
   .have hne:a.b≠x.b:=fun k=>hn.1 (List.mem_map.2 ⟨x,h,k.symm⟩)
    rw [e,if_neg (by rw [hz];exact hne),List.filter_cons_of_pos (by simp [hne])]
    exact ((setX_perm hn.2 h hz).cons a).trans (List.Perm.swap _ _ _)
theorem setX_p {xs:List XP} {x z:XP} (hn:(xs.map (·.b)).Nodup) (hm:((xs.map (·.p)).map (·.number)).Nodup) (hx:x∈xs) (hz:z.b=x.b) (hq:z.p.number=x.p.number):(setX xs z).map (·.p)=setP (xs.map (·.p)) z.p:=by
 unfold setX setP
 rw [List.map_map,List.map_map]
 apply List.map_congr_left
 intro y hy
 show (if y.b=z.b then z else y).p=if y.p.number=z.p.number then z.p else y.p
 have hi:y.b=z.b<->y.p.number=z.p.number:=by
  rw [hz,hq]
  constructor
  .intro e
   have:y=x:=nodup_inj hn hy hx e
   rw [this]
  .intro e
   rw [List.map_map] at hm
   have:y=x:=nodup_inj hm hy hx e
   rw [this]
 by_cases h:y.b=z.b
 .rw [if_pos h,if_pos (hi.1 h)]
 .rw [if_neg h,if_neg (fun k=>h (hi.2 k))]
theorem stput_end (H:StI w p c last xs l F bl bt pw kl kt FW) (Q:StQ c last (xs.map (·.p)) l) {x:XP} (hx:x∈xs) {q:Pub} {vt vn:Value} (hn:q.number=x.p.number) (ht:q.tag∉(xs.map (·.p)).map (·.tag)) (htk:tokB q.tag=true) (h1:0<=q.until_) (h2:q.until_<=1099511627776) (hdoc:docE q.doc=0)
 (hf:Fr (fun k=>k=p\/k=bl\/k=bt\/k=x.b\/FW k) w w') (htop:Blk w' p 55 #[.string (str c.host),.int .i64 c.calls,.int .i64 c.pubs,.int .i64 c.subs,.int .i64 c.least,.int .i64 c.most,.int .i64 c.usual,.int .i64 last,.map (some bl),.map (some bt),.pointer (some ⟨pw,0,none⟩)])
 (hl:MapIs w' bl intKey kl) (hbo:Born w' bl) (htm:MapIs w' bt strKey (mput (str q.tag) (.int .i64 x.p.number) (mdel (str x.p.tag) kt))) (hw:Wh w' pw (rSetL l x.p.number q.until_) FW') (hxx:Ext FW FW' w)
 (hblk:Blk w' x.b 66 (pubL q.number q.who q.tag q.until_ q.doc.ent vt vn)) (hm:DocM w' q.doc vt vn):∃ F',St w' p c last (setP (xs.map (·.p)) q) F'/\Fr F w w'/\Ext F F' w:=by
 have hpx:x.p∈xs.map (·.p):=List.mem_map.2 ⟨x,hx,rfl⟩
 obtain ⟨_,Q'⟩:=Q.put hpx hn ht htk h1 h2 hdoc
 have hgt:=H.gett Q.tags hx
 have hpm:=filter_b H.nd hx
 have hsp:=setX_perm (z:=⟨x.b,q,vt,vn⟩) H.nd hx rfl
 have hpt1:=List.Perm.cons_inv ((mdel_perm hgt).trans (H.pt.trans (hpm.map fun x=>(str x.p.tag,Value.int .i64 x.p.number))))
 have hni:str q.tag∉(mdel (str x.p.tag) kt).map (·.1):=fun h=>by
  have h:=(hpt1.map (·.1)).mem_iff.1 h
  rw [List.map_map] at h
  obtain ⟨y,hy,e⟩:=List.mem_map.1 h
  exact ht (List.mem_map.2 ⟨y.p,List.mem_map.2 ⟨y,(List.mem_filter.1 hy).1,rfl⟩,str_inj e⟩)
 have e2:mput (str q.tag) (.int .i64 x.p.number) (mdel (str x.p.tag) kt)=mdel (str x.p.tag) kt++[(str q.tag,.int .i64 x.p.number)]:=mput_new _ hni
 have hep:=setX_p (z:=⟨x.b,q,vt,vn⟩) H.nd (pubs_idnd Q.ids) hx rfl hn
 obtain ⟨HI,hF,hE⟩:=H.turnw (last':=last) (xs':=setX xs ⟨x.b,q,vt,vn⟩) (kl':=kl) (kt':=_) (b0:=x.b) (.inl (List.mem_map.2 ⟨x,hx,rfl⟩)) hf htop hl hbo htm hw hxx
  (fun y hy=>by
    rcases setX_mem hy with rfl|r
    .exact .inr ⟨rfl,hblk,hm⟩
    .exact .inl r)
  (by rw [setX_b];exact H.nd)
  (by
    refine (H.pl.trans (hpm.map fun x=>(x.p.number,ptr x.b))).trans ?_
    refine List.Perm.trans ?_ (hsp.map fun x=>(x.p.number,ptr x.b)).symm
    rw [List.map_cons,List.map_cons,hn])
  (by
    rw [e2]
    refine List.Perm.trans ?_ (hsp.map fun x=>(str x.p.tag,Value.int .i64 x.p.number)).symm
    rw [List.map_cons]
    refine (List.perm_append_comm (l₂:=[(str q.tag,Value.int .i64 x.p.number)])).trans ?_
    rw [hn]
    exact hpt1.cons _)
 rw [<-hep]
 exact ⟨_,⟨_,_,_,_,_,_,_,_,rfl,HI,hep▸Q'⟩,hF,hE⟩
theorem dropX_p {xs:List XP} {x:XP} (hn:(xs.map (·.b)).Nodup) (hm:((xs.map (·.p)).map (·.number)).Nodup) (hx:x∈xs):(xs.filter fun y=>decide (y.b≠x.b)).map (·.p)=dropP (xs.map (·.p)) x.p.number:=by
 unfold dropP
 rw [List.filter_map]
 congr 1
 apply List.filter_congr
 intro y hy
 have hi:y.b=x.b<->y.p.number=x.p.number:=by
  constructor
  .intro e
   have:y=x:=nodup_inj hn hy hx e
   rw [this]
  .intro e
   rw [List.map_map] at hm
   have:y=x:=nodup_inj hm hy hx e
   rw [this]
 simp [hi]
end
def SlB (w:World) (B sz n:Nat) (v:Value) (xs:List Value):Prop:=∃ A c,v=.slice A n c/\n<=c/\c<=maxLen/\RdB w B sz n A xs
structure DocB (w:World) (B:Nat) (d:DocP) (vt vn:Value):Prop where
 t:SlB w B 5 d.tups.length vt (rows tupC d.tups)
 n:SlB w B 1 d.notes.length vn (rows noteC d.notes)
structure TupS (t:Tup):Prop where
 id:t.id.length<=140737488351232
 contact:t.contact.length<=140737488351232
 note:t.note.length<=140737488351232
 lo:-9223372036854775808<=t.prio
 hi:t.prio<=9223372036854775807
structure DocS (d:DocP):Prop where
 ent:d.ent.length<=140737488351232
 tups:∀ t∈d.tups,TupS t
 notes:∀ s∈d.notes,s.length<=140737488351232
 lt:d.tups.length<=140737488351232
 ln:d.notes.length<=140737488351232
structure AskS (a:AskP):Prop where
 who:a.who.length<=140737488351232
 mtch:a.mtch.length<=140737488351232
 tag:a.tag.length<=140737488351233
 lo:-9223372036854775808<=a.exp
 hi:a.exp<=9223372036854775807
 doc:DocS a.doc
def askC (a:AskP) (vt vn:Value):List Value:=[.string (str a.who),.string (str a.mtch),.int .i64 a.exp,.bool a.has,.string (str a.doc.ent),vt,vn,.string (str a.tag)]
structure ActX where
 ex:Bool
 now:Int
 ask:AskP
 vt:Value
 vn:Value
def actC (x:ActX):List Value:=.bool x.ex::.int .i64 x.now::askC x.ask x.vt x.vn
theorem actC_len (x:ActX):(actC x).length=10:=rfl
structure ActR (w:World) (B:Nat) (x:ActX):Prop where
 doc:DocB w B x.ask.doc x.vt x.vn
 s:AskS x.ask
 lo:-9223372036854775808<=x.now
 hi:x.now<=9223372036854775807
def ActsB (w:World) (B:Nat) (v:Value):Prop:=∃ (l:List ActX) (A:Option Addr) (c:Nat),v=.slice A l.length c/\l.length<=c/\c<=maxLen/\l.length<=140737488351232/\RdB w B 10 l.length A (rows actC l)/\∀ x∈l,ActR w B x
structure ConfS (c:Conf):Prop where
 host:c.host.length<=140737488351232
section
variable {w w':World} {B B' sz n:Nat} {v vt vn:Value} {xs:List Value} {d:DocP}
theorem SlB.below (h:SlB w B sz n v xs) (hb:Below B w w'):SlB w' B sz n v xs:=by
 obtain ⟨A,c,e,h1,h2,h3⟩:=h
 exact ⟨A,c,e,h1,h2,h3.below hb⟩
theorem SlB.up (h:SlB w B sz n v xs) (hB:B<=B'):SlB w B' sz n v xs:=by
 obtain ⟨A,c,e,h1,h2,h3⟩:=h
 refine ⟨A,c,e,h1,h2,h3.1,fun hn=>?_⟩
 obtain ⟨gb,off,e,hlt,hc⟩:=h3.2 hn
 exact ⟨gb,off,e,by omega,hc⟩
theorem SlB.of_rdv {T:TypeId} (h:RdV w T sz n v xs):SlB w w.heap.size sz n v xs:=by
 obtain ⟨A,c,e,h1,h2,h3⟩:=h
 exact ⟨A,c,e,h1,h2,h3.1,fun hn=>h3.at_ hn⟩
theorem SlB.nil (w:World) (B sz:Nat):SlB w B sz 0 (.slice none 0 0) []:=⟨none,0,rfl,Nat.le_refl _,by unfold maxLen;omega,by simp,fun h=>absurd h (by omega)⟩
theorem DocB.below (h:DocB w B d vt vn) (hb:Below B w w'):DocB w' B d vt vn:=⟨h.t.below hb,h.n.below hb⟩
theorem DocB.up (h:DocB w B d vt vn) (hB:B<=B'):DocB w B' d vt vn:=⟨h.t.up hB,h.n.up hB⟩
theorem DocB.on (h:DocB w w.heap.size d vt vn) (hb:Below w.heap.size w w'):DocB w' w'.heap.size d vt vn:=(h.below hb).up hb.size
theorem DocB.of_m (h:DocM w d vt vn):DocB w w.heap.size d vt vn:=⟨SlB.of_rdv h.t,SlB.of_rdv h.n⟩
theorem ActR.below {x:ActX} (h:ActR w B x) (hb:Below B w w'):ActR w' B x:=⟨h.doc.below hb,h.s,h.lo,h.hi⟩
end
structure RP where
 p:Pub
 vt:Value
 vn:Value
def rpC (x:RP):List Value:=[.int .i64 x.p.number,.string (str x.p.who),.string (str x.p.tag),.int .i64 x.p.until_,.string (str x.p.doc.ent),x.vt,x.vn]
theorem rpC_len (x:RP):(rpC x).length=7:=rfl
def RL (w:World) (N:Nat->Prop) (B:Nat) (L:List Pub) (v:Value):Prop :=
 ∃ (xs:List RP) (A:Option Addr) (c:Nat),xs.map (·.p)=L/\v=.slice A xs.length c/\xs.length<=c/\c<=maxLen/\Rd w 66 7 xs.length A (rows rpC xs)/\(0<xs.length->∀ a,A=some a->N a.block)/\∀ x∈xs,DocB w B x.p.doc x.vt x.vn
theorem RL.nil (w:World) (N:Nat->Prop) (B:Nat):RL w N B [] (.slice none 0 0):=⟨[],none,0,rfl,rfl,Nat.le_refl _,by unfold maxLen;omega,Rd.nil _ _ _ _,fun h=>absurd h (by simp),by simp⟩
theorem RL.mono {w:World} {N N':Nat->Prop} {B:Nat} {L:List Pub} {v:Value} (h:RL w N B L v) (hN:∀ k,k<w.heap.size->N k->N' k):RL w N' B L v:=by
 obtain ⟨xs,A,c,h1,h2,h3,h4,h5,h6,h7⟩:=h
 refine ⟨xs,A,c,h1,h2,h3,h4,h5,fun hn a ha=>hN _ ?_ (h6 hn a ha),h7⟩
 obtain ⟨gb,off,e,hlt,_⟩:=h5.at_ hn
 rw [ha] at e
 injection e with e
 rw [e]
 exact hlt
theorem RL.fr {w w':World} {N F:Nat->Prop} {B:Nat} {L:List Pub} {v:Value} (h:RL w N B L v) (hf:Fr F w w') (hN:∀ k,N k->¬F k) (hB:Below B w w'):RL w' N B L v:=by
 obtain ⟨xs,A,c,h1,h2,h3,h4,h5,h6,h7⟩:=h
 refine ⟨xs,A,c,h1,h2,h3,h4,⟨h5.1,fun hn=>?_⟩,h6,fun x hx=>(h7 x hx).below hB⟩
 obtain ⟨gb,off,cs,fr,e,hb,hc⟩:=h5.2 hn
 have hlt:gb<w.heap.size:=(Array.getElem?_eq_some_iff.1 hb).1
 exact ⟨gb,off,cs,fr,e,(hf.block gb hlt (hN _ (h6 hn _ e))).trans hb,hc⟩
theorem RL.below {w w':World} {N:Nat->Prop} {B:Nat} {L:List Pub} {v:Value} (h:RL w N B L v) (hb:Below w.heap.size w w') (hB:B<=w.heap.size):RL w' N B L v :=
 h.fr (Fr.of_below (F:=fun _=>False) hb) (fun _ _ h=>h) (hb.mono hB)
end Go.Proofs.YthfmekdbcoaolaaGreatDoor
