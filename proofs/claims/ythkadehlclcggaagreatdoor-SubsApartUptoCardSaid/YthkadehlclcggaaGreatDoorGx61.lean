/- Chapter 19: a row of ints of the call's own is sorted; numbers. Chapter 19: Expire. Chapter 19: All. -/
import Derived.Test.YthkadehlclcggaaGreatDoorGx50
import Derived.Test.YthkadehlclcggaaGreatDoorGx60
import Derived.Test.YthkadehlclcggaaGreatDoorGx12
import Derived.Sort.OwnSortedInts
import Derived.Test.YthkadehlclcggaaGreatDoorGx58
import Derived.Test.YthkadehlclcggaaGreatDoorGx54
import Derived.Great.Walk
namespace Go.Proofs.YthkadehlclcggaaGreatDoor
set_option linter.unusedSimpArgs false
set_option linter.unusedVariables false
open Go.RowKit Go.Sort
open Go.Lib (hid)
def SortIP (w:World) (base:Nat) (v:Value) (zs:List Int) (e:Ending) (w':World):Prop :=
 e=.returned (.tuple #[])/\w'.ownsRow base 3 1 v zs.length ((zs.mergeSort fun x y=>decide (x<=y)).map (.int .i64))/\w.grownBy w' v.ownBlock
theorem sortI_own {w:World} {base:Nat} {v:Value} {zs:List Int} (h:w.ownsRow base 3 1 v zs.length (zs.map (.int .i64))) (hz:zs.length<=2000000):Calls Tryz.prog 48 #[v] w (SortIP w base v zs):=by
 rcases h.2 with ⟨rfl,h0⟩|⟨g,cap,cur,rfl,hg,hb,h1,h2,h3,h4⟩
 .have hz:zs=[]:=List.eq_nil_of_length_eq_zero h0
  subst hz
  refine (Tryz.slices_Sort_int_none none 0 w).mono ?_
  rintro e w' ⟨rfl,rfl⟩
  exact ⟨rfl,by simpa using h,World.grownBy.refl _ _⟩
 .have hgl:g<w.heap.size:=Blk.lt (t:=3) hb
  rw [Nat.mul_one] at h4
  refine (Tryz.slices_Sort_int g 0 cap zs w (holds_of_blockI hb h4) hgl (by omega)).mono ?_
  rintro e w' ⟨rfl,n,os,rfl⟩
  exact ⟨rfl,ownsRow_sortedI (by simp) hg hb h1 h2 h3,grownBy_sortedI _⟩
theorem own_tyE {w:World} {base:Nat} {e:TypeId} {size n:Nat} {v:Value} {xs:List Value} (h:w.ownsRow base e size v n xs) {g:Nat} (hg:v.ownBlock=some g):∃ cs,w.heap[g]?=some (.cells cs e (0,0)):=by
 rcases h.2 with ⟨rfl,_⟩|⟨g',cap,cur,rfl,_,hh,_⟩
 .cases hg
 .have:g'=g:=by simpa [Value.ownBlock] using hg
  subst this
  exact ⟨cur,hh⟩
theorem eI3i:ElemInfo Tryz.prog 3 1 8 (.int .i64 0):=ElemInfo.mk' (by kernel_rfl)
theorem sorted_isI {a b:List Int} (ha:a.Pairwise (·<·)) (hb:b.Pairwise (·<=·)) (hp:b.Perm a):b=a :=
 hp.eq_of_pairwise (le:=(·<=·)) (fun _ _ _ _ h1 h2=>Int.le_antisymm h1 h2) hb (ha.imp Int.le_of_lt)
theorem sortI_is {a zs:List Int} (ha:a.Pairwise (·<·)) (hp:zs.Perm a):(zs.mergeSort fun x y=>decide (x<=y))=a:=by
 refine sorted_isI ha ?_ ((List.mergeSort_perm _ _).trans hp)
 have:=List.pairwise_mergeSort (le:=fun x y:Int=>decide (x<=y)) (fun a b c h1 h2=>by simp at *;omega) (fun a b=>by simp;omega) zs
 exact this.imp fun h=>by simpa using h
structure NumRel (w:World) (g:Nat) (km:List (Int × Value)) (v:Value) (wr:World) (left:List (Value × Value)) (d:List Int):Prop where
 rng:Rng wr g w.heap.size left
 pm:(left.map (fun x:Value × Value=>x.1)++d.map (Value.int .i64)).Perm (km.map fun x=>Value.int .i64 x.1)
 sh:∀ x∈left,∃ (k:Int) (u:Value),x=(.int .i64 k,u)
 own:wr.ownsRow w.heap.size 3 1 v d.length (d.map (.int .i64))
 be:Below w.heap.size w wr
def NumPost (L:List Int) (w:World) (e:Ending) (w':World):Prop:=∃ v,e=.returned v/\w'.ownsRow w.heap.size 3 1 v L.length (L.map (.int .i64))/\Below w.heap.size w w'
section
variable {w wr w2 w4:World} {g:Nat} {km:List (Int × Value)} {v v4:Value} {left left2:List (Value × Value)} {d:List Int}
theorem own_notI {base n:Nat} {xs:List Value} (h:w.ownsRow base 3 1 v n xs) {b r:Nat} (hr:Rng w b r left):∀ k,v.ownBlock=some k->k≠b/\k≠r:=fun k hk=>by
 obtain ⟨cs,hc⟩:=own_tyE h hk
 exact hr.notCells hc
theorem NumRel.own2 (h:NumRel w g km v wr left d) (hf:Fr (fun j=>j=w.heap.size) wr w2):w2.ownsRow w.heap.size 3 1 v d.length (d.map (.int .i64)) :=
 own_fr h.own hf (fun k hk=>(own_notI h.own h.rng k hk).2)
theorem NumRel.len (h:NumRel w g km v wr left d):left.length+d.length=km.length:=by
 have:=h.pm.length_eq
 simpa using this
theorem NumRel.step {n:Int} {u:Value} (h:NumRel w g km v wr left d) (hp:((.int .i64 n,u)::left2).Perm left) (hr:Rng w2 g w.heap.size left2) (hf:Fr (fun j=>j=w.heap.size) wr w2)
 (ho:w4.ownsRow w.heap.size 3 1 v4 (d.length+1) (d.map (.int .i64)++[.int .i64 n])) (hgr:w2.grownBy w4 v.ownBlock):NumRel w g km v4 w4 left2 (d++[n]):=by
 have ho2:=h.own2 hf
 have hn:=own_notI ho2 hr
 have f1:Fr (fun k=>v.ownBlock=some k) w2 w4:=Fr.of_grown hgr fun k e=>e
 refine ⟨hr.fr f1 (fun e=>(hn _ e).1 rfl) (fun e=>(hn _ e).2 rfl),?_,fun x hx=>h.sh x (hp.subset (List.mem_cons_of_mem _ hx)),?_,?_⟩
 .refine List.Perm.trans ?_ h.pm
  rw [List.map_append,<-List.append_assoc]
  refine List.perm_append_comm.trans ?_
  exact (hp.map (·.1)).append_right _
 .rw [List.map_append,List.length_append]
  exact ho
 .refine h.be.trans ((hf.to_below h.be.size (fun k e=>by omega)).trans (f1.to_below (Nat.le_trans h.be.size hf.size) (fun k e=>(ho2.lt k e).1)))
theorem NumRel.fin {L:List Int} (h:NumRel w g km v wr [] d) (hL:(km.map (·.1)).Perm L) (hs:L.Pairwise (·<·)) (ho:w2.ownsRow w.heap.size 3 1 v d.length ((d.mergeSort fun x y=>decide (x<=y)).map (.int .i64))) (hg':wr.grownBy w2 v.ownBlock):NumPost L w (.returned v) w2:=by
 have h1:(d.map (Value.int .i64)).Perm ((km.map (·.1)).map (.int .i64)):=by simpa [Function.comp_def] using h.pm
 have hun:∀ l:List Int,(l.map (Value.int .i64)).map (fun x:Value=>match x with|.int _ n=>n|_=>0)=l:=fun l=>by
  rw [List.map_map]
  exact List.map_id _
 have h2:=h1.map (fun x:Value=>match x with|.int _ n=>n|_=>0)
 rw [hun,hun] at h2
 have hp:=h2.trans hL
 rw [sortI_is hs hp] at ho
 have hl:d.length=L.length:=hp.length_eq
 rw [hl] at ho
 exact ⟨v,rfl,ho,h.be.grown hg' h.be.size (fun k hk=>(h.own.lt k hk).1)⟩
end
set_option maxRecDepth 100000 in
set_option maxHeartbeats 4000000 in
theorem snumbers_any {w:World} {p:Nat} {c:Conf} {last:Int} {L:List SubP} {F:Nat->Prop} (H:Sb w p c last L F):Calls Tryz.prog 50 #[.pointer (some ⟨p,0,none⟩)] w (NumPost (L.map (·.number)) w):=by
 obtain ⟨xs,l,g,pw,km,FW,rfl,H,Q⟩:=H
 have hB:=H.mb
 have hm:=H.mm
 have hc:w.cell? ⟨p,8,none⟩=some (.map (some g)):=H.top.cell 8
 have hkm:(km.map (·.1)).Perm ((xs.map (·.s)).map (·.number)):=by
  have h:=H.pm.map (·.1)
  rw [List.map_map] at h ⊢
  exact h
 have hso:((xs.map (·.s)).map (·.number)).Pairwise (·<·):=by rw [List.pairwise_map];exact Q.ids
 have hle:km.length<=200:=by
  have h1:=H.lenm
  have h2:=Q.len
  have h3:=Q.subs
  simp at h2
  omega
 have HKM:=hid hkm
 have HSO:=hid hso
 have HL:=hid hle
 clear hkm hso hle H Q
 generalize (xs.map (·.s)).map (·.number)=L at *
 go_enter Tryz.func50,Tryz.ntmps50
 go_wp2_with (first|(at_range;refine wpList_range_is rfl _ 82 rfl _ _ Tryz.underlying82 rfl hB hm ?_;intro w1 hr1 hf1 hs1)|go_in)
 try go_frame
 have H0:Hid (NumRel w g km (.slice none 0 0) w1 (km.map fun x=>(intKey x.1,x.2)) []):=hid ⟨hr1,by simp [intKey,Function.comp_def],fun x hx=>by
  obtain ⟨y,_,rfl⟩:=List.mem_map.1 hx
  exact ⟨_,_,rfl⟩,⟨rfl,.inl ⟨rfl,rfl⟩⟩,hf1.to_below (Nat.le_refl _) (fun _ h=>h.elim)⟩
 clear hr1 hf1 hs1 hm hB hc
 go_loopw [3] (fun v wr=>∃ left d,NumRel w g km v wr left d) (fun _ wr=>wr.rangeLeft g w.heap.size)
 case atStart=>exact ⟨_,_,H0.out⟩
 case round =>
  obtain ⟨left,d,hR⟩:=hrel
  have HR:=hid hR
  have hrg:=hR.rng
  have hsh:=hR.sh
  clear hR
  go_wp2_with (first|(at_next;refine wpList_next_is rfl _ rfl (fun k:Int=>.int .i64 k) (fun u:Value=>u) rfl hrg hsh ?_ ?_)|go_in)
  .intro h0
   subst h0
   have hlen:=HR.out.len
   have HS:=hid (sortI_own HR.out.own (by have:=HL.out;simp at hlen;omega))
   clear hrg hsh
   go_wp2_with fail
   refine (HS.out).mono ?_
   rintro e w2 ⟨rfl,ho',hg'⟩
   have HFIN:=hid (HR.out.fin HKM.out HSO.out ho' hg')
   clear ho' hg'
   go_wp2
   go_ret
   exact HFIN.out
  .intro n u w2 left2 hpm hrg2 hf2 hs2 hen
   have HO2:=hid (HR.out.own2 hf2)
   have HST:Hid (∀ v4 w4,w4.ownsRow w.heap.size 3 1 v4 (d.length+1) (d.map (.int .i64)++[.int .i64 n])->w2.grownBy w4 _->NumRel w g km v4 w4 left2 (d++[n])):=hid (fun v4 w4 a b=>HR.out.step hpm hrg2 hf2 a b)
   have HLE:=hid (Nat.le_trans HR.out.be.size hf2.size)
   have hlen:=HR.out.len
   have hd:d.length<=500:=by have:=HL.out;omega
   have hl1:left2.length<left.length:=by have:=hpm.length_eq;simp at this;omega
   have HLL:=hid hl1
   have HLF:=hid hrg.left_eq
   clear hs2 hrg hsh hpm hf2 hlen hl1 hrg2
   go_wp2_with (at_builtin;(refine wpList_app1' rfl (.tmp 14) (.tmp 16) 22 rfl w.heap.size 3 1 8 _ Tryz.underlying22 eI3i rfl (by omega) _ _ _ rfl (HO2.out) [.int .i64 n] _ rfl (by first|(simp;done)|rfl) rfl (by simp [Value.oneCell']) (by unfold maxLen;omega) (by omega) (by have:=HLE.out;omega) ?_);intro v4 w4 hown4 hb4 hg4 hat4)
   have HZ:=hid (HST.out v4 w4 hown4 hg4)
   clear hown4 hb4 hg4 hat4
   go_roundw
   case rel=>exact ⟨_,_,HZ.out⟩
   case measure =>
    have e1:=HZ.out.rng.left_eq
    have e2:=HLF.out
    have e3:=HLL.out
    omega
def idsE (l:List TM):List Value:=l.map fun t=>.int .i64 t.2
theorem idsE_snoc (l:List TM) (t:TM):idsE (l++[t])=idsE l++[.int .i64 t.2]:=by simp [idsE]
def xsE (xs:List XS) (D:List TM) (j:Nat):List XS:=xs.map fun x=>if x.s.number∈(D.take j).map (·.2) then ⟨x.b,overS x.s timeoutN,x.v⟩ else x
theorem xsE_zero (xs:List XS) (D:List TM):xsE xs D 0=xs:=by
 have:xsE xs D 0=xs.map id:=List.map_congr_left fun x _=>if_neg (by simp)
 rw [this,List.map_id]
theorem xsE_s (xs:List XS) (D:List TM) (j:Nat):(xsE xs D j).map (·.s)=stepS (xs.map (·.s)) D j:=by
 unfold xsE stepS
 rw [List.map_map,List.map_map]
 apply List.map_congr_left
 intro x _
 show (if x.s.number∈(D.take j).map (·.2) then (⟨x.b,overS x.s timeoutN,x.v⟩:XS) else x).s=if x.s.number∈(D.take j).map (·.2) then overS x.s timeoutN else x.s
 split <;> rfl
theorem xsE_n (xs:List XS) (D:List TM) (j:Nat):((xsE xs D j).map (·.s)).map (·.number)=(xs.map (·.s)).map (·.number):=by
 unfold xsE
 rw [List.map_map,List.map_map,List.map_map]
 apply List.map_congr_left
 intro x _
 show (if x.s.number∈(D.take j).map (·.2) then (⟨x.b,overS x.s timeoutN,x.v⟩:XS) else x).s.number=x.s.number
 split <;> rfl
section
variable {c:Conf} {last now:Int} {xs:List XS} {l:List TM} {L:List SubP}
theorem DE_of (Q:SbQ c last (xs.map (·.s)) l) (hs:l.Pairwise ah) (now:Int) {t:TM} (h:t∈rDueA l now):∃ x∈xs,t=(x.s.until_,x.s.number)/\x.s.state≠2:=by
 rw [(due_parts hs now).1] at h
 have h1:=Q.lp.mem_iff.1 (List.mem_filter.1 h).1
 obtain ⟨q,hq,rfl⟩:=List.mem_map.1 h1
 have h2:=List.mem_filter.1 hq
 obtain ⟨x,hx,rfl⟩:=List.mem_map.1 h2.1
 exact ⟨x,hx,rfl,of_decide_eq_true h2.2⟩
theorem DE_split (l:List TM) (now:Int):rDueA l now++rDueB l now=l:=List.takeWhile_append_dropWhile
theorem DE_nd (Q:SbQ c last L l) (now:Int):((rDueA l now).map (·.2)).Nodup/\∀ t∈rDueA l now,t.2∉(rDueB l now).map (·.2):=by
 have h:=Q.wnd
 rw [<-DE_split l now,List.map_append,List.nodup_append] at h
 refine ⟨h.1,fun t ht hb=>?_⟩
 exact h.2.2 t.2 (List.mem_map.2 ⟨t,ht,rfl⟩) t.2 hb rfl
theorem DE_at (Q:SbQ c last (xs.map (·.s)) l) (hs:l.Pairwise ah) (now:Int) {j:Nat} (hj:j<(rDueA l now).length):∃ x∈xs,(rDueA l now)[j]=(x.s.until_,x.s.number)/\x.s.number∉((rDueA l now).take j).map (·.2):=by
 obtain ⟨x,hx,e,_⟩:=DE_of Q hs now (List.getElem_mem hj)
 refine ⟨x,hx,e,fun hm=>?_⟩
 obtain ⟨t,ht,et⟩:=List.mem_map.1 hm
 obtain ⟨i,hi,rfl⟩:=List.mem_take_iff_getElem.1 ht
 have hp:=List.pairwise_iff_getElem.1 (List.nodup_iff_pairwise_ne.1 (DE_nd Q now).1) i j (by simp;omega) (by simpa using hj) (by omega)
 apply hp
 simp only [List.getElem_map]
 rw [et,e]
theorem xsE_in {x:XS} {D:List TM} {j:Nat} (hx:x∈xs) (h:x.s.number∉(D.take j).map (·.2)):x∈xsE xs D j:=List.mem_map.2 ⟨x,hx,if_neg h⟩
theorem xsE_succ (hb:(xs.map (·.b)).Nodup) (hn:((xs.map (·.s)).map (·.number)).Nodup) {x:XS} {D:List TM} {j:Nat} (hj:j<D.length) (hx:x∈xs) (he:D[j]=(x.s.until_,x.s.number)):xsE xs D (j+1)=putX (xsE xs D j) ⟨x.b,overS x.s timeoutN,x.v⟩:=by
 unfold xsE putX
 rw [List.map_map]
 apply List.map_congr_left
 intro y hy
 show (if y.s.number∈(D.take (j+1)).map (·.2) then (⟨y.b,overS y.s timeoutN,y.v⟩:XS) else y)=if (if y.s.number∈(D.take j).map (·.2) then (⟨y.b,overS y.s timeoutN,y.v⟩:XS) else y).b=x.b then (⟨x.b,overS x.s timeoutN,x.v⟩:XS) else (if y.s.number∈(D.take j).map (·.2) then (⟨y.b,overS y.s timeoutN,y.v⟩:XS) else y)
 have hyb:(if y.s.number∈(D.take j).map (·.2) then (⟨y.b,overS y.s timeoutN,y.v⟩:XS) else y).b=y.b:=by split <;> rfl
 rw [hyb,List.take_succ_eq_append_getElem hj,List.map_append,List.map_singleton,he]
 rw [List.map_map] at hn
 by_cases h:y.b=x.b
 .have:=nodup_inj hb hy hx h
  subst this
  rw [if_pos rfl,if_pos (by simp)]
 .have hne:y.s.number≠x.s.number:=fun e=>h (by rw [nodup_inj (f:=(fun s:SubP=>s.number)∘fun x:XS=>x.s) hn hy hx e])
  rw [if_neg h]
  by_cases h2:y.s.number∈(D.take j).map (·.2)
  .rw [if_pos (List.mem_append.2 (.inl h2)),if_pos h2]
  .rw [if_neg (fun k=>(List.mem_append.1 k).elim h2 (fun k=>hne (by simpa using k))),if_neg h2]
end
section
variable {w wr w1 w2 w4 w':World} {p bm pw:Nat} {c:Conf} {last:Int} {xs:List XS} {l l' D lb:List TM} {F FW G:Nat->Prop} {km:List (Int × Value)} {x:XS} {dv:Value}
theorem TurnS.subm (H:SbI w p c last xs l F bm pw km FW) (hx:x∈xs) {s':SubP} {v':SlV} (ht:TurnS w w' x.b pw s' v' l' FW) {s:SubP} {v:SlV} (hm:SubM w s v):SubM w' s v:=by
 obtain ⟨FW',hk,hw,hf,hx'⟩:=ht.ex
 exact hm.fr hf fun b ds T fr hb hT e=>by
  rcases e with e|e
  .exact keepP_blk (H.its x hx) (by decide) (by decide) b ds T fr hb hT e
  .exact wh_keep H.wh b ds T fr hb hT e
structure ExpE (w:World) (p:Nat) (c:Conf) (last:Int) (xs:List XS) (D lb:List TM) (F:Nat->Prop) (bm pw:Nat) (km:List (Int × Value)) (dv:Value) (j:Nat) (v:Value) (wr:World):Prop where
 sb:∃ Fj FWj,SbI wr p c last (xsE xs D j) lb Fj bm pw km FWj/\Ext F Fj w
 rd:wr.ownsRow w.heap.size 111 2 dv D.length (tcells D)
 own:wr.ownsRow w.heap.size 3 1 v j (idsE (D.take j))
 fr:Fr F w wr
def ExpRelE (w:World) (p:Nat) (c:Conf) (last:Int) (xs:List XS) (D lb:List TM) (F:Nat->Prop) (bm pw:Nat) (km:List (Int × Value)) (dv:Value) (v i:Value) (wr:World):Prop:=∃ j:Nat,j<=D.length/\i=.int .i64 j/\ExpE w p c last xs D lb F bm pw km dv j v wr
theorem fj_not {Fj FWj:Nat->Prop} {base:Nat} {T:TypeId} {size n:Nat} {v:Value} {ys:List Value} {xs':List XS} (H:SbI w p c last xs' l Fj bm pw km FWj) (ho:w.ownsRow base T size v n ys) (h1:T≠167) (h2:T≠171) (h3:T≠161) (h4:T≠85) (h5:T≠39):∀ k,v.ownBlock=some k->¬Fj k:=fun k hk=>by
 obtain ⟨cs,h⟩:=own_tyE ho hk
 exact H.notT h h1 h2 h3 h4 h5
theorem exp_stepE {v v4:Value} {j:Nat} {W2 w4:World} {Fj FWj:Nat->Prop} {o:Obj} (HI:SbI w p c last xs l F bm pw km FW) (hnum:((xs.map (·.s)).map (·.number)).Nodup) (hj:j<D.length) (hx:x∈xs) (he:D[j]=(x.s.until_,x.s.number)) (hin:x.s.number∉(D.take j).map (·.2)) (hnb:x.s.number∉lb.map (·.2))
 (hE:ExpE w p c last xs D lb F bm pw km dv j v wr) (hS:SbI wr p c last (xsE xs D j) lb Fj bm pw km FWj) (hx':Ext F Fj w)
 (ht:TurnS (wr.alloc o).drew W2 x.b pw (overS x.s timeoutN) x.v (rStop lb x.s.number) FWj) (ho:∃ cs fr,o=.cells cs 111 fr)
 (ho4:w4.ownsRow w.heap.size 3 1 v4 (j+1) (idsE (D.take j)++[.int .i64 x.s.number])) (hg4:W2.grownBy w4 v.ownBlock):ExpE w p c last xs D lb F bm pw km dv (j+1) v4 w4:=by
 have fa:Fr (fun _=>False) wr (wr.alloc o).drew:=((Fr.refl (fun _=>False) wr).alloc o).drew
 have hS0:=hS.fr fa (fun _ _ h=>h) (KeepP.none wr)
 have hxJ:x∈xsE xs D j:=xsE_in hx hin
 have hm:=(ht.subm hS0 hxJ (hS0.sub x hxJ)).as (s':=overS x.s timeoutN) rfl rfl rfl rfl rfl
 rw [stop_none hnb] at ht
 obtain ⟨FW2,a,b,d⟩:=hS0.put hxJ (s':=overS x.s timeoutN) (v':=x.v) rfl hm ht
 rw [<-xsE_succ HI.nd hnum hj hx he] at a d
 have f4:Fr (fun k=>v.ownBlock=some k) W2 w4:=Fr.of_grown hg4 (fun k e=>e)
 have hrd0:=own_fr hE.rd fa (fun _ _ h=>h)
 have hrd2:=own_fr hrd0 b (fj_not hS0 hrd0 (by decide) (by decide) (by decide) (by decide) (by decide))
 have hown0:=own_fr hE.own fa (fun _ _ h=>h)
 have hown2:=own_fr hown0 b (fj_not hS0 hown0 (by decide) (by decide) (by decide) (by decide) (by decide))
 have sw:=hE.fr.size
 have sa:=fa.size
 refine ⟨⟨_,_,a.fr f4 (fun k hk e=>fj_not a hown2 (by decide) (by decide) (by decide) (by decide) (by decide) k e hk) (fun b ds T fr hb hT e=>?_),fun k hk=>(d k hk).elim (fun q=>hx' k q) (fun q=>.inr (by omega))⟩,own_fr hrd2 f4 (fun gb hgb q=>?_),?_,?_⟩
 .obtain ⟨cs,h⟩:=own_tyE hown2 e
  rw [hb] at h
  injection h with h
  injection h with _ h
  subst h
  rcases hT with q|q
  .exact absurd q (by decide)
  .exact absurd q (by decide)
 .obtain ⟨cs',h⟩:=own_tyE hown2 q
  obtain ⟨cs2,h2⟩:=own_tyE hrd2 hgb
  rw [h2] at h
  injection h with h
  injection h with _ h
  exact absurd h (by decide)
 .rw [List.take_succ_eq_append_getElem hj,idsE_snoc,he]
  exact ho4
 .refine ((hE.fr.trans fa (fun _ _ h=>h.elim)).trans b (fun k hk q=>?_)).trans f4 (fun k hk q=>?_)
  .rcases hx' k q with r|r
   .exact r
   .omega
  .have:=(hown2.lt k q).1
   omega
end
def ExpTo (p:Nat) (c:Conf) (last:Int) (L:List SubP) (now:Int) (F:Nat->Prop) (w:World) (e:Ending) (w':World):Prop :=
 ∃ v,e=.returned v/\w'.ownsRow w.heap.size 3 1 v (goneS L now).length ((goneS L now).map (.int .i64))/\TabTo p c last (expS L now) F w w'
theorem zsubW (w:World):(zeroValue 92).run Tryz.prog w=.ok (.pointer none) w:=zsub w
set_option maxRecDepth 100000 in
set_option maxHeartbeats 4000000 in
theorem ssexpire_any {w:World} {p:Nat} {c:Conf} {last now:Int} {L:List SubP} {F:Nat->Prop} (H:Sb w p c last L F):Calls Tryz.prog 19 #[.pointer (some ⟨p,0,none⟩),.int .i64 now] w (ExpTo p c last L now F w):=by
 obtain ⟨xs,l,bm,pw,km,FW,rfl,H,Q⟩:=H
 have hm:=hid (smade_any (pw:=pw) H.top)
 have t9:w.cell? ⟨p,9,none⟩=some (.pointer (some ⟨pw,0,none⟩)):=H.top.cell 9
 have hdue:=hid (due_any H.wh now)
 have hso:l.Pairwise ah:=by obtain ⟨_,_,_,_,h⟩:=H.wh;exact h.so
 have HI:=hid H
 have HQ:=hid Q
 have HSO:=hid hso
 have hlen:(rDueA l now).length<=4096:=by
  have h1:l.length<=4096:=by obtain ⟨_,_,_,_,h⟩:=H.wh;exact h.le
  have h2:=(List.takeWhile_sublist (fun t:TM=>decide (t.1<=now)) (l:=l)).length_le
  unfold rDueA
  omega
 clear H Q hso
 go_enter Tryz.func19,Tryz.ntmps19
 go_wp2_with fail
 refine (hm.out).mono ?_
 rintro e w' ⟨rfl,rfl⟩
 go_wp2_with fail
 refine (hdue.out).mono ?_
 rintro e w1 ⟨dv,FW1,rfl,hown,hwh,hf,hsub⟩
 have hI1:=HI.out.wheel hwh hf (fun k hk=>.inl (hsub k hk))
 obtain ⟨D,hD⟩:∃ D,rDueA l now=D:=⟨_,rfl⟩
 obtain ⟨lb,hlb⟩:∃ lb,rDueB l now=lb:=⟨_,rfl⟩
 rw [hD] at hown hlen
 obtain ⟨A,cA,rfl,hAc,hcm,hrd⟩:=RdV.of_own hown
 have HST:Hid (ExpRelE w p c last xs D lb F bm pw km (.slice A D.length cA) (.slice none 0 0) (.int .i64 0) w1):=hid
  ⟨0,by omega,rfl,⟨⟨_,FW1,by rw [xsE_zero,<-hlb];exact hI1.1,hI1.2.2⟩,hown,⟨rfl,.inl ⟨rfl,rfl⟩⟩,hI1.2.1⟩⟩
 have HLN:=hid hlen
 have HD:=hid hD
 have HLB:=hid hlb
 clear hown hwh hf hsub hI1 hrd hD hlb
 go_wp2_with fail
 go_loopw [5,19] (fun v i wr=>ExpRelE w p c last xs D lb F bm pw km (.slice A D.length cA) v i wr) (fun v i _=>D.length-(intOf i).toNat)
 case atStart=>exact HST.out
 case round =>
  obtain ⟨j,hj,rfl,hE⟩:=hrel
  by_cases hlt:j<D.length
  .obtain ⟨Fj,FWj,hS,hFj⟩:=hE.sb
   obtain ⟨x,hx,hde,hni⟩:=DE_at HQ.out HSO.out now (j:=j) (by rw [HD.out];exact hlt)
   simp only [HD.out] at hde hni
   have hnum:=subs_idnd HQ.out.ids
   have hnd:(((xsE xs D j).map (·.s)).map (·.number)).Nodup:=by rw [xsE_n];exact hnum
   have hxJ:x∈xsE xs D j:=xsE_in hx hni
   have hgl:=hS.getm hnd hxJ
   have hnb:x.s.number∉lb.map (·.2):=by
    have h9:=(DE_nd HQ.out now).2 D[j] (by rw [HD.out];exact List.getElem_mem hlt)
    rw [hde,HLB.out] at h9
    exact h9
   obtain ⟨gb,off,rfl,c0,c1⟩:=rd_tm (Rd.of_own hE.rd) hlt
   have hd1:D[j].1=x.s.until_:=by rw [hde]
   have hd2:D[j].2=x.s.number:=by rw [hde]
   rw [hd2] at c1
   rw [hd1] at c0
   obtain ⟨W0,hW0⟩:∃ W0,wr.alloc (.cells #[.int .i64 x.s.until_,.int .i64 x.s.number] 111)=W0:=⟨_,rfl⟩
   have hS0:=hW0▸hS.fr ((Fr.refl (fun _=>False) wr).alloc (.cells #[.int .i64 x.s.until_,.int .i64 x.s.number] 111)) (fun _ _ h=>h) (KeepP.none wr)
   have hB0:Blk W0 wr.heap.size 111 #[.int .i64 x.s.until_,.int .i64 x.s.number]:=hW0▸Blk.new wr _ _
   have p8:W0.cell? ⟨p,8,none⟩=some (.map (some bm)):=hS0.top.cell 8
   have d1:=hB0.cell 1
   have hlk:=(hS0.mm.drewN 1).lookup (T:=82) (E:=92) (intLaw Tryz.underlying3) Tryz.underlying82 (zsubW _) x.s.number false
   rw [hgl] at hlk
   have hlk':(Instr.lookup 82 (.map (some bm)) (.int .i64 x.s.number) false).run Tryz.prog W0.drew=.ok (.pointer (some ⟨x.b,0,none⟩)) W0.drew:=hlk
   have HOV:=hid (over_any (reason:=timeoutN) (hS0.top.drewN 1) ((hS0.its x hxJ).drewN 1) (hS0.wh.fr ((Fr.refl (fun _=>False) W0).drew) (fun _ _ h=>h)))
   have HTW:Hid (∀ W2,TurnS W0.drew W2 x.b pw (overS x.s timeoutN) x.v (rStop lb x.s.number) FWj->W2.cell? ⟨wr.heap.size,1,none⟩=some (.int .i64 x.s.number)/\W2.ownsRow w.heap.size 3 1 u5 j (idsE (D.take j))/\∀ v4 w4,w4.ownsRow w.heap.size 3 1 v4 (j+1) (idsE (D.take j)++[.int .i64 x.s.number])->W2.grownBy w4 u5.ownBlock->ExpE w p c last xs D lb F bm pw km (.slice (some ⟨gb,off,none⟩) D.length cA) (j+1) v4 w4):=hid (fun W2 ht=>by
    obtain ⟨F9,hk9,hw9,hf9,hx9⟩:=ht.ex
    have hS1:=hS0.drewN 1
    have fa:Fr (fun _=>False) wr W0.drew:=hW0▸((Fr.refl (fun _=>False) wr).alloc _).drew
    have hsub:∀ k,(k=x.b\/FWj k)->Fj k:=fun k q=>by
     rcases q with q|q
     .exact (hS1.ff k).2 (.inr (.inr (.inl (q▸List.mem_map.2 ⟨x,hxJ,rfl⟩))))
     .exact (hS1.ff k).2 (.inr (.inr (.inr q)))
    have hown0:=own_fr hE.own fa (fun _ _ h=>h)
    refine ⟨((hB0.drewN 1).fr hf9 (fun q=>?_)).cell 1,own_fr hown0 hf9 (fun k hk q=>fj_not hS1 hown0 (by decide) (by decide) (by decide) (by decide) (by decide) k hk (hsub k q)),fun v4 w4 a b=>exp_stepE HI.out hnum hlt hx hde hni hnb hE hS hFj (o:=.cells #[.int .i64 x.s.until_,.int .i64 x.s.number] 111) (hW0▸ht) ⟨_,_,rfl⟩ a b⟩
    exact hS1.notT (hB0.drewN 1) (by decide) (by decide) (by decide) (by decide) (by decide) (hsub _ q))
   have HLT:=hid hlt
   have HSW:Hid (w.heap.size<=W0.drew.heap.size):=hid (by have a:=hE.fr.size;have b:wr.heap.size<=W0.heap.size:=by rw [<-hW0];simp
                                                          show w.heap.size<=W0.heap.size;omega)
   have jb0:(0:Int)<=j:=by omega
   have jb1:(j:Int)<D.length:=by omega
   clear hS hgl hnd hnum hx hxJ hS0 hB0 hlk hE hde hd1 hd2 hnb hFj hni hlen
   generalize rStop lb x.s.number=lb2 at *
   generalize x.s.number=num at *
   generalize x.s.until_=unt at *
   have hj4:j<=4096:=by have:=HLN.out;omega
   go_wp2_with fail
   go_still_tail 9,(by kernel_rfl)
   go_wp2_with fail
   refine (HOV.out).mono ?_
   rintro e w2 ⟨rfl,ht⟩
   obtain ⟨q1,q2,q3⟩:=HTW.out w2 ht
   have HO2:=hid q2
   have HZ0:=hid q3
   have HSZ:Hid (w.heap.size<=w2.heap.size):=hid (by
    obtain ⟨F9,_,_,hf9,_⟩:=ht.ex
    exact Nat.le_trans HSW.out hf9.size)
   clear ht q2 q3 HOV HTW p8 d1 c0 c1 hlk'
   go_wp2_with (at_builtin;go_must (refine wpList_app1' rfl (.tmp 33) (.tmp 36) 22 rfl w.heap.size 3 1 8 _ Tryz.underlying22 eI3i rfl (by omega) u5 j (idsE (D.take j)) rfl HO2.out [.int .i64 num] _ rfl (by first|rfl|(simp;done)) rfl (by simp [Value.oneCell']) (by unfold maxLen;omega) (by omega) HSZ.out ?_);intro v4 w4 hown4 hb4 hg4 hat4)
   have HX:=hid (HZ0.out v4 w4 hown4 hg4)
   clear hown4 hb4 hg4 hat4
   go_roundw
   case rel=>exact ⟨j+1,by omega,by go_num,HX.out⟩
   case measure=>simp [intOf] <;> omega
  .obtain rfl:j=D.length:=by omega
   obtain ⟨Fj,FWj,hS,hFj⟩:=hE.sb
   have hown:=hE.own
   rw [List.take_length] at hown
   have e5:idsE D=(D.map (·.2)).map (.int .i64):=by unfold idsE;rw [List.map_map];rfl
   have e6:(D.map (·.2)).length=D.length:=by simp
   have HS5:=hid (sortI_own (v:=u5) (zs:=D.map (·.2)) (by rw [e6,<-e5];exact hown) (by rw [e6];have:=HLN.out;omega))
   have HEND:Hid (∀ w2,w2.ownsRow w.heap.size 3 1 u5 (D.map (·.2)).length (((D.map (·.2)).mergeSort fun x y=>decide (x<=y)).map (.int .i64))->wr.grownBy w2 u5.ownBlock->ExpTo p c last (xs.map (·.s)) now F w (.returned u5) w2):=hid (fun w2 ho hg=>by
    have hp:(D.map (·.2)).Perm (goneS (xs.map (·.s)) now):=by
     have h9:=HQ.out.gone HSO.out now
     rw [HD.out] at h9
     exact h9
    rw [sortI_is (gone_rises HQ.out.ids now) hp,hp.length_eq] at ho
    have f2:Fr (fun k=>u5.ownBlock=some k) wr w2:=Fr.of_grown hg (fun k e=>e)
    refine ⟨u5,rfl,ho,Fj,⟨_,_,_,_,_,_,?_,hS.fr f2 (fun k hk e=>fj_not hS hown (by decide) (by decide) (by decide) (by decide) (by decide) k e hk) (fun b ds T fr hb hT e=>?_),?_⟩,hE.fr.trans f2 (fun k hk q=>?_),hFj⟩
    .rw [xsE_s]
     have h9:=stepS_all HQ.out HSO.out now
     rw [HD.out] at h9
     exact h9
    .obtain ⟨cs,h⟩:=own_tyE hown e
     rw [hb] at h
     injection h with h
     injection h with _ h
     subst h
     rcases hT with q|q
     .exact absurd q (by decide)
     .exact absurd q (by decide)
    .have h9:=HQ.out.exp HSO.out now
     rw [HLB.out] at h9
     exact h9
    .have:=(hown.lt k q).1
     omega)
   clear hS hFj hE hown e5 e6
   go_wp2_with fail
   refine (HS5.out).mono ?_
   rintro e w2 ⟨rfl,ho2,hg2⟩
   have HX:=hid (HEND.out w2 ho2 hg2)
   clear ho2 hg2
   go_wp2
   go_ret
   exact HX.out
end Go.Proofs.YthkadehlclcggaaGreatDoor
namespace Go.Proofs.YthkadehlclcggaaGreatDoor
set_option linter.unusedSimpArgs false
set_option linter.unusedVariables false
open Go.RowKit
open Go.Lib (hid)
theorem own_base {w:World} {base base':Nat} {e:TypeId} {size n:Nat} {v:Value} {xs:List Value} (h:w.ownsRow base e size v n xs) (hb:base'<=base):w.ownsRow base' e size v n xs :=
 ⟨h.1,h.2.imp id fun ⟨g,cap,cur,e1,h1,h2⟩=>⟨g,cap,cur,e1,Nat.le_trans hb h1,h2⟩⟩
theorem SbI.look {w:World} {p bm pw:Nat} {c:Conf} {last:Int} {xs:List XS} {l:List TM} {F FW:Nat->Prop} {km:List (Int × Value)} (H:SbI w p c last xs l F bm pw km FW) (hn:((xs.map (·.s)).map (·.number)).Nodup) {x:XS} (hx:x∈xs) :
 (Instr.lookup 82 (.map (some bm)) (.int .i64 x.s.number) false).run Tryz.prog w=.ok (.pointer (some ⟨x.b,0,none⟩)) w:=by
 have hlk:=H.mm.lookup (T:=82) (E:=92) (intLaw Tryz.underlying3) Tryz.underlying82 (zsub w) x.s.number false
 rw [H.getm hn hx] at hlk
 exact hlk
theorem eS39i:ElemInfo Tryz.prog 39 34 560 (.agg sub0):=ElemInfo.mk' (by kernel_rfl)
structure SX where
 s:SubP
 v:SlV
def subC (x:SX):List Value:=(subA x.s x.v).toList
theorem subC_len (x:SX):(subC x).length=34:=rfl
theorem subC_one {w:World} {s:SubP} {v:SlV} (h:SubM w s v):∀ u∈subC ⟨s,v⟩,u.oneCell'=true:=by
 intro u hu
 have:=subA_one (s:=s) h.ok.1 h.ok.2
 rw [Array.all_eq_true_iff_forall_mem] at this
 exact this u (by unfold subC at hu;simpa using hu)
structure SubsO (w:World) (base:Nat) (L:List SubP) (v:Value):Prop where
 ex:∃ ys:List SX,ys.map (·.s)=L/\w.ownsRow base 39 34 v L.length (rows subC ys)/\∀ y∈ys,SubM w y.s y.v
def SaPost (L:List SubP) (w:World) (e:Ending) (w':World):Prop:=∃ v,e=.returned v/\SubsO w' w.heap.size L v/\Below w.heap.size w w'
theorem own_tyU {w:World} {base:Nat} {e:TypeId} {size n:Nat} {v:Value} {xs:List Value} (h:w.ownsRow base e size v n xs) {g:Nat} (hg:v.ownBlock=some g):∃ cs,w.heap[g]?=some (.cells cs e (0,0)):=by
 rcases h.2 with ⟨rfl,_⟩|⟨g',cap,cur,rfl,_,hh,_⟩
 .cases hg
 .have:g'=g:=by simpa [Value.ownBlock] using hg
  subst this
  exact ⟨cur,hh⟩
theorem SubsO.step {w w2 w4:World} {base:Nat} {L:List SubP} {v v4:Value} {s:SubP} {v':SlV} {ys:List SX} (hy:ys.map (·.s)=L) (h2:∀ y∈ys,SubM w y.s y.v) (hb:Below w.heap.size w w2) (hm:SubM w2 s v') (h1':w2.ownsRow base 39 34 v L.length (rows subC ys))
 (ho:w4.ownsRow base 39 34 v4 (L.length+1) (rows subC ys++subC ⟨s,v'⟩)) (hg:w2.grownBy w4 v.ownBlock):SubsO w4 base (L++[s]) v4:=by
 have f:Fr (fun k=>v.ownBlock=some k) w2 w4:=Fr.of_grown hg (fun k e=>e)
 have kp:KeepP (fun k=>v.ownBlock=some k) w2:=fun b ds T fr hb hT e=>by
  obtain ⟨cs,hc⟩:=own_tyU h1' e
  rw [hc] at hb
  injection hb with hb
  injection hb with _ hb _
  rcases hT with rfl|rfl <;> exact absurd hb (by decide)
 refine ⟨ys++[⟨s,v'⟩],by simp [hy],?_,fun y hy=>?_⟩
 .rw [rows_snoc,List.length_append]
  exact ho
 .rcases List.mem_append.1 hy with r|r
  .exact ((h2 y r).below hb).fr f kp
  .simp at r
   subst r
   exact hm.fr f kp
theorem num_at {w wr:World} {l:List SubP} {A:Option Addr} {k:Nat} (h:Rd w 3 1 l.length A ((l.map (·.number)).map (Value.int .i64))) (hb:Below w.heap.size w wr) (hk:k<l.length):∃ gb off,A=some ⟨gb,off,none⟩/\wr.cell? ⟨gb,off+k,none⟩=some (.int .i64 l[k].number):=by
 obtain ⟨gb,off,e,hlt,hc⟩:=(h.below hb).at_ (by omega)
 exact ⟨gb,off,e,hc k _ (by simp [hk])⟩
set_option maxRecDepth 100000 in
set_option maxHeartbeats 2000000 in
theorem sall_any {w:World} {p:Nat} {c:Conf} {last:Int} {L:List SubP} {F:Nat->Prop} (H:Sb w p c last L F):Calls Tryz.prog 21 #[.pointer (some ⟨p,0,none⟩)] w (SaPost L w):=by
 have HNU:=hid (snumbers_any H)
 obtain ⟨xs,l,bm,pw,km,FW,rfl,H,Q⟩:=H
 have hm:=hid (smade_any (pw:=pw) H.top)
 have HI:=hid H
 have HND:=hid (subs_idnd Q.ids)
 have HZ:=hid Q.z
 have hle:(xs.map (·.s)).length<=200:=by
  have h2:=Q.len
  have h3:=Q.subs
  omega
 have HLE:=hid hle
 clear H Q hle
 go_enter Tryz.func21,Tryz.ntmps21
 go_wp2_with fail
 refine (hm.out).mono ?_
 rintro e w' ⟨rfl,rfl⟩
 go_wp2_with fail
 refine (HNU.out).mono ?_
 rintro e w1 ⟨nv,rfl,hown,hb1⟩
 have e1:((xs.map (·.s)).map (·.number)).length=(xs.map (·.s)).length:=by simp
 rw [e1] at hown
 obtain ⟨A,cA,rfl,hAc,hcm,hrd⟩:=RdV.of_own hown
 have HRD:=hid hrd
 have HB1:=hid hb1
 have HAC:=hid hAc
 have HCM:=hid hcm
 have HST:Hid (SubsO w1 w1.heap.size [] (.slice none 0 0)):=hid ⟨[],rfl,⟨rfl,.inl ⟨rfl,rfl⟩⟩,by simp⟩
 clear hown hrd hb1 e1 hAc hcm
 go_wp2_with fail
 go_loopw [3,12] (fun v i wr=>∃ k:Nat,k<=(xs.map (·.s)).length/\i=.int .i64 k/\SubsO wr w1.heap.size ((xs.map (·.s)).take k) v/\Below w1.heap.size w1 wr) (fun _ i _=>(xs.map (·.s)).length-(intOf i).toNat)
 case atStart=>exact ⟨0,by omega,rfl,HST.out,Below.refl _ _⟩
 case round =>
  obtain ⟨k,hk,rfl,hso,hbw⟩:=hrel
  have HSO:=hid hso
  have HBW:=hid hbw
  clear hso
  by_cases hlt:k<(xs.map (·.s)).length
  .obtain ⟨gb,off,rfl,ck⟩:=num_at HRD.out hbw hlt
   have hlx:k<xs.length:=by simpa using hlt
   have ex:(xs.map (·.s))[k]=(xs[k]).s:=by simp
   have hxx:xs[k]∈xs:=List.getElem_mem hlx
   rw [ex] at ck
   have hWI:=(HI.out.below HB1.out).below hbw
   have p8:wr.cell? ⟨p,8,none⟩=some (.map (some bm)):=hWI.top.cell 8
   have hlk:=hWI.look HND.out hxx
   have HCO:=hid (scopied_any (hWI.its _ hxx) (hWI.sub _ hxx) (HZ.out _ (List.mem_map.2 ⟨_,hxx,rfl⟩)))
   have hl200:k<=200:=by have:=HLE.out;omega
   have HTK:Hid (((xs.map (·.s)).take k).length=k):=hid (by rw [List.length_take];omega)
   have HNX:Hid ((xs.map (·.s)).take (k+1)=(xs.map (·.s)).take k++[(xs[k]).s]):=hid (by rw [List.take_succ_eq_append_getElem hlt,ex])
   have x0:(0:Int)<=k:=by omega
   have x1:(k:Int)<(xs.map (·.s)).length:=by omega
   clear hWI hxx ex hbw
   generalize (xs[k]).b=xb at *
   generalize (xs[k]).s=s at *
   go_wp2_with fail
   refine (HCO.out).mono ?_
   rintro e w2 ⟨v',rfl,m2,hb2⟩
   obtain ⟨ys,hys,ho1,hsm⟩:=HSO.out.ex
   rw [HTK.out] at ho1
   have HO2:=hid (own_fr ho1 (Fr.of_below (F:=fun _=>False) hb2) (fun _ _ h=>h))
   have HLE2:Hid (w1.heap.size<=w2.heap.size):=hid (Nat.le_trans HBW.out.size hb2.size)
   have HNXT:Hid (∀ v4 w4,w4.ownsRow w1.heap.size 39 34 v4 (k+1) (rows subC ys++subC ⟨s,v'⟩)->w2.grownBy w4 u3.ownBlock->Below w1.heap.size w2 w4->SubsO w4 w1.heap.size ((xs.map (·.s)).take (k+1)) v4/\Below w1.heap.size w1 w4):=hid (fun v4 w4 a b d=>by
    refine ⟨?_,HBW.out.trans ((hb2.mono HBW.out.size).trans d)⟩
    rw [HNX.out]
    exact SubsO.step hys hsm hb2 m2 (by rw [HTK.out];exact HO2.out) (by rw [HTK.out];exact a) b)
   have HON:=hid (subC_one (s:=s) m2)
   clear m2 hb2 ck p8 hlk HCO hys hsm ho1
   go_wp2_with (first|(refine Go.Great.wpList_buildSliceTo rfl 61 39 1 #[(0,.tmp 23)] rfl w2.heap.size rfl _ rfl Tryz.underlying61 (subC ⟨s,v'⟩).toArray (by as_aux_lemma=>kernel_rfl) ?_)|(at_builtin;go_must (refine wpList_app1' rfl (.tmp 16) (.tmp 24) 61 rfl w1.heap.size 39 34 560 _ Tryz.underlying61 eS39i rfl (by omega) u3 k (rows subC ys) rfl HO2.out (subC ⟨s,v'⟩) _ rfl rfl rfl HON.out (by unfold maxLen;omega) (by omega) HLE2.out ?_);intro v4 w4 hown4 hb4 hg4 hat4))
   have HX:=hid (HNXT.out v4 w4 hown4 hg4 hb4)
   clear hown4 hb4 hg4 hat4
   go_roundw
   case rel=>exact ⟨k+1,by omega,by go_num,HX.out.1,HX.out.2⟩
   case measure=>simp [intOf] <;> omega
  .obtain rfl:k=(xs.map (·.s)).length:=by omega
   have HX:Hid (SaPost (xs.map (·.s)) w (.returned u3) wr):=hid ⟨_,rfl,by
    have h9:=HSO.out
    rw [List.take_length] at h9
    obtain ⟨ys,e,a,b⟩:=h9.ex
    exact ⟨ys,e,own_base a HB1.out.size,b⟩,HB1.out.trans (HBW.out.mono HB1.out.size)⟩
   clear hbw
   go_wp2
   go_ret
   exact HX.out
end Go.Proofs.YthkadehlclcggaaGreatDoor
