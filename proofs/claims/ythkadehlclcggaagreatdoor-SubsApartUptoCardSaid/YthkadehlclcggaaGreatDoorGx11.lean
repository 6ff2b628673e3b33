/- Plain laws of a binary heap kept in a list, and of timers in order: no program in sight. The wheel's heap in memory, and what its methods Len, Less, Swap, Push, Pop do. container/heap over the wheel's heap: up, down. container/heap over the wheel's heap: down. container/heap over the wheel's heap: Fix, Pop, Push, Remove. container/heap over the wheel's heap: heap.Push, heap.Remove. The wheel as an object: what it keeps, and New, made, Len, When, Next. -/
import Derived.Test.YthkadehlclcggaaGreatDoorProg
import Derived.Test.YthkadehlclcggaaGreatDoorGx01
import Derived.BigQuiet
import Derived.Deep.QuietTactic
import Derived.RegionTactic
import Derived.BigRegion
import Derived.ChangeAlike
import Derived.Test.YthkadehlclcggaaGreatDoorGx02
import Derived.StillTailTactics
namespace Go.Proofs.YthkadehlclcggaaGreatDoor
set_option linter.unusedSimpArgs false
set_option linter.unusedVariables false
open Go.Lib (hid)
abbrev TM:=Int × Int
abbrev X:=Nat × TM
def ah (a b:TM):Prop:=a.1<b.1\/a.1=b.1/\a.2<b.2
instance (a b:TM):Decidable (ah a b):=by unfold ah;infer_instance
def ls (x y:X):Prop:=ah x.2 y.2
instance (a b:X):Decidable (ls a b):=by unfold ls;infer_instance
def g (xs:List X) (i:Nat):X:=xs.getD i (0,0,0)
theorem ls_asymm {a b:X} (h:ls a b):¬ls b a:=by unfold ls ah at *;omega
theorem ls_irrefl (a:X):¬ls a a:=by unfold ls ah at *;omega
theorem nls_trans {a b c:X} (h:¬ls b a) (h':¬ls c b):¬ls c a:=by unfold ls ah at *;omega
def heap (xs:List X) (n:Nat):Prop:=∀ k,0<k->k<n->¬ls (g xs k) (g xs ((k-1) / 2))
def upI (xs:List X) (n j:Nat):Prop :=
 (∀ k,0<k->k<n->k≠j->¬ls (g xs k) (g xs ((k-1) / 2))) /\
 (∀ k,0<k->k<n->(k-1) / 2=j->0<j->¬ls (g xs k) (g xs ((j-1) / 2)))
def dnI (xs:List X) (n i i0:Nat):Prop :=
 (∀ k,0<k->k<n->(k≠i0\/i≠i0)->(k-1) / 2≠i->¬ls (g xs k) (g xs ((k-1) / 2))) /\
 (∀ k,0<k->k<n->(k-1) / 2=i->0<i->¬ls (g xs k) (g xs ((i-1) / 2)))
def swapL (xs:List X) (i j:Nat):List X:=(xs.set i (g xs j)).set j (g xs i)
theorem swap_len (xs:List X) (i j:Nat):(swapL xs i j).length=xs.length:=by simp [swapL]
theorem g_at {xs:List X} {i:Nat} (h:i<xs.length):g xs i=xs[i]:=by simp [g,h]
theorem g_swap (xs:List X) {i j:Nat} (hi:i<xs.length) (hj:j<xs.length) (k:Nat) :
 g (swapL xs i j) k=if k=j then g xs i else if k=i then g xs j else g xs k:=by
 unfold swapL
 generalize ha:g xs i=a
 generalize hb:g xs j=b
 simp only [g,List.getD_eq_getElem?_getD,List.getElem?_set,List.length_set]
 by_cases h1:k=j
 .subst h1;simp [hj]
 .rw [if_neg (by omega),if_neg h1]
  by_cases h2:k=i
  .subst h2;simp [hi]
  .rw [if_neg (by omega),if_neg h2]
theorem swap_perm (xs:List X) {i j:Nat} (hi:i<xs.length) (hj:j<xs.length):(swapL xs i j).Perm xs:=by
 unfold swapL
 rw [g_at hi,g_at hj]
 exact List.set_set_perm hi hj
theorem up_step {xs:List X} {n j:Nat} (hn:n<=xs.length) (hj:j<n) (h0:0<j) (h:upI xs n j) (hl:ls (g xs j) (g xs ((j-1) / 2))):upI (swapL xs ((j-1) / 2) j) n ((j-1) / 2):=by
 have hi:(j-1) / 2<j:=by omega
 generalize hp:(j-1) / 2=i at *
 have hg:=g_swap xs (i:=i) (j:=j) (by omega) (by omega)
 have pj:(j-1) / 2=i:=hp
 refine ⟨fun k hk0 hkn hki=>?_,fun k hk0 hkn hkp hi0=>?_⟩
 .rw [hg,hg]
  by_cases hkj:k=j
  .subst hkj
   rw [if_pos rfl,pj,if_neg (by omega),if_pos rfl]
   exact ls_asymm hl
  .rw [if_neg hkj,if_neg hki]
   by_cases e1:(k-1) / 2=j
   .rw [if_pos e1]
    have:=h.2 k hk0 hkn e1 h0
    rwa [pj] at this
   .rw [if_neg e1]
    by_cases e2:(k-1) / 2=i
    .rw [if_pos e2]
     have:=h.1 k hk0 hkn hkj
     rw [e2] at this
     exact nls_trans (ls_asymm hl) this
    .rw [if_neg e2]
     exact h.1 k hk0 hkn hkj
 .have hii:(i-1) / 2<i:=by omega
  rw [hg,hg,if_neg (show (i-1) / 2≠j by omega),if_neg (show (i-1) / 2≠i by omega)]
  have hpi:=h.1 i hi0 (by omega) (by omega)
  by_cases hkj:k=j
  .rw [if_pos hkj];exact hpi
  .rw [if_neg hkj,if_neg (by omega)]
   have:=h.1 k hk0 hkn hkj
   rw [hkp] at this
   exact nls_trans hpi this
theorem up_end {xs:List X} {n j:Nat} (h:upI xs n j) (hl:j=0\/¬ls (g xs j) (g xs ((j-1) / 2))):heap xs n:=by
 intro k hk0 hkn
 by_cases hkj:k=j
 .subst hkj
  rcases hl with h0|h0
  .omega
  .exact h0
 .exact h.1 k hk0 hkn hkj
def kid (xs:List X) (n i:Nat):Nat:=if 2*i+2<n/\ls (g xs (2*i+2)) (g xs (2*i+1)) then 2*i+2 else 2*i+1
theorem kid_bd (xs:List X) (n i:Nat) (h:2*i+1<n):(kid xs n i-1) / 2=i/\i<kid xs n i/\kid xs n i<n:=by unfold kid;split <;> omega
theorem kid_le (xs:List X) (n i k:Nat) (hk0:0<k) (hk:k<n) (hp:(k-1) / 2=i):¬ls (g xs k) (g xs (kid xs n i)):=by
 have hk2:k=2*i+1\/k=2*i+2:=by omega
 unfold kid
 split
 .rename_i hc
  rcases hk2 with rfl|rfl
  .exact ls_asymm hc.2
  .exact ls_irrefl _
 .rename_i hc
  rcases hk2 with rfl|rfl
  .exact ls_irrefl _
  .intro hl;exact hc ⟨hk,hl⟩
theorem dn_step {xs:List X} {n i i0:Nat} (hn:n<=xs.length) (hi0:i0<=i) (hc:2*i+1<n) (h:dnI xs n i i0) (hl:ls (g xs (kid xs n i)) (g xs i)):dnI (swapL xs i (kid xs n i)) n (kid xs n i) i0:=by
 obtain ⟨hp,hij,hjn⟩:=kid_bd xs n i hc
 have hle:=kid_le xs n i
 generalize kid xs n i=j at *
 have hg:=g_swap xs (i:=i) (j:=j) (by omega) (by omega)
 refine ⟨fun k hk0 hkn _ hkp=>?_,fun k hk0 hkn hkp hj0=>?_⟩
 .rw [hg,hg,if_neg hkp]
  by_cases hkj:k=j
  .subst hkj
   rw [if_pos rfl,if_pos hp]
   exact ls_asymm hl
  .rw [if_neg hkj]
   by_cases hki:k=i
   .subst hki
    rw [if_pos rfl,if_neg (by omega)]
    exact h.2 j (by omega) hjn hp hk0
   .rw [if_neg hki]
    by_cases e2:(k-1) / 2=i
    .rw [if_pos e2];exact hle k hk0 hkn e2
    .rw [if_neg e2]
     refine h.1 k hk0 hkn ?_ e2
     omega
 .rw [hg,hg,if_neg (by omega),if_neg (by omega),hp,if_neg (by omega),if_pos rfl]
  have:=h.1 k hk0 hkn (by omega) (by omega)
  rwa [hkp] at this
theorem dn_end {xs:List X} {n i i0:Nat} (h:dnI xs n i i0) (hi0:i0<=i) (hl:n<=2*i+1\/¬ls (g xs (kid xs n i)) (g xs i)):(i=i0->upI xs n i0)/\(i≠i0->heap xs n):=by
 have key:∀ k,0<k->k<n->(k-1) / 2=i->¬ls (g xs k) (g xs i):=fun k hk0 hkn hkp=>by
  rcases hl with hl|hl
  .omega
  .exact nls_trans hl (kid_le xs n i k hk0 hkn hkp)
 refine ⟨fun e=>?_,fun e k hk0 hkn=>?_⟩
 .subst e
  refine ⟨fun k hk0 hkn hki=>?_,fun k hk0 hkn hkp hi=>h.2 k hk0 hkn hkp hi⟩
  by_cases e2:(k-1) / 2=i
  .rw [e2];exact key k hk0 hkn e2
  .exact h.1 k hk0 hkn (by omega) e2
 .by_cases e2:(k-1) / 2=i
  .rw [e2];exact key k hk0 hkn e2
  .exact h.1 k hk0 hkn (by omega) e2
theorem heap_top {xs:List X} {n:Nat} (h:heap xs n):∀ k,k<n->¬ls (g xs k) (g xs 0):=by
 intro k
 induction k using Nat.strongRecOn with
 | ind k ih =>
   intro hk
   rcases Nat.eq_zero_or_pos k with h0|h0
   .subst h0;exact ls_irrefl _
   .exact nls_trans (ih ((k-1) / 2) (by omega) (by omega)) (h k h0 hk)
theorem heap_mono {xs:List X} {n m:Nat} (h:heap xs n) (hm:m<=n):heap xs m:=fun k h0 hk=>h k h0 (by omega)
theorem heap_change {xs ys:List X} {n i:Nat} (h:heap xs n) (hi:i<n) (hg:∀ k,k<n->k≠i->g ys k=g xs k):dnI ys n i i:=by
 refine ⟨fun k hk0 hkn hki hkp=>?_,fun k hk0 hkn hkp hi0=>?_⟩
 .rw [hg k hkn (by omega),hg _ (by omega) hkp]
  exact h k hk0 hkn
 .rw [hg k hkn (by omega),hg _ (by omega) (by omega)]
  have h1:=h k hk0 hkn
  rw [hkp] at h1
  exact nls_trans (h i hi0 hi) h1
theorem heap_push {xs:List X} (x:X) (h:heap xs xs.length):upI (xs++[x]) (xs.length+1) xs.length:=by
 have hg:∀ k,k<xs.length->g (xs++[x]) k=g xs k:=fun k hk=>by simp [g,List.getElem?_append_left hk]
 refine ⟨fun k hk0 hkn hkj=>?_,fun k hk0 hkn hkp hi0=>by omega⟩
 rw [hg k (by omega),hg _ (by omega)]
 exact h k hk0 (by omega)
end Go.Proofs.YthkadehlclcggaaGreatDoor
namespace Go.Proofs.YthkadehlclcggaaGreatDoor
set_option linter.unusedSimpArgs false
set_option linter.unusedVariables false
open Go.RowKit
open Go.Lib (hid)
def ptr (b:Nat):Value:=.pointer (some ⟨b,0,none⟩)
def lsB (a b:TM):Bool:=decide (ah a b)
theorem lsB_lt {a1 i1 a2 i2:Int} (h:a1≠a2):decide (a1<a2)=lsB (a1,i1) (a2,i2):=by exact decide_eq_decide.2 ⟨fun q=>.inl q,fun q=>q.elim id fun q=>absurd q.1 h⟩
theorem lsB_eq {a i1 i2:Int}:decide (i1<i2)=lsB (a,i1) (a,i2):=by unfold lsB ah;rw [Bool.eq_iff_iff];simp
set_option maxHeartbeats 400000 in
theorem less_any (g n cap i j bi bj:Nat) (ai ii aj ij:Int) (w:World) (hi:i<n) (hj:j<n) (hn:n<=9223372036854775807)
 (c1:w.cell? ⟨g,i,none⟩=some (.pointer (some ⟨bi,0,none⟩))) (c2:w.cell? ⟨g,j,none⟩=some (.pointer (some ⟨bj,0,none⟩)))
 (d1:w.cell? ⟨bi,0,none⟩=some (.int .i64 ai)) (d2:w.cell? ⟨bi,1,none⟩=some (.int .i64 ii))
 (e1:w.cell? ⟨bj,0,none⟩=some (.int .i64 aj)) (e2:w.cell? ⟨bj,1,none⟩=some (.int .i64 ij)) :
 Calls Tryz.prog 192 #[.slice (some ⟨g,0,none⟩) n cap,.int .i64 i,.int .i64 j] w fun e w'=>e=.returned (.bool (lsB (ai,ii) (aj,ij)))/\∃ k,w'=w.drewN k:=by
 have hi0:(0:Int)<=i:=by omega
 have hj0:(0:Int)<=j:=by omega
 have hi1:(i:Int)<n:=by omega
 have hj1:(j:Int)<n:=by omega
 by_cases h:ai=aj
 .subst h
  have hb:(ai != ai)=false:=by simp
  go_enter Tryz.func192,Tryz.ntmps192
  go_wp2
  go_quiet (fail)
  go_wp2
  go_quiet (fail)
  go_wp2
  go_ret
  exact ⟨ret_bool lsB_eq,_,World.drewN_drewN _ _ _⟩
 .have hb:(ai != aj)=true:=by simpa using h
  have H:=hid h
  clear h
  go_enter Tryz.func192,Tryz.ntmps192
  go_wp2
  go_quiet (fail)
  go_wp2
  go_quiet (fail)
  go_wp2
  go_ret
  exact ⟨ret_bool (lsB_lt H.out),_,World.drewN_drewN _ _ _⟩
set_option maxHeartbeats 1000000 in
theorem swap_any (g n cap i j bi bj:Nat) (vi vj:Value) (w:World) (hi:i<n) (hj:j<n) (hij:i≠j) (hb:bi≠bj) (hgi:g≠bi) (hgj:g≠bj) (hn:n<=9223372036854775807)
 (c1:w.cell? ⟨g,i,none⟩=some (.pointer (some ⟨bi,0,none⟩))) (c2:w.cell? ⟨g,j,none⟩=some (.pointer (some ⟨bj,0,none⟩)))
 (f1:w.frozen? ⟨g,i,none⟩=false) (f2:w.frozen? ⟨g,j,none⟩=false)
 (d1:w.cell? ⟨bi,2,none⟩=some vi) (e1:w.cell? ⟨bj,2,none⟩=some vj) (f3:w.frozen? ⟨bi,2,none⟩=false) (f4:w.frozen? ⟨bj,2,none⟩=false) :
 Calls Tryz.prog 193 #[.slice (some ⟨g,0,none⟩) n cap,.int .i64 i,.int .i64 j] w fun e w'=>e=.returned (.tuple #[]) /\
  (w'.Alike ((((w.setCell ⟨g,i,none⟩ (.pointer (some ⟨bj,0,none⟩))).setCell ⟨g,j,none⟩ (.pointer (some ⟨bi,0,none⟩))).setCell ⟨bj,2,none⟩ (.int .i64 i)).setCell ⟨bi,2,none⟩ (.int .i64 j))/\w'.tape=w.tape):=by
 have hi0:(0:Int)<=i:=by omega
 have hj0:(0:Int)<=j:=by omega
 have hi1:(i:Int)<n:=by omega
 have hj1:(j:Int)<n:=by omega
 go_enter Tryz.func193,Tryz.ntmps193
 go_wp2
 go_region
 go_wp2
 go_region
 all_goals (go_end0;exact ⟨rfl,⟨rfl,rfl,rfl⟩,rfl⟩)
structure Hp (w:World) (p bm:Nat) (hv:Value) (xs:List X):Prop where
 top:Blk w p 167 #[hv,.map (some bm)]
 row:w.ownsRow 0 161 1 hv xs.length (xs.map fun x=>ptr x.1)
 its:∀ (i:Nat) (x:X),xs[i]?=some x->Blk w x.1 171 #[.int .i64 x.2.1,.int .i64 x.2.2,.int .i64 i]
 nd:(xs.map (·.1)).Nodup
def Foot (hv:Value) (xs:List X) (k:Nat):Prop:=hv.ownBlock=some k\/k∈xs.map (·.1)
theorem Foot.perm {hv:Value} {xs ys:List X} (h:ys.Perm xs) (k:Nat):Foot hv ys k->Foot hv xs k
 | .inl e=>.inl e
 | .inr e=>.inr (((h.map _).mem_iff).1 e)
section
variable {w w':World} {p bm:Nat} {hv:Value} {xs:List X}
theorem Hp.it (H:Hp w p bm hv xs) {i:Nat} (hi:i<xs.length):Blk w (g xs i).1 171 #[.int .i64 (g xs i).2.1,.int .i64 (g xs i).2.2,.int .i64 i]:=by
 have:=H.its i xs[i] (List.getElem?_eq_getElem hi)
 rwa [<-g_at hi] at this
theorem Hp.ne {i j:Nat} (H:Hp w p bm hv xs) (hi:i<xs.length) (hj:j<xs.length) (hij:i≠j):(g xs i).1≠(g xs j).1:=by
 rw [g_at hi,g_at hj]
 intro e
 have hn:=List.pairwise_iff_getElem.1 (List.nodup_iff_pairwise_ne.1 H.nd)
 rcases Nat.lt_or_gt_of_ne hij with h|h
 .exact hn i j (by simpa using hi) (by simpa using hj) h (by simpa using e)
 .exact hn j i (by simpa using hj) (by simpa using hi) h (by simpa using e.symm)
theorem Hp.form (H:Hp w p bm hv xs) (h:0<xs.length):∃ gb cap,hv=.slice (some ⟨gb,0,none⟩) xs.length cap/\cap<=maxLen/\xs.length<=cap:=by
 rcases H.row.2 with ⟨_,h0⟩|⟨gb,cap,cur,e,_,_,h1,h2,_⟩
 .omega
 .exact ⟨gb,cap,e,h2,h1⟩
theorem Hp.rowcell (H:Hp w p bm hv xs) {gb cap i:Nat} (e:hv=.slice (some ⟨gb,0,none⟩) xs.length cap) (hi:i<xs.length):w.cell? ⟨gb,i,none⟩=some (.pointer (some ⟨(g xs i).1,0,none⟩)):=by
 have:=World.ownsRow.cellAt (e▸H.row) i (by omega)
 rw [this,List.getElem?_map,List.getElem?_eq_getElem hi,g_at hi]
 rfl
theorem Hp.drewN (H:Hp w p bm hv xs) (n:Nat):Hp (w.drewN n) p bm hv xs:=⟨H.top,H.row,H.its,H.nd⟩
theorem Hp.fr {F:Nat->Prop} (H:Hp w p bm hv xs) (hb:Fr F w w') (h1:¬F p) (h2:∀ k,Foot hv xs k->¬F k):Hp w' p bm hv xs :=
 ⟨H.top.fr hb h1,own_fr H.row hb fun k hk=>h2 k (.inl hk),fun i x hx=>(H.its i x hx).fr hb (h2 _ (.inr (List.mem_map.2 ⟨x,List.mem_of_getElem? hx,rfl⟩))),H.nd⟩
theorem hless {i j:Nat} (H:Hp w p bm hv xs) (hi:i<xs.length) (hj:j<xs.length) :
 Calls Tryz.prog 192 #[hv,.int .i64 i,.int .i64 j] w fun e w'=>e=.returned (.bool (lsB (g xs i).2 (g xs j).2))/\∃ k,w'=w.drewN k:=by
 obtain ⟨gb,cap,e,hcap,hlen⟩:=H.form (by omega)
 have hml:xs.length<=9223372036854775807:=by unfold maxLen at hcap;omega
 have hi':=H.it hi
 have hj':=H.it hj
 have r1:=H.rowcell e hi
 have r2:=H.rowcell e hj
 subst e
 exact less_any gb xs.length cap i j _ _ _ _ _ _ w hi hj hml r1 r2 (hi'.cell 0) (hi'.cell 1) (hj'.cell 0) (hj'.cell 1)
theorem hswap {i j:Nat} (H:Hp w p bm hv xs) (hi:i<xs.length) (hj:j<xs.length) (hij:i≠j) :
 Calls Tryz.prog 193 #[hv,.int .i64 i,.int .i64 j] w fun e w'=>e=.returned (.tuple #[])/\Hp w' p bm hv (swapL xs i j)/\Fr (Foot hv xs) w w':=by
 obtain ⟨gb,cap,e,hcap,hlen⟩:=H.form (by omega)
 have hml:xs.length<=9223372036854775807:=by unfold maxLen at hcap;omega
 have hi':=H.it hi
 have hj':=H.it hj
 have r1:=H.rowcell e hi
 have r2:=H.rowcell e hj
 have hne:=H.ne hi hj hij
 have fi:(g xs i).1∈xs.map (·.1):=List.mem_map.2 ⟨g xs i,by rw [g_at hi];exact List.getElem_mem hi,rfl⟩
 have fj:(g xs j).1∈xs.map (·.1):=List.mem_map.2 ⟨g xs j,by rw [g_at hj];exact List.getElem_mem hj,rfl⟩
 subst e
 have ng:∀ {b:Nat} {cs:Array Value},Blk w b 171 cs->gb≠b:=fun hb e=>own_blk_ne H.row hb (by decide) (by rw [e];rfl)
 have np:∀ {b:Nat} {cs:Array Value},Blk w b 171 cs->p≠b:=fun hb=>Blk.ne_ H.top hb (by decide)
 have npg:p≠gb:=fun e=>own_blk_ne H.row H.top (by decide) (by rw [e];rfl)
 refine (swap_any gb xs.length cap i j _ _ _ _ w hi hj hij hne (ng hi') (ng hj') hml r1 r2 (World.ownsRow.frozenAt H.row i) (World.ownsRow.frozenAt H.row j) (hi'.cell 2) (hj'.cell 2) (hi'.frozen 2) (hj'.frozen 2)).mono fun e w' ⟨he,ha,ht⟩=>⟨he,?_,?_⟩
 .have row1:=(World.ownsRow.stored H.row i (.pointer (some ⟨(g xs j).1,0,none⟩))).1
  have row2:=(World.ownsRow.stored (n:=xs.length) row1 j (.pointer (some ⟨(g xs i).1,0,none⟩))).1
  have row3:=own_fr row2 ((Fr.refl (fun k=>k=(g xs j).1) _).set (p:=⟨(g xs j).1,2,none⟩) (fun _=>rfl) (.int .i64 i)) (fun k hk e=>by simp [Value.ownBlock] at hk;exact ng hj' (hk.trans e))
  have row4:=own_fr row3 ((Fr.refl (fun k=>k=(g xs i).1) _).set (p:=⟨(g xs i).1,2,none⟩) (fun _=>rfl) (.int .i64 j)) (fun k hk e=>by simp [Value.ownBlock] at hk;exact ng hi' (hk.trans e))
  refine ⟨?_,?_,?_,?_⟩
  .exact ((((H.top.far (p:=⟨gb,i,none⟩) npg _).far (p:=⟨gb,j,none⟩) npg _).far (p:=⟨(g xs j).1,2,none⟩) (np hj') _).far (p:=⟨(g xs i).1,2,none⟩) (np hi') _).alike ha
  .have:=own_alike row4 ha
   rw [swap_len]
   have e:(swapL xs i j).map (fun x=>ptr x.1)=((xs.map fun x=>ptr x.1).set i (.pointer (some ⟨(g xs j).1,0,none⟩))).set j (.pointer (some ⟨(g xs i).1,0,none⟩)):=by
    simp [swapL,List.map_set,ptr]
   rw [e];exact this
  .intro k x hx
   refine Blk.alike ?_ ha
   have hk:k<xs.length:=by have:=(List.getElem?_eq_some_iff.1 hx).1;rwa [swap_len] at this
   have hgx:x=g (swapL xs i j) k:=by rw [g_at (by rw [swap_len];exact hk)];exact ((List.getElem?_eq_some_iff.1 hx).2).symm
   rw [g_swap xs hi hj] at hgx
   by_cases hkj:k=j
   .subst hkj
    rw [if_pos rfl] at hgx
    subst hgx
    exact (((hi'.far (p:=⟨gb,i,none⟩) (ng hi').symm _).far (p:=⟨gb,k,none⟩) (ng hi').symm _).far (p:=⟨(g xs k).1,2,none⟩) hne _).set_ 2 _
   .rw [if_neg hkj] at hgx
    by_cases hki:k=i
    .subst hki
     rw [if_pos rfl] at hgx
     subst hgx
     exact (((hj'.far (p:=⟨gb,k,none⟩) (ng hj').symm _).far (p:=⟨gb,j,none⟩) (ng hj').symm _).set_ 2 _).far (p:=⟨(g xs k).1,2,none⟩) hne.symm _
    .rw [if_neg hki] at hgx
     subst hgx
     have hk':=H.it hk
     exact (((hk'.far (p:=⟨gb,i,none⟩) (ng hk').symm _).far (p:=⟨gb,j,none⟩) (ng hk').symm _).far (p:=⟨(g xs j).1,2,none⟩) (H.ne hk hj hkj) _).far (p:=⟨(g xs i).1,2,none⟩) (H.ne hk hi hki) _
  .exact (((swap_perm xs hi hj).map _).nodup_iff).2 H.nd
 .refine Fr.alike ?_ ha ht
  exact ((((Fr.refl _ w).set (p:=⟨gb,i,none⟩) (fun _=>.inl rfl) _).set (p:=⟨gb,j,none⟩) (fun _=>.inl rfl) _).set (p:=⟨(g xs j).1,2,none⟩) (fun _=>.inr fj) _).set (p:=⟨(g xs i).1,2,none⟩) (fun _=>.inr fi) _
end
theorem mLen:MethRow Tryz.prog 169 "Len" 191 false:=by unfold MethRow;kernel_rfl
theorem mLess:MethRow Tryz.prog 169 "Less" 192 false:=by unfold MethRow;kernel_rfl
theorem mSwap:MethRow Tryz.prog 169 "Swap" 193 false:=by unfold MethRow;kernel_rfl
theorem mPush:MethRow Tryz.prog 169 "Push" 195 true:=by unfold MethRow;kernel_rfl
theorem mPop:MethRow Tryz.prog 169 "Pop" 194 true:=by unfold MethRow;kernel_rfl
def UpPost (p bm:Nat) (hv:Value) (xs:List X) (n:Nat) (w:World) (e:Ending) (w':World):Prop :=
 e=.returned (.tuple #[])/\∃ ys:List X,ys.Perm xs/\heap ys n/\(∀ k,n<=k->g ys k=g xs k)/\Hp w' p bm hv ys/\Fr (Foot hv xs) w w'
def UpRel (p bm:Nat) (hv:Value) (xs:List X) (n:Nat) (w:World) (x:Value) (wr:World):Prop :=
 ∃ (j:Nat) (ys:List X),x=.int .i64 j/\j<n/\ys.Perm xs/\upI ys n j/\(∀ k,n<=k->g ys k=g xs k)/\Hp wr p bm hv ys/\Fr (Foot hv xs) w wr
theorem hless' {w:World} {p bm:Nat} {hv:Value} {xs:List X} {i j:Nat} {a b:Int} (H:Hp w p bm hv xs) (hi:i<xs.length) (hj:j<xs.length) (ha:a=i) (hb:b=j) (r:Bool) (hr:lsB (g xs i).2 (g xs j).2=r) :
 Calls Tryz.prog 192 #[hv,.int .i64 a,.int .i64 b] w fun e w'=>e=.returned (.bool r)/\∃ k,w'=w.drewN k:=by
 subst ha hb hr;exact hless H hi hj
theorem hswap' {w:World} {p bm:Nat} {hv:Value} {xs:List X} {i j:Nat} {a b:Int} (H:Hp w p bm hv xs) (hi:i<xs.length) (hj:j<xs.length) (hij:i≠j) (ha:a=i) (hb:b=j) :
 Calls Tryz.prog 193 #[hv,.int .i64 a,.int .i64 b] w fun e w'=>e=.returned (.tuple #[])/\Hp w' p bm hv (swapL xs i j)/\Fr (Foot hv xs) w w':=by
 subst ha hb;exact hswap H hi hj hij
theorem g_tail {xs:List X} {i j n:Nat} (hi:i<xs.length) (hj:j<xs.length) (hin:i<n) (hjn:j<n) (k:Nat) (hk:n<=k):g (swapL xs i j) k=g xs k:=by
 rw [g_swap xs hi hj,if_neg (by omega),if_neg (by omega)]
theorem lsB_tt {a b:X} (h:ls a b):lsB a.2 b.2=true:=decide_eq_true h
theorem lsB_ff {a b:X} (h:¬ls a b):lsB a.2 b.2=false:=decide_eq_false h
set_option maxHeartbeats 1000000 in
theorem up_any (p bm n j:Nat) (hv:Value) (xs:List X) (w:World) (H:Hp w p bm hv xs) (hn:n<=xs.length) (hj:j<n) (hmax:xs.length<=100000) (hu:upI xs n j) :
 Calls Tryz.prog 129 #[.iface 169 (.pointer (some ⟨p,0,none⟩)),.int .i64 j] w (UpPost p bm hv xs n w):=by
 have hm1:=fun (k:Nat) (hk:0<k) (W:World)=>run_method_val mLess Tryz.underlying169 Tryz.underlying164 ⟨p,0,none⟩ k hk W
 have hm2:=fun (k:Nat) (hk:0<k) (W:World)=>run_method_val mSwap Tryz.underlying169 Tryz.underlying164 ⟨p,0,none⟩ k hk W
 go_enter Tryz.func129,Tryz.ntmps129
 go_wp2
 go_loopw [1] (fun x wr=>UpRel p bm hv xs n w x wr) (fun x _=>(intOf x).toNat)
 case atStart=>exact ⟨j,xs,rfl,hj,List.Perm.refl _,hu,fun _ _=>rfl,H,Fr.refl _ _⟩
 case round =>
  obtain ⟨j,ys,rfl,hj,hp,hu,ht,H,hf⟩:=hrel
  have hly:=hp.length_eq
  rcases j with _|q
  .have HU:=hid (up_end hu (.inl rfl))
   go_wp2
   go_end0
   exact ⟨rfl,ys,hp,HU.out,ht,H,hf⟩
  .have hne:(((q:Int) / 2) == (q:Int)+1)=false:=by rw [beq_eq_false_iff_ne];omega
   have hc0:=H.top.cell 0
   have hqp:(q+1-1) / 2=q / 2:=by omega
   have HT:=hid ht
   have HUU:=hid hu
   clear ht hu
   by_cases hl:ls (g ys (q+1)) (g ys (q / 2))
   .have HS:=hid (up_step (by omega) hj (by omega) HUU.out (by rw [hqp];exact hl))
    have HB:=hid (lsB_tt hl)
    clear hl
    rw [hqp] at HS
    go_wp2_with fail
    refine (hless' H (i:=q+1) (j:=q / 2) (by omega) (by omega) (by omega) (by omega) _ HB.out).mono ?_
    rintro e w1 ⟨rfl,n1,rfl⟩
    have H1:=H.drewN n1
    have hc1:=H1.top.cell 0
    go_wp2_with fail
    refine (hswap' H1 (i:=q / 2) (j:=q+1) (by omega) (by omega) (by omega) (by omega) (by omega)).mono ?_
    rintro e w2 ⟨rfl,H2,hf2⟩
    go_wp2
    go_roundw
    case rel =>
     refine ⟨q / 2,swapL ys (q / 2) (q+1),int_eq (by omega),by omega,(swap_perm ys (by omega) (by omega)).trans hp,HS.out,fun k hk=>?_,H2,(hf.drewN n1).trans hf2 fun k _ q=>q.perm hp k⟩
     rw [g_tail (n:=n) (by omega) (by omega) (by omega) (by omega) k hk];exact HT.out k hk
    case measure=>simp [intOf] <;> omega
   .have HE:=hid (up_end HUU.out (.inr (by rw [hqp];exact hl)))
    have HB:=hid (lsB_ff hl)
    clear hl
    go_wp2_with fail
    refine (hless' H (i:=q+1) (j:=q / 2) (by omega) (by omega) (by omega) (by omega) _ HB.out).mono ?_
    rintro e w1 ⟨rfl,n1,rfl⟩
    go_wp2
    go_end0
    exact ⟨rfl,ys,hp,HE.out,HT.out,H.drewN n1,hf.drewN n1⟩
def DownPost (p bm:Nat) (hv:Value) (xs:List X) (n i0:Nat) (w:World) (e:Ending) (w':World):Prop :=
 ∃ (b:Bool) (ys:List X),e=.returned (.bool b)/\ys.Perm xs/\(b=true->heap ys n)/\(b=false->upI ys n i0)/\(∀ k,n<=k->g ys k=g xs k)/\Hp w' p bm hv ys/\Fr (Foot hv xs) w w'
def DownRel (p bm:Nat) (hv:Value) (xs:List X) (n i0:Nat) (w:World) (x:Value) (wr:World):Prop :=
 ∃ (i:Nat) (ys:List X),x=.int .i64 i/\i0<=i/\i<n/\ys.Perm xs/\dnI ys n i i0/\(∀ k,n<=k->g ys k=g xs k)/\Hp wr p bm hv ys/\Fr (Foot hv xs) w wr
theorem downPost_of {p bm:Nat} {hv:Value} {xs ys:List X} {n i i0:Nat} {w w':World} (h:dnI ys n i i0) (hi:i0<=i) (hl:n<=2*i+1\/¬ls (g ys (kid ys n i)) (g ys i)) (hp:ys.Perm xs) (ht:∀ k,n<=k->g ys k=g xs k) (H:Hp w' p bm hv ys) (hf:Fr (Foot hv xs) w w') :
 DownPost p bm hv xs n i0 w (.returned (.bool (decide (i0<i)))) w':=by
 obtain ⟨h1,h2⟩:=dn_end h hi hl
 exact ⟨_,ys,rfl,hp,fun e=>h2 (by simp at e;omega),fun e=>h1 (by simp at e;omega),ht,H,hf⟩
set_option maxHeartbeats 2000000 in
theorem down_any (p bm n i0:Nat) (hv:Value) (xs:List X) (w:World) (H:Hp w p bm hv xs) (hn:n<=xs.length) (hj:i0<n) (hmax:xs.length<=100000) (hu:dnI xs n i0 i0) :
 Calls Tryz.prog 128 #[.iface 169 (.pointer (some ⟨p,0,none⟩)),.int .i64 i0,.int .i64 n] w (DownPost p bm hv xs n i0 w):=by
 have hm1:=fun (k:Nat) (hk:0<k) (W:World)=>run_method_val mLess Tryz.underlying169 Tryz.underlying164 ⟨p,0,none⟩ k hk W
 have hm2:=fun (k:Nat) (hk:0<k) (W:World)=>run_method_val mSwap Tryz.underlying169 Tryz.underlying164 ⟨p,0,none⟩ k hk W
 go_enter Tryz.func128,Tryz.ntmps128
 go_wp2
 go_loopw [7] (fun x wr=>DownRel p bm hv xs n i0 w x wr) (fun x _=>n-(intOf x).toNat)
 case atStart=>exact ⟨i0,xs,rfl,Nat.le_refl _,hj,List.Perm.refl _,hu,fun _ _=>rfl,H,Fr.refl _ _⟩
 case round =>
  obtain ⟨i,ys,rfl,hi0,hin,hp,hu,ht,H,hf⟩:=hrel
  have hly:=hp.length_eq
  have hc0:=H.top.cell 0
  by_cases hA:n<=2*i+1
  .have HU:=hid (downPost_of hu hi0 (.inl hA) hp ht H hf)
   clear hu ht
   go_wp2
   go_ret
   exact HU.out
  .have HT:=hid ht
   have HUU:=hid hu
   have hkb:=kid_bd ys n i (by omega)
   clear ht hu
   have hcase:(2*i+2<n/\ls (g ys (2*i+2)) (g ys (2*i+1))/\kid ys n i=2*i+2)\/(2*i+2<n/\¬ls (g ys (2*i+2)) (g ys (2*i+1))/\kid ys n i=2*i+1)\/(n<=2*i+2/\kid ys n i=2*i+1):=by
    by_cases h1:2*i+2<n
    .by_cases h2:ls (g ys (2*i+2)) (g ys (2*i+1))
     .exact .inl ⟨h1,h2,by unfold kid;rw [if_pos ⟨h1,h2⟩]⟩
     .exact .inr (.inl ⟨h1,h2,by unfold kid;rw [if_neg (fun q=>h2 q.2)]⟩)
    .exact .inr (.inr ⟨by omega,by unfold kid;rw [if_neg (fun q=>h1 q.1)]⟩)
   obtain ⟨kd,hkd⟩:∃ kd,kd=kid ys n i:=⟨_,rfl⟩
   rw [<-hkd] at hkb hcase
   have HKD:=hid hkd
   clear hkd
   have hstep:ls (g ys kd) (g ys i)->dnI (swapL ys i kd) n kd i0:=fun hl=>by
    have:=dn_step (by omega) hi0 (by omega) HUU.out (by rw [<-HKD.out];exact hl)
    rwa [<-HKD.out] at this
   have hend:¬ls (g ys kd) (g ys i)->∀ w',Hp w' p bm hv ys->Fr (Foot hv xs) w w'->DownPost p bm hv xs n i0 w (.returned (.bool (decide (i0<i)))) w':=fun hl w' H' hf' =>
    downPost_of HUU.out hi0 (.inr (by rw [<-HKD.out];exact hl)) hp HT.out H' hf'
   have HS:=hid hstep
   have HE:=hid hend
   clear hstep hend HUU HKD
   rcases hcase with ⟨h1,h2,hk⟩|⟨h1,h2,hk⟩|⟨h1,hk⟩
   .have HB:=hid (lsB_tt h2)
    clear h2
    subst hk
    go_wp2_with fail
    refine (hless' H (i:=2*i+2) (j:=2*i+1) (by omega) (by omega) (by omega) (by omega) _ HB.out).mono ?_
    rintro e w1 ⟨rfl,n1,rfl⟩
    have H1:=H.drewN n1
    have hf1:=hf.drewN n1
    have hc1:=H1.top.cell 0
    by_cases hl:ls (g ys (2*i+2)) (g ys i)
    .have HL:=hid hl
     clear hl
     go_wp2_with fail
     refine (hless' H1 (i:=2*i+2) (j:=i) (by omega) (by omega) (by omega) (by omega) _ (lsB_tt HL.out)).mono ?_
     rintro e w1 ⟨rfl,n2,rfl⟩
     have H2:=H.drewN (n1+n2)
     have hf2:=hf.drewN (n1+n2)
     have hc2:=H2.top.cell 0
     go_wp2_with fail
     refine (hswap' H2 (i:=i) (j:=2*i+2) (by omega) (by omega) (by omega) (by omega) (by omega)).mono ?_
     rintro e w2 ⟨rfl,H3,hf3⟩
     go_wp2
     go_roundw
     case rel =>
      refine ⟨2*i+2,swapL ys i (2*i+2),int_eq (by omega),by omega,by omega,(swap_perm ys (by omega) (by omega)).trans hp,HS.out HL.out,fun k hk=>?_,H3,hf2.trans hf3 fun k _ q=>q.perm hp k⟩
      rw [g_tail (n:=n) (by omega) (by omega) (by omega) (by omega) k hk];exact HT.out k hk
     case measure=>simp [intOf] <;> omega
    .have HL:=hid hl
     clear hl
     go_wp2_with fail
     refine (hless' H1 (i:=2*i+2) (j:=i) (by omega) (by omega) (by omega) (by omega) _ (lsB_ff HL.out)).mono ?_
     rintro e w1 ⟨rfl,n2,rfl⟩
     go_wp2
     go_ret
     exact HE.out HL.out _ (H.drewN (n1+n2)) (hf.drewN (n1+n2))
   .have HB:=hid (lsB_ff h2)
    clear h2
    subst hk
    go_wp2_with fail
    refine (hless' H (i:=2*i+2) (j:=2*i+1) (by omega) (by omega) (by omega) (by omega) _ HB.out).mono ?_
    rintro e w1 ⟨rfl,n1,rfl⟩
    have H1:=H.drewN n1
    have hf1:=hf.drewN n1
    have hc1:=H1.top.cell 0
    by_cases hl:ls (g ys (2*i+1)) (g ys i)
    .have HL:=hid hl
     clear hl
     go_wp2_with fail
     refine (hless' H1 (i:=2*i+1) (j:=i) (by omega) (by omega) (by omega) (by omega) _ (lsB_tt HL.out)).mono ?_
     rintro e w1 ⟨rfl,n2,rfl⟩
     have H2:=H.drewN (n1+n2)
     have hf2:=hf.drewN (n1+n2)
     have hc2:=H2.top.cell 0
     go_wp2_with fail
     refine (hswap' H2 (i:=i) (j:=2*i+1) (by omega) (by omega) (by omega) (by omega) (by omega)).mono ?_
     rintro e w2 ⟨rfl,H3,hf3⟩
     go_wp2
     go_roundw
     case rel =>
      refine ⟨2*i+1,swapL ys i (2*i+1),int_eq (by omega),by omega,by omega,(swap_perm ys (by omega) (by omega)).trans hp,HS.out HL.out,fun k hk=>?_,H3,hf2.trans hf3 fun k _ q=>q.perm hp k⟩
      rw [g_tail (n:=n) (by omega) (by omega) (by omega) (by omega) k hk];exact HT.out k hk
     case measure=>simp [intOf] <;> omega
    .have HL:=hid hl
     clear hl
     go_wp2_with fail
     refine (hless' H1 (i:=2*i+1) (j:=i) (by omega) (by omega) (by omega) (by omega) _ (lsB_ff HL.out)).mono ?_
     rintro e w1 ⟨rfl,n2,rfl⟩
     go_wp2
     go_ret
     exact HE.out HL.out _ (H.drewN (n1+n2)) (hf.drewN (n1+n2))
   .subst hk
    by_cases hl:ls (g ys (2*i+1)) (g ys i)
    .have HL:=hid hl
     clear hl
     go_wp2_with fail
     refine (hless' H (i:=2*i+1) (j:=i) (by omega) (by omega) (by omega) (by omega) _ (lsB_tt HL.out)).mono ?_
     rintro e w1 ⟨rfl,n2,rfl⟩
     have H2:=H.drewN n2
     have hf2:=hf.drewN n2
     have hc2:=H2.top.cell 0
     go_wp2_with fail
     refine (hswap' H2 (i:=i) (j:=2*i+1) (by omega) (by omega) (by omega) (by omega) (by omega)).mono ?_
     rintro e w2 ⟨rfl,H3,hf3⟩
     go_wp2
     go_roundw
     case rel =>
      refine ⟨2*i+1,swapL ys i (2*i+1),int_eq (by omega),by omega,by omega,(swap_perm ys (by omega) (by omega)).trans hp,HS.out HL.out,fun k hk=>?_,H3,hf2.trans hf3 fun k _ q=>q.perm hp k⟩
      rw [g_tail (n:=n) (by omega) (by omega) (by omega) (by omega) k hk];exact HT.out k hk
     case measure=>simp [intOf] <;> omega
    .have HL:=hid hl
     clear hl
     go_wp2_with fail
     refine (hless' H (i:=2*i+1) (j:=i) (by omega) (by omega) (by omega) (by omega) _ (lsB_ff HL.out)).mono ?_
     rintro e w1 ⟨rfl,n2,rfl⟩
     go_wp2
     go_ret
     exact HE.out HL.out _ (H.drewN n2) (hf.drewN n2)
theorem e161i:ElemInfo Tryz.prog 161 1 8 (.pointer none):=ElemInfo.mk' (by kernel_rfl)
theorem hlen_any (A:Option Addr) (n c:Nat) (w:World):Calls Tryz.prog 191 #[.slice A n c] w fun e w'=>e=.returned (.int .i64 n)/\w=w':=by
 go_enter Tryz.func191,Tryz.ntmps191
 go_wp2
 go_ret
 exact ⟨rfl,rfl⟩
theorem Hp.form0 {w:World} {p bm:Nat} {hv:Value} {xs:List X} (H:Hp w p bm hv xs):∃ A cap,hv=.slice A xs.length cap:=by
 rcases H.row.2 with ⟨e,h0⟩|⟨gb,cap,cur,e,_⟩
 .exact ⟨none,0,by rw [e,h0]⟩
 .exact ⟨_,_,e⟩
theorem hlen {w:World} {p bm:Nat} {hv:Value} {xs:List X} (H:Hp w p bm hv xs):Calls Tryz.prog 191 #[hv] w fun e w'=>e=.returned (.int .i64 xs.length)/\w=w':=by
 obtain ⟨A,cap,e⟩:=H.form0
 rw [e]
 exact hlen_any A _ cap w
set_option maxHeartbeats 1000000 in
theorem fix_any (p bm i:Nat) (hv:Value) (xs:List X) (w:World) (H:Hp w p bm hv xs) (hi:i<xs.length) (hmax:xs.length<=100000) (hu:dnI xs xs.length i i) :
 Calls Tryz.prog 105 #[.iface 169 (.pointer (some ⟨p,0,none⟩)),.int .i64 i] w (UpPost p bm hv xs xs.length w):=by
 have hm1:=fun (k:Nat) (hk:0<k) (W:World)=>run_method_val mLen Tryz.underlying169 Tryz.underlying164 ⟨p,0,none⟩ k hk W
 have hc0:=H.top.cell 0
 have HU:=hid hu
 clear hu
 go_enter Tryz.func105,Tryz.ntmps105
 go_wp2_with fail
 refine (hlen H).mono ?_
 rintro e w1 ⟨rfl,rfl⟩
 go_wp2_with fail
 refine (down_any p bm xs.length i hv xs _ H (Nat.le_refl _) hi hmax HU.out).mono ?_
 rintro e w1 ⟨b,ys,rfl,hp,h1,h2,ht,H1,hf⟩
 have HT:=hid ht
 clear ht
 cases b
 .have H2:=hid (h2 rfl)
  clear h1 h2
  go_wp2_with fail
  refine (up_any p bm xs.length i hv ys _ H1 (by rw [hp.length_eq];exact Nat.le_refl _) hi (by rw [hp.length_eq];exact hmax) H2.out).mono ?_
  rintro e w2 ⟨rfl,zs,hp2,hh,ht2,H3,hf2⟩
  have HT2:=hid ht2
  clear ht2
  go_wp2
  go_end0
  exact ⟨rfl,zs,hp2.trans hp,hh,fun k hk=>(HT2.out k hk).trans (HT.out k hk),H3,hf.trans hf2 fun k _ q=>q.perm hp k⟩
 .have HH:=hid (h1 rfl)
  clear h1 h2
  go_wp2
  go_end0
  exact ⟨rfl,ys,hp,HH.out,HT.out,H1,hf⟩
theorem take_own {w:World} {gb cap n:Nat} {e:TypeId} {xs:List Value} (h:w.ownsRow 0 e 1 (.slice (some ⟨gb,0,none⟩) (n+1) cap) (n+1) xs):w.ownsRow 0 e 1 (.slice (some ⟨gb,0,none⟩) n cap) n (xs.take n):=by
 have hl:=h.1
 rcases h.2 with ⟨e,_⟩|⟨g',cap',cur,e,h1,h2,h3,h4,h5,h6⟩
 .cases e
 .simp only [Value.slice.injEq,Option.some.injEq,Addr.mk.injEq,and_true,true_and] at e
  obtain ⟨rfl,rfl⟩:=e
  refine ⟨by rw [List.length_take];omega,.inr ⟨gb,cap,cur,rfl,h1,h2,by omega,h4,h5,?_⟩⟩
  rw [<-h6,List.take_take]
  congr 1
  omega
def PopPost (p bm:Nat) (hv:Value) (xs:List X) (n:Nat) (w:World) (e:Ending) (w':World):Prop :=
 e=.returned (.iface 161 (.pointer (some ⟨(g xs n).1,0,none⟩)))/\∃ hv',hv'.ownBlock=hv.ownBlock/\Hp w' p bm hv' (xs.take n)/\Fr (fun k=>k=p) w w'
set_option maxHeartbeats 1000000 in
theorem pop_any (p bm n:Nat) (hv:Value) (xs:List X) (w:World) (H:Hp w p bm hv xs) (hn:xs.length=n+1) (hmax:xs.length<=100000) :
 Calls Tryz.prog 194 #[.pointer (some ⟨p,0,none⟩)] w (PopPost p bm hv xs n w):=by
 obtain ⟨gb,cap,e,hcap,hlen⟩:=H.form (by omega)
 have hc:=H.top.cell 0
 have hfz:=H.top.frozen 0
 have hr:=H.rowcell e (i:=n) (by omega)
 have hmc:cap<=9223372036854775807:=by unfold maxLen at hcap;omega
 have HP:∀ w':World,w'.Alike (w.setCell ⟨p,0,none⟩ (.slice (some ⟨gb,0,none⟩) n cap))->w'.tape=w.tape->∃ hv',hv'.ownBlock=hv.ownBlock/\Hp w' p bm hv' (xs.take n)/\Fr (fun k=>k=p) w w':=by
  intro w' ha ht
  have hlt:(xs.take n).length=n:=by rw [List.length_take];omega
  have hfr:Fr (fun k=>k=p) w w':=Fr.alike ((Fr.refl (fun k=>k=p) w).set (p:=⟨p,0,none⟩) (fun _=>rfl) _) ha ht
  refine ⟨.slice (some ⟨gb,0,none⟩) n cap,by rw [e];rfl,⟨?_,?_,?_,?_⟩,hfr⟩
  .exact Blk.alike (H.top.set_ 0 _) ha
  .have h1:=H.row
   rw [e,hn] at h1
   have h2:=take_own h1
   rw [hlt,List.map_take]
   exact own_fr h2 hfr fun k hk hkp=>by
    subst hkp
    exact own_blk_ne H.row H.top (by decide) (by rw [e];exact hk)
  .intro i x hx
   have hx':xs[i]?=some x:=by
    rw [List.getElem?_take] at hx
    split at hx
    .exact hx
    .cases hx
   exact (H.its i x hx').fr hfr fun e=>(H.its i x hx').ne_ H.top (by decide) e
  .rw [List.map_take]
   exact List.Nodup.sublist (List.take_sublist _ _) H.nd
 have HPP:=hid HP
 clear HP
 have hlen1:(xs.length:Int)=n+1:=by omega
 subst e
 rw [hn] at hc
 have hnc:(n:Int)<=cap:=by omega
 have hc0:¬cap=0:=by omega
 have hw:IntKind.i64.wrap (n:Int)=n:=IntWalk.i64_in _ (by omega)
 have HN:=hid hn
 clear hn hlen1
 have hn0:(0:Int)<=n:=by omega
 have hn1:(n:Int)<n+1:=by omega
 go_enter Tryz.func194,Tryz.ntmps194
 go_wp2
 go_quiet (fail)
 go_wp2
 go_region
 go_wp2
 go_ret
 exact ⟨rfl,HPP.out _ ⟨rfl,rfl,rfl⟩ rfl⟩
theorem own_some {w:World} {base:Nat} {e:TypeId} {n:Nat} {v:Value} {xs:List Value} (h:w.ownsRow base e 1 v n xs) (hn:0<n):∃ gb cap,v=.slice (some ⟨gb,0,none⟩) n cap:=by
 rcases h.2 with ⟨_,h0⟩|⟨gb,cap,cur,e,_⟩
 .omega
 .exact ⟨gb,cap,e⟩
def PushPost (p bm:Nat) (hv:Value) (xs:List X) (b:Nat) (tm:TM) (w:World) (e:Ending) (w':World):Prop :=
 e=.returned (.tuple #[])/\∃ hv',(hv'.ownBlock=hv.ownBlock\/∃ gb,hv'.ownBlock=some gb/\w.heap.size<=gb)/\Hp w' p bm hv' (xs++[(b,tm)])/\Fr (fun k=>k=p\/Foot hv xs k\/k=b) w w'
set_option maxHeartbeats 1000000 in
theorem push_any (p bm b:Nat) (hv:Value) (xs:List X) (tm:TM) (i0:Value) (w:World) (H:Hp w p bm hv xs) (hmax:xs.length<=100000)
 (hb:Blk w b 171 #[.int .i64 tm.1,.int .i64 tm.2,i0]) (hnew:b∉xs.map (·.1)) :
 Calls Tryz.prog 195 #[.pointer (some ⟨p,0,none⟩),.iface 161 (.pointer (some ⟨b,0,none⟩))] w (PushPost p bm hv xs b tm w):=by
 obtain ⟨A,cap,e⟩:=H.form0
 have hc:=H.top.cell 0
 have hfz:=H.top.frozen 0
 have hbc:=hb.cell 2
 have hbf:=hb.frozen 2
 have hpb:p≠b:=H.top.ne_ hb (by decide)
 have hown:=own_fr H.row ((Fr.refl (fun k=>k=b) w).set (p:=⟨b,2,none⟩) (fun _=>rfl) (.int .i64 xs.length)) (fun k hk hkb=>by subst hkb;exact own_blk_ne H.row hb (by decide) hk)
 have hta:=fun (v:Value) (W:World)=>run_typeAssert_same (P:=Tryz.prog) (x:=20) Tryz.underlying161 v W
 have HK:Hid (∀ (u:World) (row:Option Nat),(w.setCell ⟨b,2,none⟩ (.int .i64 xs.length)).grownBy u row->row=hv.ownBlock->Blk u p 167 #[hv,.map (some bm)]):=hid (fun u row hg hr=>by
  have h1:=H.top.far (p:=⟨b,2,none⟩) hpb (.int .i64 xs.length)
  exact (hg.block p h1.lt (fun e=>own_blk_ne H.row H.top (by decide) (by rw [<-hr,<-e]))).trans h1)
 have HQ:Hid (∀ (u:World) (v1:Value) (gb1 cap1:Nat),u.ownsRow 0 161 1 v1 (xs.length+1) ((xs.map fun x=>ptr x.1)++[ptr b])->(w.setCell ⟨b,2,none⟩ (.int .i64 xs.length)).grownBy u hv.ownBlock ->
  (v1.ownBlock=hv.ownBlock\/∃ gg,v1.ownBlock=some gg/\(w.setCell ⟨b,2,none⟩ (.int .i64 xs.length)).heap.size<=gg)->v1=.slice (some ⟨gb1,0,none⟩) (xs.length+1) cap1 ->
  ∃ hv',(hv'.ownBlock=hv.ownBlock\/∃ gb,hv'.ownBlock=some gb/\w.heap.size<=gb)/\Hp (u.setCell ⟨p,0,none⟩ (.slice (some ⟨gb1,0,none⟩) (xs.length+1) cap1)) p bm hv' (xs++[(b,tm)])/\Fr (fun k=>k=p\/Foot hv xs k\/k=b) w (u.setCell ⟨p,0,none⟩ (.slice (some ⟨gb1,0,none⟩) (xs.length+1) cap1))):=hid (by
  intro u v1 gb1 cap1 ho hg hat hv1
  have hfr1:Fr (fun k=>k=p\/Foot hv xs k\/k=b) w u:=((Fr.refl _ w).set (p:=⟨b,2,none⟩) (fun _=>.inr (.inr rfl)) (.int .i64 xs.length)).trans (Fr.of_grown (F:=fun k=>hv.ownBlock=some k) hg (fun k hk=>hk)) (fun k _ e=>.inr (.inl (.inl e)))
  have hpu:=HK.out u _ hg rfl
  have hfr2:Fr (fun k=>k=p\/Foot hv xs k\/k=b) w (u.setCell ⟨p,0,none⟩ (.slice (some ⟨gb1,0,none⟩) (xs.length+1) cap1)):=hfr1.set (p:=⟨p,0,none⟩) (fun _=>.inl rfl) _
  have hset:Fr (fun k=>k=p) u (u.setCell ⟨p,0,none⟩ (.slice (some ⟨gb1,0,none⟩) (xs.length+1) cap1)):=(Fr.refl (fun k=>k=p) u).set (p:=⟨p,0,none⟩) (fun _=>rfl) _
  refine ⟨v1,?_,⟨?_,?_,?_,?_⟩,hfr2⟩
  .rcases hat with e|⟨gg,e1,e2⟩
   .exact .inl e
   .exact .inr ⟨gg,e1,by simpa [World.setCell] using e2⟩
  .rw [hv1];exact hpu.set_ 0 _
  .have:=own_fr ho hset (fun k hk hkp=>by subst hkp;exact own_blk_ne ho hpu (by decide) hk)
   simpa using this
  .intro i x hx
   have hnp:∀ {k:Nat} {cs:Array Value},Blk u k 171 cs->¬(k=p):=fun h e=>by subst e;exact (h.ne_ hpu (by decide)) rfl
   rcases Nat.lt_trichotomy i xs.length with hi|hi|hi
   .rw [List.getElem?_append_left hi] at hx
    have hbx:b≠x.1:=fun e=>hnew (List.mem_map.2 ⟨x,List.mem_of_getElem? hx,e.symm⟩)
    have h1:=(H.its i x hx).far (p:=⟨b,2,none⟩) hbx.symm (.int .i64 xs.length)
    have h2:Blk u x.1 171 #[.int .i64 x.2.1,.int .i64 x.2.2,.int .i64 i]:=(hg.block x.1 h1.lt (fun e=>own_blk_ne H.row (H.its i x hx) (by decide) e.symm)).trans h1
    exact h2.fr hset (hnp h2)
   .subst hi
    simp at hx
    subst hx
    have h1:=hb.set_ 2 (.int .i64 xs.length)
    have h2:Blk u b 171 _:=(hg.block b h1.lt (fun e=>own_blk_ne H.row hb (by decide) e.symm)).trans h1
    exact h2.fr hset (hnp h2)
   .rw [List.getElem?_eq_none (by simp;omega)] at hx
    cases hx
  .rw [List.map_append]
   exact List.nodup_append.2 ⟨H.nd,by simp,fun a ha c hc=>by simp at hc;subst hc;exact fun e=>hnew (e▸ha)⟩)
 clear H
 subst e
 go_enter Tryz.func195,Tryz.ntmps195
 go_wp2_with (at_builtin;go_must (refine wpList_app1' rfl (.tmp 17) (.tmp 19) 164 rfl 0 161 1 8 _ Tryz.underlying164 e161i rfl (by omega) _ _ _ rfl hown [_] _ rfl (by simp) rfl (by simp [Value.oneCell']) (by unfold maxLen;omega) (by omega) (by simp) ?_);intro v1 w1 hown1 hb1 hg1 hat1;have hv1:=own_some hown1 (by omega);have hc1:=(HK.out _ _ hg1 rfl).cell 0;have hf1:=(HK.out _ _ hg1 rfl).frozen 0;obtain ⟨gb1,cap1,hv1⟩:=hv1;rw [hv1])
 go_end0
 exact ⟨rfl,HQ.out w1 v1 gb1 cap1 hown1 hg1 hat1 hv1⟩
def HPushPost (p bm:Nat) (hv:Value) (xs:List X) (x:X) (w:World) (e:Ending) (w':World):Prop :=
 e=.returned (.tuple #[])/\∃ hv' ys,(hv'.ownBlock=hv.ownBlock\/∃ gb,hv'.ownBlock=some gb/\w.heap.size<=gb)/\ys.Perm (xs++[x])/\heap ys (xs.length+1)/\Hp w' p bm hv' ys/\Fr (fun k=>k=p\/Foot hv xs k\/k=x.1) w w'
set_option maxHeartbeats 1000000 in
theorem hpush_any (p bm b:Nat) (hv:Value) (xs:List X) (tm:TM) (i0:Value) (w:World) (H:Hp w p bm hv xs) (hmax:xs.length<=50000) (hh:heap xs xs.length)
 (hb:Blk w b 171 #[.int .i64 tm.1,.int .i64 tm.2,i0]) (hnew:b∉xs.map (·.1)) :
 Calls Tryz.prog 106 #[.iface 169 (.pointer (some ⟨p,0,none⟩)),.iface 161 (.pointer (some ⟨b,0,none⟩))] w (HPushPost p bm hv xs (b,tm) w):=by
 have hm1:=fun (k:Nat) (hk:0<k) (W:World)=>run_method_val mLen Tryz.underlying169 Tryz.underlying164 ⟨p,0,none⟩ k hk W
 have hm2:=fun (k:Nat) (hk:0<k) (W:World)=>run_method_ptr mPush Tryz.underlying169 ⟨p,0,none⟩ k hk W
 have hc0:=H.top.cell 0
 have hlen1:(xs++[(b,tm)]).length=xs.length+1:=by simp
 have HL:=hid hlen1
 have HU:=hid (heap_push (b,tm) hh)
 clear hlen1 hh
 go_enter Tryz.func106,Tryz.ntmps106
 go_wp2_with fail
 refine (push_any p bm b hv xs tm i0 w H (by omega) hb hnew).mono ?_
 rintro e w1 ⟨rfl,hv1,hat,H1,hf⟩
 have hc1:=H1.top.cell 0
 go_wp2_with fail
 refine (hlen H1).mono ?_
 rintro e w2 ⟨rfl,rfl⟩
 rw [HL.out]
 go_wp2_with fail
 refine (up_any p bm (xs.length+1) xs.length hv1 _ _ H1 (by rw [HL.out];exact Nat.le_refl _) (by omega) (by rw [HL.out];omega) HU.out).mono ?_
 rintro e w2 ⟨rfl,ys,hp,hh,_,H2,hf2⟩
 go_wp2
 go_end0
 refine ⟨rfl,hv1,ys,hat,hp,hh,H2,hf.trans hf2 fun k hk q=>?_⟩
 rcases q with q|q
 .rcases hat with e|⟨gb,e1,e2⟩
  .exact .inr (.inl (.inl (e▸q)))
  .rw [q] at e1;injection e1 with e1;omega
 .rw [List.map_append,List.mem_append] at q
  rcases q with q|q
  .exact .inr (.inl (.inr q))
  .simp at q;exact .inr (.inr q)
def HRemPost (p bm:Nat) (hv:Value) (xs:List X) (i n:Nat) (w:World) (e:Ending) (w':World):Prop :=
 e=.returned (.iface 161 (.pointer (some ⟨(g xs i).1,0,none⟩)))/\∃ hv' ys,hv'.ownBlock=hv.ownBlock/\(ys++[g xs i]).Perm xs/\heap ys n/\Hp w' p bm hv' ys/\Fr (fun k=>k=p\/Foot hv xs k) w w'
theorem take_last {xs:List X} {n:Nat} (h:xs.length=n+1):xs.take n++[g xs n]=xs:=by
 rw [g_at (by omega),<-List.take_succ_eq_append_getElem (by omega),List.take_of_length_le (by omega)]
theorem heap_take {xs:List X} {n:Nat} (h:heap xs n) (hn:n<=xs.length):heap (xs.take n) n:=by
 have hg:∀ k,k<n->g (xs.take n) k=g xs k:=fun k hk=>by simp [g,List.getElem?_take,hk]
 intro k h0 hk
 rw [hg k hk,hg _ (by omega)]
 exact h k h0 hk
theorem rem_end {p bm i n:Nat} {hv:Value} {xs ys:List X} {w w1:World} {e:Ending} {w':World} (hn:xs.length=n+1) (hp:ys.Perm xs) (hg:g ys n=g xs i) (hh:heap ys n) (hf:Fr (Foot hv xs) w w1) (h:PopPost p bm hv ys n w1 e w'):HRemPost p bm hv xs i n w e w':=by
 obtain ⟨he,hv',h1,h2,h3⟩:=h
 rw [hg] at he
 have hl:ys.length=n+1:=by rw [hp.length_eq];exact hn
 refine ⟨he,hv',ys.take n,h1,?_,heap_take hh (by omega),h2,?_⟩
 .rw [<-hg,take_last hl];exact hp
 .exact (hf.mono fun k _ q=>.inr q).trans h3 fun k _ q=>.inl q
set_option maxHeartbeats 1000000 in
theorem hrem_any (p bm i n:Nat) (hv:Value) (xs:List X) (w:World) (H:Hp w p bm hv xs) (hn:xs.length=n+1) (hi:i<n+1) (hmax:xs.length<=50000) (hh:heap xs xs.length) :
 Calls Tryz.prog 93 #[.iface 169 (.pointer (some ⟨p,0,none⟩)),.int .i64 i] w (HRemPost p bm hv xs i n w):=by
 have hm1:=fun (k:Nat) (hk:0<k) (W:World)=>run_method_val mLen Tryz.underlying169 Tryz.underlying164 ⟨p,0,none⟩ k hk W
 have hm2:=fun (k:Nat) (hk:0<k) (W:World)=>run_method_ptr mPop Tryz.underlying169 ⟨p,0,none⟩ k hk W
 have hm3:=fun (k:Nat) (hk:0<k) (W:World)=>run_method_val mSwap Tryz.underlying169 Tryz.underlying164 ⟨p,0,none⟩ k hk W
 have hc0:=H.top.cell 0
 have HN:=hid hn
 have hml:n<=50000:=by omega
 have HH:=hid hh
 clear hn hh hmax
 by_cases hni:n=i
 .subst hni
  have hb:((n:Int) != n)=false:=by simp
  go_enter Tryz.func93,Tryz.ntmps93
  go_wp2_with fail
  refine (hlen H).mono ?_
  rintro e w2 ⟨rfl,rfl⟩
  rw [HN.out]
  go_wp2_with fail
  refine (pop_any p bm n hv xs _ H HN.out (by rw [HN.out];omega)).mono ?_
  intro e w1 hpop
  have HE:=hid (rem_end (i:=n) HN.out (List.Perm.refl _) rfl (heap_mono HH.out (by rw [HN.out];omega)) (Fr.refl _ _) hpop)
  obtain ⟨rfl,_⟩:=hpop
  go_wp2
  go_ret
  exact HE.out
 .have hb:((n:Int) != i)=true:=by rw [bne_iff_ne];omega
  have hin:i<n:=by omega
  have hgs:∀ k,k<n->k≠i->g (swapL xs i n) k=g xs k:=fun k hk hki=>by rw [g_swap xs (by rw [HN.out];omega) (by rw [HN.out];omega),if_neg (by omega),if_neg hki]
  have HD:=hid (heap_change (heap_mono HH.out (by rw [HN.out];exact Nat.le_succ n)) hin hgs)
  have HG:=hid (show g (swapL xs i n) n=g xs i by rw [g_swap xs (by rw [HN.out];omega) (by rw [HN.out];omega),if_pos rfl])
  have HP:=hid (swap_perm xs (i:=i) (j:=n) (by rw [HN.out];omega) (by rw [HN.out];omega))
  clear hgs hni
  go_enter Tryz.func93,Tryz.ntmps93
  go_wp2_with fail
  refine (hlen H).mono ?_
  rintro e w2 ⟨rfl,rfl⟩
  rw [HN.out]
  go_wp2_with fail
  refine (hswap' H (i:=i) (j:=n) (by rw [HN.out];omega) (by rw [HN.out];omega) (by omega) rfl rfl).mono ?_
  rintro e w1 ⟨rfl,H1,hf1⟩
  generalize swapL xs i n=ys at *
  have hly:Hid (ys.length=n+1):=hid (by rw [HP.out.length_eq];exact HN.out)
  go_wp2_with fail
  refine (down_any p bm n i hv ys _ H1 (by rw [hly.out];exact Nat.le_succ n) hin (by rw [hly.out];omega) HD.out).mono ?_
  rintro e w2 ⟨b,zs,rfl,hp,h1,h2,ht,H2,hf2⟩
  have hlz:Hid (zs.length=n+1):=hid (by rw [hp.length_eq];exact hly.out)
  have HT:=hid ((ht n (Nat.le_refl _)).trans HG.out)
  have hc2:=H2.top.cell 0
  clear ht
  have hf12:=hf1.trans hf2 fun k _ q=>q.perm HP.out k
  cases b
  .have HU:=hid (h2 rfl)
   clear h1 h2
   go_wp2_with fail
   refine (up_any p bm n i hv zs _ H2 (by rw [hlz.out];exact Nat.le_succ n) hin (by rw [hlz.out];omega) HU.out).mono ?_
   rintro e w3 ⟨rfl,us,hp3,hh3,ht3,H3,hf3⟩
   have hlu:Hid (us.length=n+1):=hid (by rw [hp3.length_eq];exact hlz.out)
   have HT3:=hid ((ht3 n (Nat.le_refl _)).trans HT.out)
   have hc3:=H3.top.cell 0
   clear ht3
   go_wp2_with fail
   refine (pop_any p bm n hv us _ H3 hlu.out (by rw [hlu.out];omega)).mono ?_
   intro e w4 hpop
   have HE:=hid (rem_end HN.out ((hp3.trans hp).trans HP.out) HT3.out hh3 (hf12.trans hf3 fun k _ q=>q.perm (hp.trans HP.out) k) hpop)
   obtain ⟨rfl,_⟩:=hpop
   go_wp2
   go_ret
   exact HE.out
  .have HU:=hid (h1 rfl)
   clear h1 h2
   go_wp2_with fail
   refine (pop_any p bm n hv zs _ H2 hlz.out (by rw [hlz.out];omega)).mono ?_
   intro e w4 hpop
   have HE:=hid (rem_end HN.out (hp.trans HP.out) HT.out HU.out hf12 hpop)
   obtain ⟨rfl,_⟩:=hpop
   go_wp2
   go_ret
   exact HE.out
def WF (p bm:Nat) (hv:Value) (xs:List X) (k:Nat):Prop:=k=p\/k=bm\/Foot hv xs k
structure WhI (w:World) (p:Nat) (l:List TM) (F:Nat->Prop) (bm:Nat) (hv:Value) (xs:List X) (kvs:List (Int × Value)):Prop where
 hp:Hp w p bm hv xs
 hh:heap xs xs.length
 mp:MapIs w bm intKey kvs
 kp:kvs.Perm (xs.map fun x=>(x.2.2,ptr x.1))
 lp:l.Perm (xs.map (·.2))
 nd:(l.map (·.2)).Nodup
 so:l.Pairwise ah
 le:l.length<=4096
 ff:∀ k,F k<->WF p bm hv xs k
def Wh (w:World) (p:Nat) (l:List TM) (F:Nat->Prop):Prop:=∃ bm hv xs kvs,WhI w p l F bm hv xs kvs
def Ext (F F':Nat->Prop) (w:World):Prop:=∀ k,F' k->F k\/w.heap.size<=k
section
variable {w w':World} {p bm:Nat} {l:List TM} {F G:Nat->Prop} {hv:Value} {xs:List X} {kvs:List (Int × Value)}
theorem WhI.bmp (H:WhI w p l F bm hv xs kvs):bm≠p:=H.mp.ne H.hp.top
theorem WhI.bmf (H:WhI w p l F bm hv xs kvs):¬Foot hv xs bm:=by
 rintro (e|e)
 .rcases H.hp.row.2 with ⟨e',_⟩|⟨gb,cap,cur,e',_,hb,_⟩
  .rw [e'] at e;cases e
  .rw [e'] at e
   have:gb=bm:=by simpa [Value.ownBlock] using e
   subst this
   exact H.mp.ne (t:=161) hb rfl
 .obtain ⟨x,hx,rfl⟩:=List.mem_map.1 e
  obtain ⟨i,hi⟩:=List.getElem?_of_mem hx
  exact H.mp.ne (H.hp.its i x hi) rfl
theorem WhI.drewN (H:WhI w p l F bm hv xs kvs) (n:Nat):WhI (w.drewN n) p l F bm hv xs kvs:=⟨H.hp.drewN n,H.hh,H.mp.drewN n,H.kp,H.lp,H.nd,H.so,H.le,H.ff⟩
theorem WhI.fr (H:WhI w p l F bm hv xs kvs) (hf:Fr G w w') (hd:∀ k,F k->¬G k):WhI w' p l F bm hv xs kvs :=
 ⟨H.hp.fr hf (hd p ((H.ff p).2 (.inl rfl))) (fun k hk=>hd k ((H.ff k).2 (.inr (.inr hk)))),H.hh,H.mp.fr hf (hd bm ((H.ff bm).2 (.inr (.inl rfl)))),H.kp,H.lp,H.nd,H.so,H.le,H.ff⟩
theorem Wh.fr (H:Wh w p l F) (hf:Fr G w w') (hd:∀ k,F k->¬G k):Wh w' p l F:=by
 obtain ⟨bm,hv,xs,kvs,H⟩:=H
 exact ⟨bm,hv,xs,kvs,H.fr hf hd⟩
theorem WhI.lt (H:WhI w p l F bm hv xs kvs) {k:Nat} (hk:F k):k<w.heap.size:=by
 rcases (H.ff k).1 hk with rfl|rfl|hk|hk
 .exact H.hp.top.lt
 .exact H.mp.lt
 .exact (H.hp.row.lt k hk).2
 .obtain ⟨x,hx,rfl⟩:=List.mem_map.1 hk
  obtain ⟨i,hi⟩:=List.getElem?_of_mem hx
  exact (H.hp.its i x hi).lt
theorem Wh.lt (H:Wh w p l F) {k:Nat} (hk:F k):k<w.heap.size:=by
 obtain ⟨bm,hv,xs,kvs,H⟩:=H
 exact H.lt hk
theorem Wh.below (H:Wh w p l F) (hb:Below w.heap.size w w'):Wh w' p l F:=H.fr (Fr.of_below (F:=fun _=>False) hb) (fun _ _ h=>h)
theorem WhI.len (H:WhI w p l F bm hv xs kvs):xs.length=l.length:=by have:=H.lp.length_eq;simpa using this.symm
theorem WhI.keys (H:WhI w p l F bm hv xs kvs):(kvs.map (·.1)).Nodup:=by
 have h1:(kvs.map (·.1)).Perm (l.map (·.2)):=by
  have:=(H.kp.map (·.1)).trans ((H.lp.map (·.2)).symm.trans (List.Perm.refl _) |> fun h=>by simpa [Function.comp_def] using h)
  simpa [Function.comp_def] using this
 exact (h1.nodup_iff).2 H.nd
theorem WhI.found (H:WhI w p l F bm hv xs kvs) {i:Nat} {x:X} (hx:xs[i]?=some x):mget x.2.2 kvs=some (ptr x.1) :=
 mget_of_mem H.keys (H.kp.mem_iff.2 (List.mem_map.2 ⟨x,List.mem_of_getElem? hx,rfl⟩))
theorem WhI.get (H:WhI w p l F bm hv xs kvs) (id:Int):(mget id kvs=none/\id∉l.map (·.2))\/∃ (i:Nat) (x:X),xs[i]?=some x/\x.2.2=id/\mget id kvs=some (ptr x.1):=by
 cases h:mget id kvs with
 | none =>
   refine .inl ⟨rfl,fun hm=>?_⟩
   obtain ⟨t,ht,rfl⟩:=List.mem_map.1 hm
   obtain ⟨x,hx,rfl⟩:=List.mem_map.1 (H.lp.mem_iff.1 ht)
   obtain ⟨i,hi⟩:=List.getElem?_of_mem hx
   rw [H.found hi] at h
   cases h
 | some v =>
   have:=H.kp.mem_iff.1 (mget_mem h)
   obtain ⟨x,hx,e⟩:=List.mem_map.1 this
   obtain ⟨i,hi⟩:=List.getElem?_of_mem hx
   simp only [Prod.mk.injEq] at e
   exact .inr ⟨i,x,hi,e.1,by rw [<-e.2]⟩
theorem WhI.get_l (H:WhI w p l F bm hv xs kvs) {i:Nat} {x:X} (hx:xs[i]?=some x):x.2∈l:=H.lp.mem_iff.2 (List.mem_map.2 ⟨x,List.mem_of_getElem? hx,rfl⟩)
end
theorem zitem (w:World):(zeroValue 161).run Tryz.prog w=.ok (.pointer none) w:=by kernel_rfl
theorem made_any {w:World} {p bm:Nat} {hv:Value} (h:Blk w p 167 #[hv,.map (some bm)]) :
 Calls Tryz.prog 92 #[.pointer (some ⟨p,0,none⟩)] w fun e w'=>e=.returned (.bool true)/\w=w':=by
 have hc:=h.cell 1
 have qT:∀ (w:World) (r:Option Nat),(binOp .neq 165 (.map r) (.map none)).run Tryz.prog w=.ok (.bool (!r.isNone)) w:=fun w r=>run_neq_map_nil w _ _ _ r Tryz.underlying165
 go_enter Tryz.func92,Tryz.ntmps92
 go_wp2
 go_ret
 exact ⟨rfl,rfl⟩
def NewPost (w:World) (e:Ending) (w':World):Prop:=∃ p F,e=.returned (.pointer (some ⟨p,0,none⟩))/\Wh w' p [] F/\Below w.heap.size w w'/\∀ k,F k->w.heap.size<=k
theorem new_any (w:World):Calls Tryz.prog 62 #[] w (NewPost w):=by
 have hmm:=@run_makeMap Tryz.prog
 have HP:NewPost w (.returned (.pointer (some ⟨w.heap.size+1,0,none⟩))) ((w.alloc (.map #[] 0)).alloc (.cells #[.slice none 0 0,.map (some w.heap.size)] 167)):=by
  have h1:=Blk.new (w.alloc (.map #[] 0)) 167 #[.slice none 0 0,.map (some w.heap.size)]
  have h2:=(MapIs.made (κ:=Int) w intKey).fr ((Fr.refl (fun _=>False) _).alloc (.cells #[.slice none 0 0,.map (some w.heap.size)] 167)) (fun h=>h)
  have hs:(w.alloc (.map #[] 0)).heap.size=w.heap.size+1:=by simp
  rw [hs] at h1
  refine ⟨_,WF (w.heap.size+1) w.heap.size (.slice none 0 0) [],rfl,⟨w.heap.size,.slice none 0 0,[],[],⟨⟨h1,⟨rfl,.inl ⟨rfl,rfl⟩⟩,fun i x hx=>by simp at hx,by simp⟩,fun k h0 hk=>by simp at hk,h2,List.Perm.refl _,List.Perm.refl _,by simp,List.Pairwise.nil,by simp,fun k=>Iff.rfl⟩⟩,
   ((Below.refl _ _).alloc (Nat.le_refl _) _).alloc (by simp) _,fun k hk=>?_⟩
  rcases hk with rfl|rfl|hk|hk
  .omega
  .omega
  .simp [Value.ownBlock] at hk
  .simp at hk
 go_enter Tryz.func62,Tryz.ntmps62
 go_wp2
 go_ret
 exact HP
end Go.Proofs.YthkadehlclcggaaGreatDoor
