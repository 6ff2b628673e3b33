/- slices.Clone at tuples, texts, parameters: an own row of the same cells. -/
import Derived.Test.YthkadehlclcggaaGreatDoorGx25
import Derived.Test.YthkadehlclcggaaGreatDoorGx02
import Derived.Lib.SliceRun
namespace Go.Proofs.YthkadehlclcggaaGreatDoor
set_option linter.unusedSimpArgs false
set_option linter.unusedVariables false
open Go.RowKit
open Go.Lib (hid)
theorem eC9:ElemInfo Tryz.prog 9 1 16 (.string ⟨#[]⟩):=ElemInfo.mk' (by kernel_rfl)
theorem eC95:ElemInfo Tryz.prog 95 3 40 (.agg #[.string ⟨#[]⟩,.string ⟨#[]⟩,.bool false]):=ElemInfo.mk' (by kernel_rfl)
theorem rows_one1 (l:List T):∀ u∈rows noteC l,u.oneCell'=true:=rows_one (fun a u hu=>by simp [noteC] at hu;rcases hu with rfl;rfl) l
theorem run_app_slb {P:Program} {w:World} (base:Nat) (t ty e:TypeId) (size bytes:Nat) (z:Value) (ht:P.underlying t=some (.slice e)) (hi:ElemInfo P e size bytes z) (hzs:z.cells.size=size) (hsz:0<size)
 (v:Value) (n:Nat) (xs:List Value) (hown:w.ownsRow base e size v n xs) {B m:Nat} {A:Option Addr} {c:Nat} (news:List Value) (hr:RdB w B size m A news) (h1:∀ u∈news,u.oneCell'=true)
 (h63:n+m<=maxLen) (hbytes:(n+m)*bytes<=140737488355328) (hbase:base<=w.heap.size) :
 ∃ v' w',(Builtin.append_ #[t,t] ty #[v,.slice A m c]).run P w=.ok v' w'/\w'.ownsRow base e size v' (n+m) (xs++news)/\w.grownBy w' v.ownBlock/\(v'.ownBlock=v.ownBlock\/v'.ownBlock=some w.heap.size):=by
 obtain ⟨i,hi1,hi2,hi3,hi4⟩:=hi
 rcases A with _|ad
 .have hm:m=0:=by
   rcases Nat.eq_zero_or_pos m with h0|h0
   .exact h0
   .obtain ⟨_,_,h,_⟩:=hr.2 h0
    cases h
  subst hm
  have hn:news=[]:=List.eq_nil_of_length_eq_zero (by simpa using hr.1)
  subst hn
  exact ⟨v,w,run_app_nil w base t ty e i size ht hi1 v n xs hown c,by simpa using hown,World.grownBy.refl w _,.inl rfl⟩
 .have hcells:∀ j u,news[j]?=some u->w.cell? (ad.add j)=some u:=by
   intro j u hu
   rcases Nat.eq_zero_or_pos m with h0|h0
   .subst h0
    have hn:news=[]:=List.eq_nil_of_length_eq_zero (by simpa using hr.1)
    subst hn
    simp at hu
   .obtain ⟨gb,off,h,_,hc⟩:=hr.2 h0
    injection h with h
    subst h
    have:=hc j u hu
    have e:(⟨gb,off,none⟩:Addr).add j=⟨gb,off+j,none⟩:=by unfold Addr.add;split <;> simp_all
    rw [e];exact this
  obtain ⟨v',w',hrun,h2,h3,_,h5⟩:=run_append_own_at (P:=P) w base t ty e i z size bytes ht hi1 hi2 hi3 hi4 hzs hsz v n xs hown ad m c news hr.1 hcells h1 h63 hbytes hbase
  exact ⟨v',w',hrun,h2,h3,h5⟩
theorem wpList_app_slb {P:Program} {w:World} {ops:Array Oper} {rest:List Oper} {o:Oper} {a:Act} {Q:Exit->Act->World->Prop} (hgd:o.guard=none) (s x:Operand) (t:TypeId)
 (ho:o.op=.call { callee:=.builtin .append,args:=#[s,x],argTypes:=#[t,t] })
 (base:Nat) (e:TypeId) (size bytes:Nat) (z:Value) (ht:P.underlying t=some (.slice e)) (hi:ElemInfo P e size bytes z) (hzs:z.cells.size=size) (hsz:0<size)
 (v:Value) (n:Nat) (xs:List Value) (hs:a.eval s=v) (hown:w.ownsRow base e size v n xs)
 {B m:Nat} {A:Option Addr} {c:Nat} (news:List Value) (hx:a.eval x=.slice A m c) (hr:RdB w B size m A news) (h1:∀ u∈news,u.oneCell'=true)
 (h63:n+m<=maxLen) (hbytes:(n+m)*bytes<=140737488355328) (hbase:base<=w.heap.size)
 (h:∀ v' w',w'.ownsRow base e size v' (n+m) (xs++news)->Below base w w'->w.grownBy w' v.ownBlock->(v'.ownBlock=v.ownBlock\/v'.ownBlock=some w.heap.size)->wpList P ops Q rest (a.put o.dst v') w'):wpList P ops Q (o::rest) a w:=by
 refine wpList_plain hgd fun K hK=>?_
 obtain ⟨v',w',hrun,h2,h3,h4⟩:=run_app_slb (P:=P) base t o.type e size bytes z ht hi hzs hsz v n xs hown (c:=c) news hr h1 h63 hbytes hbase
 unfold Oper.wp execOp
 simp only [ho,resolve,invoke,builtin,Sem.run_bind,Sem.run_pure,Result.andThen_ok,List.map_toArray,List.map_cons,List.map_nil,hs,hx,hrun]
 exact hK _ _ (h v' w' h2 ((Below.refl _ _).grown h3 hbase fun k hk=>(hown.lt k hk).1) h3 h4)
def CloPost (T:TypeId) (sz n:Nat) (xs:List Value) (w:World) (e:Ending) (w':World):Prop:=∃ v',e=.returned v'/\RdV w' T sz n v' xs/\w'.ownsRow w.heap.size T sz v' n xs/\Below w.heap.size w w'
theorem clo_nil {T:TypeId} {sz n:Nat} {xs:List Value} {w:World} {B c:Nat} (h:RdB w B sz n none xs):CloPost T sz n xs w (.returned (.slice none 0 0)) w:=by
 have hn:n=0:=by
  rcases Nat.eq_zero_or_pos n with h0|h0
  .exact h0
  .obtain ⟨_,_,h,_⟩:=h.2 h0
   cases h
 subst hn
 have hx:xs=[]:=List.eq_nil_of_length_eq_zero (by simpa using h.1)
 subst hx
 exact ⟨_,rfl,RdV.nil _ _ _,⟨by simp,.inl ⟨rfl,rfl⟩⟩,Below.refl _ _⟩
theorem clo_own {T:TypeId} {sz n:Nat} {xs:List Value} {w w':World} {v':Value} (h:w'.ownsRow w.heap.size T sz v' (0+n) ([]++xs)) (hb:Below w.heap.size w w'):CloPost T sz n xs w (.returned v') w':=by
 rw [Nat.zero_add,List.nil_append] at h
 exact ⟨v',rfl,RdV.of_own h,h,hb⟩
set_option maxRecDepth 100000 in
set_option maxHeartbeats 4000000 in
theorem clone_str {w:World} {B n c:Nat} {A:Option Addr} {l:List T} (h:RdB w B 1 l.length A (rows noteC l)) (hB:B<=w.heap.size) (hn:l.length<=2000000):Calls Tryz.prog 67 #[.slice A l.length c] w (CloPost 9 1 l.length (rows noteC l) w):=by
 have hq:∀ (w:World) (a:Option Addr) (n c n' c':Nat),(binOp .eql 35 (.slice a n c) (.slice none n' c')).run Tryz.prog w=.ok (.bool a.isNone) w:=fun w a n c n' c'=>Lib.run_eql_slice_nil w _ _ a n c n' c' Tryz.underlying35
 rcases A with _|ad
 .have HN:=hid (clo_nil (T:=9) (c:=c) h)
  clear h
  go_enter Tryz.func67,Tryz.ntmps67
  go_wp2
  go_ret
  exact HN.out
 .have HR:=hid (h.below ((Below.refl _ w).alloc (Nat.le_refl _) (.cells #[] 9) |>.mono hB))
  have h1:=rows_one1 l
  have HO:=hid (fun (v':Value) (w':World) q b=>clo_own (T:=9) (sz:=1) (n:=l.length) (xs:=rows noteC l) (w:=w) (w':=w') (v':=v') q b)
  have HBB:Hid (Below w.heap.size w (w.alloc (.cells #[] 9))):=hid ((Below.refl _ _).alloc (Nat.le_refl _) _)
  clear h
  generalize rows noteC l=XS at *
  generalize l.length=n at *
  go_enter Tryz.func67,Tryz.ntmps67
  go_wp2_with (at_builtin;(refine wpList_app_slb rfl (.tmp 5) (.tmp 6) 35 rfl w.heap.size 9 1 16 _ Tryz.underlying35 eC9 rfl (by omega) _ _ _ rfl (World.ownsRow_made w #[] 0 (Nat.le_refl _) (Nat.zero_le _) (by simp)) _ rfl HR.out h1 (by unfold maxLen;omega) (by omega) (by simp) ?_);intro v4 w4 hown4 hb4 hg4 hat4)
  have HZ:=hid (HO.out v4 w4 hown4 (HBB.out.trans hb4))
  clear hown4 hb4 hg4 hat4
  go_wp2
  go_ret
  exact HZ.out
end Go.Proofs.YthkadehlclcggaaGreatDoor
