/- Chapter 3: rosterref03.Parse. Chapter 3: rosterref03.Lists, Same. -/
import Derived.Test.YthkadehlclcggaaGreatDoorGx20
import Derived.Deep.RegionWith
import Derived.Test.YthkadehlclcggaaGreatDoorGx17
import Derived.Deep.QuietTactic
import Derived.BigQuiet
import Derived.Laws.StructEq
import Derived.Test.YthkadehlclcggaaGreatDoorGx02
import Derived.Deep.DeepCutAuto
import Derived.Deep.CutBlock
import Derived.Deep.RegionHeld3
namespace Go.Proofs.YthkadehlclcggaaGreatDoor
set_option linter.unusedSimpArgs false
set_option linter.unusedVariables false
open Go.RowKit
open Go.Lib (hid)
theorem has_cut (c:UInt8):∀ l:T,decide (c∈l)=(cutT c l).2.2
 | []=>rfl
 | x::r=>by
   have ih:=has_cut c r
   unfold cutT
   by_cases h:x=c
   .rw [if_pos h];simp [h]
   .rw [if_neg h,<-ih]
    by_cases q:c∈r
    .simp [q]
    .simp [q,Ne.symm h]
theorem in_cut (s:ByteArray) (c:UInt8):inB s c=(cutT c s.data.toList).2.2:=has_cut c _
theorem PSt.uc {w wr:World} {g:Nat} (h:PSt w zeroU wr) (hg:w.heap.size=g) :
 wr.cell? ⟨g+1,0,none⟩=some (.string ⟨#[]⟩)/\wr.cell? ⟨g+1,1,none⟩=some (.string ⟨#[]⟩)/\wr.cell? ⟨g+1,2,none⟩=some (.string ⟨#[]⟩)/\wr.cell? ⟨g+1,3,none⟩=some (.int .i64 0)/\wr.cell? ⟨g+1,4,none⟩=some (.slice none 0 0)/\wr.cell? ⟨g+1,5,none⟩=some (.slice none 0 0):=by
 subst hg
 have hr:Blk wr (w.heap.size+1) 32 #[.string ⟨#[]⟩,.string ⟨#[]⟩,.string ⟨#[]⟩,.int .i64 0,.slice none 0 0,.slice none 0 0]:=h.u
 exact ⟨hr.cell 0,hr.cell 1,hr.cell 2,hr.cell 3,hr.cell 4,hr.cell 5⟩
theorem tail_rdv {w:World} {L:List T} {gg off c:Nat} (h:Rd w 9 1 L.length (some ⟨gg,off,none⟩) (L.map SC1)) (hL:0<L.length) (A:Option Addr) (hA:A=some ⟨gg,off+1,none⟩\/L.length=1):RdB w w.heap.size 1 L.tail.length A (L.tail.map SC1) :=
 ⟨by simp,fun hn=>by
  obtain ⟨gb,off2,e,hlt,hc⟩:=h.at_ hL
  injection e with e
  injection e with e1 e2 _
  subst e1
  subst e2
  rcases hA with rfl|q
  .refine ⟨gg,off+1,rfl,hlt,fun j u hu=>?_⟩
   rw [show off+1+j=off+(j+1) by omega]
   refine hc (j+1) u ?_
   rw [List.getElem?_map] at hu ⊢
   rw [List.getElem?_tail] at hu
   exact hu
  .simp at hn;omega⟩
theorem Rd.rdb {w:World} {t:TypeId} {sz n:Nat} {A:Option Addr} {xs:List Value} (h:Rd w t sz n A xs):RdB w w.heap.size sz n A xs:=⟨h.1,fun hn=>by
 obtain ⟨gb,off,e,hlt,hc⟩:=h.at_ hn
 exact ⟨gb,off,e,hlt,hc⟩⟩
theorem tol_eq (a b:ByteArray):a.toList=b.toList<->a=b:=by
 rw [ByteArray.toList_eq,ByteArray.toList_eq]
 obtain ⟨⟨x⟩⟩:=a
 obtain ⟨⟨y⟩⟩:=b
 simp
theorem neq_par (p q:Par) (W:World):(binOp .neq 95 (.agg #[.string (str p.name),.string (str p.value),.bool p.has]) (.agg #[.string (str q.name),.string (str q.value),.bool q.has])).run Tryz.prog W=.ok (.bool (!decide (p=q))) W:=by
 obtain ⟨a1,a2,a3⟩:=p
 obtain ⟨b1,b2,b3⟩:=q
 have e1:(str a1=str b1)<->a1=b1:=⟨str_inj,fun h=>by rw [h]⟩
 have e2:(str a2=str b2)<->a2=b2:=⟨str_inj,fun h=>by rw [h]⟩
 simp only [Par.mk.injEq]
 by_cases q1:a1=b1 <;> by_cases q2:a2=b2 <;> by_cases q3:a3=b3 <;> simp [go_sem,tol_eq,e1,e2,q1,q2,q3]
def SameTo2 (a b:List Par) (j:Nat):Prop:=a.take j=b.take j
theorem lists_step {a b:List Par} {j:Nat} (h:SameTo2 a b j) (ha:j<a.length) (hb:j<b.length) (e:a[j]=b[j]):SameTo2 a b (j+1):=by
 unfold SameTo2 at *
 rw [List.take_succ_eq_append_getElem ha,List.take_succ_eq_append_getElem hb,h,e]
theorem lists_no {a b:List Par} {j:Nat} (ha:j<a.length) (hb:j<b.length) (e:a[j]≠b[j]):decide (a=b)=false:=by
 refine decide_eq_false fun h=>e ?_
 subst h
 rfl
theorem lists_end {a b:List Par} {j:Nat} (h:SameTo2 a b j) (ha:j=a.length) (hl:a.length=b.length):decide (a=b)=true:=by
 unfold SameTo2 at h
 rw [List.take_of_length_le (by omega),List.take_of_length_le (by omega)] at h
 exact decide_eq_true h
set_option maxRecDepth 100000 in
set_option maxHeartbeats 2000000 in
theorem Lists_any {a b:List Par} {A1 A2:Option Addr} {c1 c2 B:Nat} {w:World} (h1:RdB w B 3 a.length A1 (rows parC a)) (h2:RdB w B 3 b.length A2 (rows parC b)) (l1:a.length<=maxLen) (l2:b.length<=maxLen) :
 Calls Tryz.prog 85 #[.slice A1 a.length c1,.slice A2 b.length c2] w fun e w'=>e=.returned (.bool (decide (a=b)))/\∃ n,w'=w.drewN n:=by
 unfold maxLen at l1 l2
 have H1:=hid h1
 have H2:=hid h2
 clear h1 h2
 by_cases hl:a.length=b.length
 .have HL:=hid hl
  have zl:((a.length:Int) != b.length)=false:=by rw [hl];simp
  clear hl
  go_enter Tryz.func85,Tryz.ntmps85
  go_wp2
  go_loopw [5] (fun i wr=>∃ j:Nat,j<=a.length/\i=.int .i64 j/\SameTo2 a b j/\∃ n,wr=w.drewN n) (fun i _=>a.length-(intOf i).toNat)
  case atStart=>exact ⟨0,by omega,rfl,by simp [SameTo2],0,rfl⟩
  case round =>
   obtain ⟨j,hj,rfl,hS,n,rfl⟩:=hrel
   have HS:=hid hS
   clear hS
   by_cases hlt:j<a.length
   .have hlb:j<b.length:=by have:=HL.out;omega
    have x0:(0:Int)<=j:=by omega
    have x1:(j:Int)<a.length:=by omega
    have x2:(j:Int)<b.length:=by omega
    obtain ⟨gb,off,rfl,_,y0,y1,y2⟩:=PrmB.at_ H1.out hlt
    obtain ⟨gb2,off2,rfl,_,z0,z1,z2⟩:=PrmB.at_ H2.out hlb
    have heq:=neq_par a[j] b[j]
    have HNO:=hid (fun q=>lists_no hlt hlb q)
    have HST:=hid (fun q=>lists_step HS.out hlt hlb q)
    by_cases he:a[j]=b[j]
    .have HX:=hid (HST.out he)
     rw [decide_eq_true he] at heq
     clear he
     go_wp2
     go_quiet (fail)
     go_wp2
     go_roundw
     case rel=>exact ⟨j+1,by omega,by go_num,HX.out,_,by first|rfl|exact World.drewN_drewN _ _ _⟩
     case measure=>simp [intOf] <;> omega
    .have HX:=hid (HNO.out he)
     rw [decide_eq_false he] at heq
     clear he
     go_wp2
     go_quiet (fail)
     go_wp2
     go_ret
     exact ⟨ret_bool HX.out.symm,_,by first|rfl|exact World.drewN_drewN _ _ _⟩
   .have x1:¬(j:Int)<a.length:=by omega
    have HX:=hid (lists_end HS.out (by omega) HL.out)
    go_wp2
    go_ret
    exact ⟨ret_bool HX.out.symm,n,rfl⟩
 .have HX:Hid (decide (a=b)=false):=hid (decide_eq_false fun h=>hl (by rw [h]))
  have zl:((a.length:Int) != b.length)=true:=by simp;omega
  clear hl
  go_enter Tryz.func85,Tryz.ntmps85
  go_wp2
  go_ret
  exact ⟨ret_bool HX.out.symm,0,rfl⟩
theorem strv_dec (a b:T):((str a).toList == (str b).toList)=decide (a=b):=by
 rw [Bool.eq_iff_iff,beq_iff_eq,decide_eq_true_iff,tol_eq]
 exact ⟨str_inj,fun h=>by rw [h]⟩
theorem uri_dec (u v:Uri):decide (u=v)=(decide (u.scheme=v.scheme)&&decide (u.user=v.user)&&decide (u.host=v.host)&&decide (u.port=v.port)&&decide (u.params=v.params)&&decide (u.headers=v.headers)):=by
 obtain ⟨a,b,c,d,e,f⟩:=u
 obtain ⟨a',b',c',d',e',f'⟩:=v
 rw [Bool.eq_iff_iff]
 simp [and_assoc]
set_option maxRecDepth 100000 in
set_option maxHeartbeats 4000000 in
theorem Same_uri {u v:Uri} {vu vv:Value} {B:Nat} {w:World} (hB:B<=w.heap.size) (hu:UriB w B vu u) (hv:UriB w B vv v) (l1:u.params.length<=1000000000000000) (l2:u.headers.length<=1000000000000000) (l3:v.params.length<=1000000000000000) (l4:v.headers.length<=1000000000000000) :
 Calls Tryz.prog 87 #[vu,vv] w fun e w'=>e=.returned (.bool (decide (u=v)))/\Below w.heap.size w w':=by
 obtain ⟨vp,vh,rfl,hp,hh⟩:=hu
 obtain ⟨vp2,vh2,rfl,hp2,hh2⟩:=hv
 obtain ⟨A1,c1,rfl,hp⟩:=hp
 obtain ⟨A2,c2,rfl,hh⟩:=hh
 obtain ⟨A3,c3,rfl,hp2⟩:=hp2
 obtain ⟨A4,c4,rfl,hh2⟩:=hh2
 have HD:=hid (uri_dec u v)
 have HL1:Hid (∀ W,Below w.heap.size w W->Calls Tryz.prog 85 #[.slice A1 u.params.length c1,.slice A3 v.params.length c3] W fun e w'=>e=.returned (.bool (decide (u.params=v.params)))/\∃ n,w'=W.drewN n):=hid (fun W hb=>Lists_any (hp.below (hb.mono hB)) (hp2.below (hb.mono hB)) (by unfold maxLen;omega) (by unfold maxLen;omega))
 have HL2:Hid (∀ W,Below w.heap.size w W->Calls Tryz.prog 85 #[.slice A2 u.headers.length c2,.slice A4 v.headers.length c4] W fun e w'=>e=.returned (.bool (decide (u.headers=v.headers)))/\∃ n,w'=W.drewN n):=hid (fun W hb=>Lists_any (hh.below (hb.mono hB)) (hh2.below (hb.mono hB)) (by unfold maxLen;omega) (by unfold maxLen;omega))
 have k1:=strv_dec u.scheme v.scheme
 have k2:=strv_dec u.user v.user
 have k3:=strv_dec u.host v.host
 have k4:((u.port:Int) == v.port)=decide (u.port=v.port):=by
  rw [Bool.eq_iff_iff,beq_iff_eq,decide_eq_true_iff]
 unfold uriV
 clear hp hh hp2 hh2
 generalize decide (u=v)=R at *
 generalize decide (u.scheme=v.scheme)=b1 at *
 generalize decide (u.user=v.user)=b2 at *
 generalize decide (u.host=v.host)=b3 at *
 generalize decide (u.port=v.port)=b4 at *
 generalize decide (u.params=v.params)=b5 at *
 generalize decide (u.headers=v.headers)=b6 at *
 have HB0:Hid (∀ o1 o2,Below w.heap.size w ((w.alloc o1).alloc o2)):=hid (fun o1 o2=>((Below.refl _ _).alloc (Nat.le_refl _) _).alloc (by simp) _)
 go_enter Tryz.func87,Tryz.ntmps87
 cases b1 with
 | false =>
   go_wp2
   go_ret
   exact ⟨ret_bool (by rw [HD.out];rfl),HB0.out _ _⟩
 | true =>
   cases b2 with
   | false =>
     go_wp2
     go_ret
     exact ⟨ret_bool (by rw [HD.out];rfl),HB0.out _ _⟩
   | true =>
     cases b3 with
     | false =>
       go_wp2
       go_ret
       exact ⟨ret_bool (by rw [HD.out];rfl),HB0.out _ _⟩
     | true =>
       cases b4 with
       | false =>
         go_wp2
         go_ret
         exact ⟨ret_bool (by rw [HD.out];rfl),HB0.out _ _⟩
       | true =>
         cases b5 with
         | false =>
           go_wp2_with fail
           refine (HL1.out _ (HB0.out _ _)).mono ?_
           rintro e w' ⟨rfl,n,rfl⟩
           go_wp2
           go_ret
           exact ⟨ret_bool (by rw [HD.out];rfl),below_drewN (HB0.out _ _) _⟩
         | true =>
           go_wp2_with fail
           refine (HL1.out _ (HB0.out _ _)).mono ?_
           rintro e w' ⟨rfl,n,rfl⟩
           go_wp2_with fail
           refine (HL2.out _ (below_drewN (HB0.out _ _) n)).mono ?_
           rintro e w' ⟨rfl,m,rfl⟩
           go_wp2
           go_ret
           exact ⟨ret_bool (by rw [HD.out];rfl),below_drewN (HB0.out _ _) _⟩
end Go.Proofs.YthkadehlclcggaaGreatDoor
