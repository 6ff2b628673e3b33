/- Chapter 16: the document's answer: Rising. Chapter 16: the document's answer: Expire. Chapter 16: a store that can't be begun. -/
import Derived.Test.YthfmekdbcoaolaaGreatDoorGy52
import Derived.Test.YthfmekdbcoaolaaGreatDoorGy39
import Derived.Test.YthfmekdbcoaolaaGreatDoorGy44
import Derived.Test.YthfmekdbcoaolaaGreatDoorGy36
namespace Go.Proofs.YthfmekdbcoaolaaGreatDoor
set_option linter.unusedSimpArgs false
set_option linter.unusedVariables false
open Go.RowKit
open Go.Lib (hid)
theorem eStr16:ElemInfo Tryz.prog 9 1 16 (.string ⟨#[]⟩):=ElemInfo.mk' (by kernel_rfl)
theorem note_one (l:List T):∀ u∈rows noteC l,u.oneCell'=true:=rows_one (fun a u hu=>by simp [noteC] at hu;subst hu;rfl) l
theorem ris_split {l:List T} {s:T} {j:Nat} (hj:j<=l.length) (h1:∀ x∈l.take j,x<s) (h2:∀ (hlt:j<l.length),¬l[j]<s):(l.takeWhile fun x=>decide (x<s))=l.take j/\(l.dropWhile fun x=>decide (x<s))=l.drop j:=by
 have hs:=(List.take_append_drop j l).symm
 have hd:(l.drop j).dropWhile (fun x=>decide (x<s))=l.drop j/\(l.drop j).takeWhile (fun x=>decide (x<s))=[]:=by
  by_cases hlt:j<l.length
  .rw [List.drop_eq_getElem_cons hlt]
   have:=h2 hlt
   exact ⟨List.dropWhile_cons_of_neg (by simpa using this),List.takeWhile_cons_of_neg (by simpa using this)⟩
  .rw [List.drop_eq_nil_of_le (by omega)]
   exact ⟨rfl,rfl⟩
 constructor
 .conv=>lhs;rw [hs]
  rw [List.takeWhile_append_of_pos (fun x hx=>by simpa using h1 x hx),hd.2,List.append_nil]
 .conv=>lhs;rw [hs]
  rw [List.dropWhile_append_of_pos (fun x hx=>by simpa using h1 x hx),hd.1]
theorem kbl16 (a b:T):Op.bytesLess (str a).toList (str b).toList=decide (a<b):=by
 rw [bytesLess_eq,Lib.toList_data,Lib.toList_data];rfl
def OwnV (v:Value):Prop:=v=.slice none 0 0\/∃ g n c,v=.slice (some ⟨g,0,none⟩) n c
def RisPost (l:List T) (s:T) (w:World) (e:Ending) (w':World):Prop:=∃ v,e=.returned v/\OwnV v/\RdV w' 9 1 (risT l s).length v (rows noteC (risT l s))/\Below w.heap.size w w'
theorem ris_in {l:List T} {s:T} {j:Nat} (hlt:j<l.length) (h1:∀ x∈l.take j,x<s) (h2:l[j]=s):risT l s=l:=by
 have h:=(ris_split (s:=s) (Nat.le_of_lt hlt) h1 (fun _=>by rw [h2];exact List.lt_irrefl _)).2
 unfold risT
 rw [h,List.drop_eq_getElem_cons hlt,h2]
 simp
theorem ris_out {l:List T} {s:T} {j:Nat} (hj:j<=l.length) (h1:∀ x∈l.take j,x<s) (h2:∀ (hlt:j<l.length),¬l[j]<s/\l[j]≠s):risT l s=l.take j++s::l.drop j:=by
 obtain ⟨ha,hb⟩:=ris_split hj h1 (fun hlt=>(h2 hlt).1)
 unfold risT
 rw [ha,hb,if_neg]
 intro q
 by_cases hlt:j<l.length
 .rw [List.drop_eq_getElem_cons hlt] at q
  rw [List.head?_cons] at q
  injection q with q
  exact (h2 hlt).2 q
 .rw [List.drop_eq_nil_of_le (by omega)] at q
  simp at q
set_option maxRecDepth 100000 in
set_option maxHeartbeats 4000000 in
theorem rising_any {w:World} {l:List T} {v:Value} {s:T} (h:RdV w 9 1 l.length v (rows noteC l)) (hv:OwnV v) (hl:l.length<=1000):Calls Tryz.prog 43 #[v,.string (str s)] w (RisPost l s w):=by
 obtain ⟨A,c,rfl,hc,hm,hr⟩:=h
 have HV:=hid hv
 have HR:=hid hr
 have HCM:=hid (And.intro hc hm)
 clear hr hm hv
 go_enter Tryz.func43,Tryz.ntmps43
 go_wp2
 go_loop [5] (fun i=>∃ j:Nat,j<=l.length/\i=.int .i64 j/\∀ x∈l.take j,x<s) (fun i=>l.length-(intOf i).toNat)
 case atStart=>exact ⟨0,by omega,rfl,by simp⟩
 case round =>
  obtain ⟨j,hj,rfl,hno⟩:=hrel
  have HNO:=hid hno
  clear hno
  by_cases hlt:j<l.length
  .have x0:(0:Int)<=j:=by omega
   have x1:(j:Int)<l.length:=by omega
   obtain ⟨gb,off,rfl,_,y0⟩:=note_rd HR.out hlt
   have h1:=kbl16 l[j] s
   by_cases hq:l[j]<s
   .have HN2:Hid (∀ x∈l.take (j+1),x<s):=hid (fun x hx=>by
     rw [List.take_succ_eq_append_getElem hlt] at hx
     rcases List.mem_append.1 hx with q|q
     .exact HNO.out x q
     .rw [List.mem_singleton] at q;subst q;exact hq)
    rw [decide_eq_true hq] at h1
    clear hq
    go_wp2
    go_round
    case rel=>exact ⟨j+1,by omega,by go_num,HN2.out⟩
    case measure=>simp [intOf] <;> omega
   .rw [decide_eq_false hq] at h1
    by_cases he:l[j]=s
    .have HZ:=hid (ris_in hlt HNO.out he)
     have q1:((str l[j]).toList == (str s).toList)=true:=by rw [he];exact beq_self_eq_true _
     have HP:Hid (RisPost l s w (.returned (.slice (some ⟨gb,off,none⟩) l.length c)) w):=hid ⟨_,rfl,HV.out,by rw [HZ.out];exact ⟨_,_,rfl,HCM.out.1,HCM.out.2,HR.out⟩,Below.refl _ _⟩
     clear hq he
     go_wp2
     go_ret
     exact HP.out
    .have HZ:=hid (ris_out (Nat.le_of_lt hlt) HNO.out (fun _=>⟨hq,he⟩))
     have q1:=bs_neb he
     clear hq he
     have hoe:Hid ((w.alloc (.cells #[] 9)).ownsRow w.heap.size 9 1 (.slice (some ⟨w.heap.size,0,none⟩) 0 0) 0 []):=hid (own_empty (Blk.new w _ _) (Nat.le_refl _))
     have hra:Hid (Rd (w.alloc (.cells #[] 9)) 9 1 j (some ⟨gb,off,none⟩) (rows noteC (l.take j))):=hid (rd_take noteC_len (HR.out.alloc _) hj)
     have k6:(j:Int)<=c:=by omega
     have k5:(l.length:Int)<=c:=by omega
     go_upto_region 7 with (at_builtin;go_must (refine wpList_app_rd _ rfl (.tmp 34) (.tmp 37) 37 rfl w.heap.size 9 1 16 _ Tryz.underlying37 eStr16 rfl (by omega) (.slice (some ⟨w.heap.size,0,none⟩) 0 0) 0 [] rfl hoe.out _ _ _ _ rfl hra.out (note_one _) (by unfold maxLen;omega) (by omega) (by simp) ?_);intro v13 w6 hown6 hb6 hg6 hat6;rw [Nat.zero_add,List.nil_append] at hown6)
     have HO6:=hid hown6
     have HB6:Hid (Below w.heap.size w w6):=hid (((Below.refl w.heap.size w).alloc (Nat.le_refl _) (.cells #[] 9)).trans hb6)
     clear hown6 hb6 hg6 hat6
     go_upto_region 8 with (at_builtin;go_must (refine wpList_app1' rfl (.tmp 39) (.tmp 41) 37 rfl w.heap.size 9 1 16 _ Tryz.underlying37 eStr16 rfl (by omega) _ j (rows noteC (l.take j)) rfl HO6.out [.string (str s)] _ rfl (by first|rfl|(simp;done)) rfl (by intro u hu;simp at hu;subst hu;rfl) (by unfold maxLen;omega) (by omega) (by have:=HB6.out.size;first|exact this|(simp;omega)) ?_);intro v14 w7 hown7 hb7 hg7 hat7)
     have HO7:=hid hown7
     have HB7:=hid (HB6.out.trans hb7)
     clear hown7 hb7 hg7 hat7
     have HEND:Hid (∀ v15 w8,w8.ownsRow w.heap.size 9 1 v15 (j+1+(l.length-j)) (rows noteC (l.take j)++[.string (str s)]++rows noteC (l.drop j))->Below w.heap.size w7 w8->RisPost l s w (.returned v15) w8):=hid (fun v15 w8 ho hb=>by
      have e:rows noteC (l.take j)++[.string (str s)]++rows noteC (l.drop j)=rows noteC (risT l s):=by
       rw [HZ.out,rows_append,rows_cons,List.append_assoc];rfl
      have hl2:j+1+(l.length-j)=(risT l s).length:=by
       rw [HZ.out,List.length_append,List.length_cons,List.length_take,List.length_drop];omega
      rw [e,hl2] at ho
      exact ⟨v15,rfl,(own_pos ho (by rw [<-hl2];omega)).elim fun g9 h9=>h9.elim fun c9 e9=>.inr ⟨g9,_,c9,e9⟩,RdV.of_own ho,HB7.out.trans hb⟩)
     have hR2:Hid (∀ A2,(¬c=j->A2=some ⟨gb,off+j,none⟩)->(c=j->True)->Rd w7 9 1 (l.length-j) A2 (rows noteC (l.drop j))):=hid (fun A2 h _=>by
      by_cases hc1:c=j
      .rw [List.drop_eq_nil_of_le (by omega),show l.length-j=0 by omega]
       exact Rd.nil _ _ _ _
      .rw [h hc1]
       have:=rd_cut noteC_len (HR.out.below HB7.out) (k:=j) (cap:=c) hj (by omega)
       rw [if_neg hc1] at this
       rw [show (some (⟨gb,off,none⟩:Addr)).map (·.add (j*1))=some ⟨gb,off+j,none⟩ by rw [Nat.mul_one];simp only [Option.map_some,Addr.add];by_cases e:j=0 <;> simp [e]] at this
       exact this)
     have hc1:¬c=j:=by omega
     have k7:(j:Int)<=l.length:=by omega
     have hrr:=hid (hR2.out (some ⟨gb,off+j,none⟩) (fun _=>rfl) (fun _=>trivial))
     go_wp2_with (at_builtin;go_must (refine wpList_app_rd _ rfl (.tmp 43) (.tmp 46) 37 rfl w.heap.size 9 1 16 _ Tryz.underlying37 eStr16 rfl (by omega) v14 (j+1) (rows noteC (l.take j)++[.string (str s)]) rfl HO7.out (some ⟨gb,off+j,none⟩) (l.length-j) (c-j) (rows noteC (l.drop j)) rfl hrr.out (note_one _) (by unfold maxLen;omega) (by omega) HB7.out.size ?_);intro v15 w8 hown8 hb8 hg8 hat8)
     have HP:=hid (HEND.out v15 w8 hown8 hb8)
     clear hown8 hb8 hg8 hat8
     go_ret
     exact HP.out
  .have x1:¬(j:Int)<l.length:=by omega
   have HZ:=hid (ris_out hj HNO.out (fun h=>absurd h hlt))
   have hoe:Hid ((w.alloc (.cells #[] 9)).ownsRow w.heap.size 9 1 (.slice (some ⟨w.heap.size,0,none⟩) 0 0) 0 []):=hid (own_empty (Blk.new w _ _) (Nat.le_refl _))
   have hra:Hid (Rd (w.alloc (.cells #[] 9)) 9 1 j A (rows noteC (l.take j))):=hid (rd_take noteC_len (HR.out.alloc _) hj)
   have k6:(j:Int)<=c:=by omega
   have k5:(l.length:Int)<=c:=by omega
   go_upto_region 7 with (at_builtin;go_must (refine wpList_app_rd _ rfl (.tmp 34) (.tmp 37) 37 rfl w.heap.size 9 1 16 _ Tryz.underlying37 eStr16 rfl (by omega) (.slice (some ⟨w.heap.size,0,none⟩) 0 0) 0 [] rfl hoe.out _ _ _ _ rfl hra.out (note_one _) (by unfold maxLen;omega) (by omega) (by simp) ?_);intro v13 w6 hown6 hb6 hg6 hat6;rw [Nat.zero_add,List.nil_append] at hown6)
   have HO6:=hid hown6
   have HB6:Hid (Below w.heap.size w w6):=hid (((Below.refl w.heap.size w).alloc (Nat.le_refl _) (.cells #[] 9)).trans hb6)
   clear hown6 hb6 hg6 hat6
   go_upto_region 8 with (at_builtin;go_must (refine wpList_app1' rfl (.tmp 39) (.tmp 41) 37 rfl w.heap.size 9 1 16 _ Tryz.underlying37 eStr16 rfl (by omega) _ j (rows noteC (l.take j)) rfl HO6.out [.string (str s)] _ rfl (by first|rfl|(simp;done)) rfl (by intro u hu;simp at hu;subst hu;rfl) (by unfold maxLen;omega) (by omega) (by have:=HB6.out.size;first|exact this|(simp;omega)) ?_);intro v14 w7 hown7 hb7 hg7 hat7)
   have HO7:=hid hown7
   have HB7:=hid (HB6.out.trans hb7)
   clear hown7 hb7 hg7 hat7
   have hje:j=l.length:=by omega
   have HP:Hid (RisPost l s w (.returned v14) w7):=hid (by
    have e:rows noteC (l.take j)++[.string (str s)]=rows noteC (risT l s):=by
     rw [HZ.out,rows_append,rows_cons,List.drop_eq_nil_of_le (by omega)];rfl
    have hl2:j+1=(risT l s).length:=by
     rw [HZ.out,List.length_append,List.length_cons,List.length_take,List.length_drop];omega
    have ho:=HO7.out
    rw [e,hl2] at ho
    exact ⟨v14,rfl,(own_pos ho (by rw [<-hl2];omega)).elim fun g9 h9=>h9.elim fun c9 e9=>.inr ⟨g9,_,c9,e9⟩,RdV.of_own ho,HB7.out⟩)
   have k7:(j:Int)<=l.length:=by omega
   have HRN:Hid (∀ A2:Option Addr,Rd w7 9 1 0 A2 []):=hid (fun A2=>Rd.nil _ _ _ _)
   have HEND2:Hid (∀ v15 w8,w8.ownsRow w.heap.size 9 1 v15 (j+1+0) (rows noteC (l.take j)++[.string (str s)]++[])->Below w.heap.size w7 w8->RisPost l s w (.returned v15) w8):=hid (fun v15 w8 ho hb=>by
    have e:rows noteC (l.take j)++[.string (str s)]++[]=rows noteC (risT l s):=by
     rw [HZ.out,rows_append,rows_cons,List.drop_eq_nil_of_le (by omega),List.append_nil];rfl
    have hl2:j+1+0=(risT l s).length:=by
     rw [HZ.out,List.length_append,List.length_cons,List.length_take,List.length_drop];omega
    rw [e,hl2] at ho
    exact ⟨v15,rfl,(own_pos ho (by rw [<-hl2];omega)).elim fun g9 h9=>h9.elim fun c9 e9=>.inr ⟨g9,_,c9,e9⟩,RdV.of_own ho,HB7.out.trans hb⟩)
   subst hje
   rcases HV.out with hv|⟨g9,n9,c9,hv⟩
   .injection hv with hv1 hv2 hv3
    subst hv1 hv3
    go_wp2_with (at_builtin;go_must (refine wpList_app_rd _ rfl (.tmp 43) (.tmp 46) 37 rfl w.heap.size 9 1 16 _ Tryz.underlying37 eStr16 rfl (by omega) v14 (l.length+1) (rows noteC (l.take l.length)++[.string (str s)]) rfl HO7.out none 0 0 [] rfl (HRN.out _) (by simp) (by unfold maxLen;omega) (by omega) HB7.out.size ?_);intro v15 w8 hown8 hb8 hg8 hat8)
    have HPP:=hid (HEND2.out v15 w8 hown8 hb8)
    clear hown8 hb8 hg8 hat8
    go_ret
    exact HPP.out
   .injection hv with hv1 hv2 hv3
    subst hv1 hv2 hv3
    by_cases hc1:c=l.length
    .subst hc1
     go_wp2_with (at_builtin;go_must (refine wpList_app_rd _ rfl (.tmp 43) (.tmp 46) 37 rfl w.heap.size 9 1 16 _ Tryz.underlying37 eStr16 rfl (by omega) v14 (l.length+1) (rows noteC (l.take l.length)++[.string (str s)]) rfl HO7.out (some ⟨g9,0,none⟩) 0 0 [] rfl (HRN.out _) (by simp) (by unfold maxLen;omega) (by omega) HB7.out.size ?_);intro v15 w8 hown8 hb8 hg8 hat8)
     have HPP:=hid (HEND2.out v15 w8 hown8 hb8)
     clear hown8 hb8 hg8 hat8
     go_ret
     exact HPP.out
    .go_wp2_with (at_builtin;go_must (refine wpList_app_rd _ rfl (.tmp 43) (.tmp 46) 37 rfl w.heap.size 9 1 16 _ Tryz.underlying37 eStr16 rfl (by omega) v14 (l.length+1) (rows noteC (l.take l.length)++[.string (str s)]) rfl HO7.out (some ⟨g9,l.length,none⟩) 0 (c-l.length) [] rfl (HRN.out _) (by simp) (by unfold maxLen;omega) (by omega) HB7.out.size ?_);intro v15 w8 hown8 hb8 hg8 hat8)
     have HPP:=hid (HEND2.out v15 w8 hown8 hb8)
     clear hown8 hb8 hg8 hat8
     go_ret
     exact HPP.out
theorem risT_len (l:List T) (s:T):(risT l s).length<=l.length+1:=by
 unfold risT
 split
 .omega
 .rw [List.length_append,List.length_cons]
  have:=congrArg List.length (List.takeWhile_append_dropWhile (p:=fun x=>decide (x<s)) (l:=l))
  rw [List.length_append] at this
  omega
structure RXp (w w0:World) (xs:List RP) (now:Int) (j:Nat) (vl vw:Value) (wr:World):Prop where
 own:∃ ys:List RP,wr.ownsRow w0.heap.size 66 7 vl ys.length (rows rpC ys)/\ys.map (·.p)=expL ((xs.map (·.p)).take j) now/\(∀ y∈ys,y∈xs)/\ys.length<=j
 who:RdV wr 9 1 (expW ((xs.map (·.p)).take j) now).length vw (rows noteC (expW ((xs.map (·.p)).take j) now))/\OwnV vw/\(expW ((xs.map (·.p)).take j) now).length<=j
 be:Below w0.heap.size w0 wr
theorem RXp.gone {w w0 wr w4:World} {xs:List RP} {now:Int} {j:Nat} {vl vw v4:Value} (h:RXp w w0 xs now j vl vw wr) (hlt:j<xs.length) (hg:¬now<xs[j].p.until_) (hv:OwnV v4) (hr:RdV w4 9 1 (risT (expW ((xs.map (·.p)).take j) now) xs[j].p.who).length v4 (rows noteC (risT (expW ((xs.map (·.p)).take j) now) xs[j].p.who))) (hb:Below wr.heap.size wr w4):RXp w w0 xs now (j+1) vl v4 w4:=by
 obtain ⟨e1,e2⟩:=exp_gone (L:=xs.map (·.p)) (now:=now) (j:=j) (by simpa using hlt) (by simpa using hg)
 obtain ⟨ys,h1,h2,h3,h4⟩:=h.own
 have e3:(xs.map (·.p))[j]'(by simpa using hlt)=xs[j].p:=by simp
 rw [e3] at e2
 refine ⟨⟨ys,own_fr h1 (Fr.of_below (F:=fun _=>False) hb) (fun _ _ h=>h),by rw [e1];exact h2,h3,by omega⟩,?_,thenB_ h.be hb⟩
 rw [e2]
 exact ⟨hr,hv,by have:=risT_len (expW ((xs.map (·.p)).take j) now) xs[j].p.who;have:=h.who.2.2;omega⟩
theorem RXp.keep {w w0 wr w4:World} {xs:List RP} {now:Int} {j:Nat} {vl vw v4:Value} (h:RXp w w0 xs now j vl vw wr) (hlt:j<xs.length) (hg:now<xs[j].p.until_) {ys:List RP} (h1:wr.ownsRow w0.heap.size 66 7 vl ys.length (rows rpC ys)) (h2:ys.map (·.p)=expL ((xs.map (·.p)).take j) now) (h3:∀ y∈ys,y∈xs) (h4:ys.length<=j) (ho:w4.ownsRow w0.heap.size 66 7 v4 (ys.length+1) (rows rpC ys++rpC xs[j])) (hb:Below w0.heap.size wr w4) (hgr:wr.grownBy w4 vl.ownBlock):RXp w w0 xs now (j+1) v4 vw w4:=by
 obtain ⟨e1,e2⟩:=exp_keep (L:=xs.map (·.p)) (now:=now) (j:=j) (by simpa using hlt) (by simpa using hg)
 have e3:(xs.map (·.p))[j]'(by simpa using hlt)=xs[j].p:=by simp
 rw [e3] at e1
 refine ⟨⟨ys++[xs[j]],by rw [rows_snoc,List.length_append];exact ho,by rw [e1,List.map_append,h2];rfl,fun y hy=>?_,by rw [List.length_append,List.length_singleton];omega⟩,?_,h.be.trans hb⟩
 .rcases List.mem_append.1 hy with q|q
  .exact h3 y q
  .rw [List.mem_singleton] at q;subst q;exact List.getElem_mem hlt
 .rw [e2]
  refine ⟨h.who.1.fr (Fr.of_grown hgr (F:=fun k=>vl.ownBlock=some k) (fun k e=>e)) (fun gb cs fr hb e=>?_),h.who.2.1,by have:=h.who.2.2;omega⟩
  obtain ⟨ds,hc⟩:=own_tyS h1 e
  rw [hc] at hb
  injection hb with hb
  injection hb with _ hb _
  exact absurd hb (by decide)
def RXpPost (N:Nat->Prop) (B:Nat) (c:Conf) (last:Int) (L:List Pub) (now:Int) (w:World) (e:Ending) (w':World):Prop:=∃ v' u,e=.returned (.tuple #[.agg (rsV c last v'),u])/\NewL w N B (expL L now) v' w'/\RdV w' 9 1 (expW L now).length u (rows noteC (expW L now))
theorem RXp.fin {w w0 wr:World} {xs:List RP} {now last:Int} {j B:Nat} {N:Nat->Prop} {c:Conf} {vl vw:Value} (h:RXp w w0 xs now j vl vw wr) (hj:xs.length<=j) (hb0:Below w.heap.size w w0) (hs0:w0.heap.size=w.heap.size+2) (hk:Blk wr (w.heap.size+1) 60 #[.string ⟨#[]⟩,.int .i64 0,.int .i64 0,.int .i64 0,.int .i64 0,.int .i64 0,.int .i64 0,.int .i64 0,.slice none 0 0]) (hd:∀ W,Below w.heap.size w W->∀ x∈xs,DocB W B x.p.doc x.vt x.vn):∃ A5 n5 c5,vl=.slice A5 n5 c5/\∀ Wf,Wf=(((((((((wr.setCell ⟨(w.heap.size+1),0,none⟩ (.string (str c.host))).setCell ⟨(w.heap.size+1),1,none⟩ (.int .i64 c.calls)).setCell ⟨(w.heap.size+1),2,none⟩ (.int .i64 c.pubs)).setCell ⟨(w.heap.size+1),3,none⟩ (.int .i64 c.subs)).setCell ⟨(w.heap.size+1),4,none⟩ (.int .i64 c.least)).setCell ⟨(w.heap.size+1),5,none⟩ (.int .i64 c.most)).setCell ⟨(w.heap.size+1),6,none⟩ (.int .i64 c.usual)).setCell ⟨(w.heap.size+1),7,none⟩ (.int .i64 last)).setCell ⟨(w.heap.size+1),8,none⟩ vl)->(Wf.cell? ⟨w.heap.size+1,0,none⟩=some (.string (str c.host))/\Wf.cell? ⟨w.heap.size+1,1,none⟩=some (.int .i64 c.calls)/\Wf.cell? ⟨w.heap.size+1,2,none⟩=some (.int .i64 c.pubs)/\Wf.cell? ⟨w.heap.size+1,3,none⟩=some (.int .i64 c.subs)/\Wf.cell? ⟨w.heap.size+1,4,none⟩=some (.int .i64 c.least)/\Wf.cell? ⟨w.heap.size+1,5,none⟩=some (.int .i64 c.most)/\Wf.cell? ⟨w.heap.size+1,6,none⟩=some (.int .i64 c.usual)/\Wf.cell? ⟨w.heap.size+1,7,none⟩=some (.int .i64 last)/\Wf.cell? ⟨w.heap.size+1,8,none⟩=some vl)/\RXpPost N B c last (xs.map (·.p)) now w (.returned (.tuple #[.agg (rsV c last vl),vw])) Wf:=by
 obtain ⟨ys,ho,hy1,hy2,_⟩:=h.own
 obtain ⟨hw1,hw2,_⟩:=h.who
 rw [List.take_of_length_le (by simp;omega)] at hy1 hw1
 obtain ⟨A5,c5,e5,_⟩:=RdV.of_own ho
 refine ⟨A5,_,c5,e5,fun Wf hW=>?_⟩
 subst hW
 have hfr:=set9_fr wr (w.heap.size+1) (.string (str c.host)) (.int .i64 c.calls) (.int .i64 c.pubs) (.int .i64 c.subs) (.int .i64 c.least) (.int .i64 c.most) (.int .i64 c.usual) (.int .i64 last) vl
 have hr2:=set9_blk hk (.string (str c.host)) (.int .i64 c.calls) (.int .i64 c.pubs) (.int .i64 c.subs) (.int .i64 c.least) (.int .i64 c.most) (.int .i64 c.usual) (.int .i64 last) vl
 have hbw:=thenB_ hb0 h.be
 have hbf:Below w.heap.size w _:=hbw.trans (hfr.to_below hbw.size (fun k e=>by omega))
 have hof:=own_fr ho hfr (fun k hk e=>by have:=(ho.lt k hk).1;omega)
 refine ⟨⟨hr2.cell 0,hr2.cell 1,hr2.cell 2,hr2.cell 3,hr2.cell 4,hr2.cell 5,hr2.cell 6,hr2.cell 7,hr2.cell 8⟩,vl,vw,rfl,⟨?_,hbf⟩,?_⟩
 .rw [<-hy1]
  exact rl_own hof (fun k hk=>.inr (by omega)) (fun y hy=>hd _ hbf y (hy2 y hy))
 .exact hw1.fr hfr (fun gb cs fr hb e=>by
   subst e
   unfold Blk at hk
   rw [hk] at hb
   injection hb with hb
   injection hb with _ hb _
   exact absurd hb (by decide))
set_option maxRecDepth 100000 in
set_option maxHeartbeats 8000000 in
theorem rexp16_any {w:World} {N:Nat->Prop} {B:Nat} {L:List Pub} {v:Value} {c:Conf} {last now:Int} (H:RL w N B L v) (hB:B<=w.heap.size) (hl:L.length<=1000):Calls Tryz.prog 28 #[.agg (rsV c last v),.int .i64 now] w (RXpPost N B c last L now w):=by
 obtain ⟨xs,A,cp,rfl,rfl,hcp,hmx,hrd,_,hdoc⟩:=H
 rw [List.length_map] at hl
 obtain ⟨w0,hw0⟩:∃ w0,(w.alloc (.cells (rsV c last (.slice A xs.length cp)) 60)).alloc (.cells #[.string ⟨#[]⟩,.int .i64 0,.int .i64 0,.int .i64 0,.int .i64 0,.int .i64 0,.int .i64 0,.int .i64 0,.slice none 0 0] 60)=w0:=⟨_,rfl⟩
 obtain ⟨hb0,hs0,k1,k2⟩:=two_box hw0
 have HB0:=hid hb0
 have HS0:=hid hs0
 have HK1:=hid k1
 have HK2:=hid k2
 have HR:Hid (∀ W,Below w0.heap.size w0 W->Rd W 66 7 xs.length A (rows rpC xs)):=hid (fun W hW=>(hrd.below hb0).below hW)
 have HD:Hid (∀ W,Below w.heap.size w W->∀ x∈xs,DocB W B x.p.doc x.vt x.vn):=hid (fun W hW x hx=>(hdoc x hx).below (hW.mono hB))
 have HONE:Hid (∀ x∈xs,x.vt.oneCell'=true/\x.vn.oneCell'=true):=hid (fun x hx=>doc_one (hdoc x hx))
 have H0:Hid (RXp w w0 xs now 0 (.slice none 0 0) (.slice none 0 0) w0):=hid ⟨⟨[],⟨rfl,.inl ⟨rfl,rfl⟩⟩,by simp [expL],by simp,Nat.le_refl _⟩,⟨by rw [List.take_zero];exact ⟨none,0,rfl,Nat.le_refl _,by unfold maxLen;omega,Rd.nil _ _ _ _⟩,.inl rfl,by simp [expW,expD,risA]⟩,Below.refl _ _⟩
 clear hb0 hs0 k1 k2 hrd hdoc hmx
 go_enter Tryz.func28,Tryz.ntmps28
 go_wp2
 try rw [hw0]
 clear hw0
 go_loopw [6,7,8] (fun vl vw i wr=>∃ j:Nat,j<=xs.length/\i=.int .i64 j/\RXp w w0 xs now j vl vw wr) (fun _ _ i _=>xs.length-(intOf i).toNat)
 case atStart=>exact ⟨0,by omega,rfl,H0.out⟩
 case round =>
  obtain ⟨j,hj,rfl,hX⟩:=hrel
  have HX:=hid hX
  have c8:=(HK1.out _ hX.be).cell 8
  clear hX
  by_cases hlt:j<xs.length
  .have x0:(0:Int)<=j:=by omega
   have x1:(j:Int)<xs.length:=by omega
   obtain ⟨gb,off,rfl,_,y0,y1,y2,y3,y4,y5,y6⟩:=rp_rd (HR.out _ HX.out.be) hlt
   by_cases hu:now<xs[j].p.until_
   .obtain ⟨ys,ho,hy1,hy2,hy3⟩:=HX.out.own
    have q1:decide (xs[j].p.until_<=now)=false:=decide_eq_false (by omega)
    have q2:¬xs[j].p.until_<=now:=by omega
    have HO:=hid ho
    have HSZ:=hid HX.out.be.size
    have HO1:=hid (HONE.out _ (List.getElem_mem hlt))
    have HNX:=hid (fun (w4:World) (v4:Value) h5 h6 h7=>HX.out.keep (w4:=w4) (v4:=v4) hlt hu ho hy1 hy2 hy3 h5 h6 h7)
    clear ho hy1 hy2 hu
    go_wp2_with (at_builtin;go_must (refine wpList_app1' rfl (.tmp 32) (.tmp 38) 45 rfl w0.heap.size 66 7 112 _ Tryz.underlying45 ePub rfl (by omega) _ ys.length (rows rpC ys) rfl HO.out [.int .i64 xs[j].p.number,.string (str xs[j].p.who),.string (str xs[j].p.tag),.int .i64 xs[j].p.until_,.string (str xs[j].p.doc.ent),xs[j].vt,xs[j].vn] _ rfl (by first|rfl|(simp;done)) rfl (rpC_one xs[j] HO1.out.1 HO1.out.2) (by unfold maxLen;omega) (by omega) (by have:=HSZ.out;first|exact this|(simp;omega)) ?_);intro v4 w4 hown4 hb4 hg4 hat4)
    have HZ:=hid (HNX.out w4 v4 hown4 hb4 hg4)
    clear hown4 hb4 hg4 hat4
    go_roundw
    case rel=>exact ⟨j+1,by omega,by go_num,HZ.out⟩
    case measure=>simp [intOf] <;> omega
   .have q1:decide (xs[j].p.until_<=now)=true:=decide_eq_true (by omega)
    have q2:xs[j].p.until_<=now:=by omega
    have HRI:=hid (rising_any (s:=xs[j].p.who) HX.out.who.1 HX.out.who.2.1 (by have:=HX.out.who.2.2;omega))
    unfold RisPost at HRI
    have HNG:=hid (fun (w4:World) (v4:Value) h5 h6 h7=>HX.out.gone (w4:=w4) (v4:=v4) hlt hu h5 h6 h7)
    clear hu
    go_wp2_with fail
    refine (HRI.out).mono ?_
    rintro e w4 ⟨v4,rfl,ho4,hr4,hb4⟩
    have HZ:=hid (HNG.out w4 v4 ho4 hr4 hb4)
    clear ho4 hr4 hb4
    go_wp2
    go_roundw
    case rel=>exact ⟨j+1,by omega,by go_num,HZ.out⟩
    case measure=>simp [intOf] <;> omega
  .have x1:¬(j:Int)<xs.length:=by omega
   have hbe:=HX.out.be
   have c0:=(HK1.out _ hbe).cell 0
   have c1:=(HK1.out _ hbe).cell 1
   have c2:=(HK1.out _ hbe).cell 2
   have c3:=(HK1.out _ hbe).cell 3
   have c4:=(HK1.out _ hbe).cell 4
   have c5:=(HK1.out _ hbe).cell 5
   have c6:=(HK1.out _ hbe).cell 6
   have c7:=(HK1.out _ hbe).cell 7
   have r0:=(HK2.out _ hbe).cell 0
   have f0:=(HK2.out _ hbe).frozen 0
   have r1:=(HK2.out _ hbe).cell 1
   have f1:=(HK2.out _ hbe).frozen 1
   have r2:=(HK2.out _ hbe).cell 2
   have f2:=(HK2.out _ hbe).frozen 2
   have r3:=(HK2.out _ hbe).cell 3
   have f3:=(HK2.out _ hbe).frozen 3
   have r4:=(HK2.out _ hbe).cell 4
   have f4:=(HK2.out _ hbe).frozen 4
   have r5:=(HK2.out _ hbe).cell 5
   have f5:=(HK2.out _ hbe).frozen 5
   have r6:=(HK2.out _ hbe).cell 6
   have f6:=(HK2.out _ hbe).frozen 6
   have r7:=(HK2.out _ hbe).cell 7
   have f7:=(HK2.out _ hbe).frozen 7
   have r8:=(HK2.out _ hbe).cell 8
   have f8:=(HK2.out _ hbe).frozen 8
   obtain ⟨A5,n5,c5,hv,hF⟩:=HX.out.fin (N:=N) (c:=c) (last:=last) (by omega) HB0.out HS0.out (HK2.out _ hbe) HD.out
   subst hv
   obtain ⟨⟨e0,e1,e2,e3,e4,e5,e6,e7,e8⟩,hp⟩:=hF _ rfl
   have HP:=hid hp
   clear hp hF hbe
   go_wp2
   exact bodyPost_ret (v:=.tuple #[.agg #[.string (str c.host),.int .i64 c.calls,.int .i64 c.pubs,.int .i64 c.subs,.int .i64 c.least,.int .i64 c.most,.int .i64 c.usual,.int .i64 last,.slice A5 n5 c5],_]) (by simp [results,Tryz.results28,go_sem,e0,e1,e2,e3,e4,e5,e6,e7,e8]) rfl HP.out
theorem begun_no {c:Conf} (h:rightB c=false) (w:World):Calls Tryz.prog 10 #[.agg #[.string (str c.host),.int .i64 c.calls,.int .i64 c.pubs,.int .i64 c.subs,.int .i64 c.least,.int .i64 c.most,.int .i64 c.usual]] w fun e w'=>e=.returned (.pointer none)/\Below w.heap.size w w':=by
 obtain ⟨w0,hw0⟩:∃ w0,w.alloc (.cells #[.string (str c.host),.int .i64 c.calls,.int .i64 c.pubs,.int .i64 c.subs,.int .i64 c.least,.int .i64 c.most,.int .i64 c.usual] 27)=w0:=⟨_,rfl⟩
 obtain ⟨hb0,hk⟩:=conf_box hw0
 have HB0:=hid hb0
 have c0:=hk.cell 0
 have c1:=hk.cell 1
 have c2:=hk.cell 2
 have c3:=hk.cell 3
 have c4:=hk.cell 4
 have c5:=hk.cell 5
 have c6:=hk.cell 6
 have HN:=hid (stnew_no h w0)
 clear hb0 hk h
 go_enter Tryz.func10,Tryz.ntmps10
 go_upto_region 1 with (fail)
 try rw [hw0]
 clear hw0
 go_wp2_with fail
 refine (HN.out).mono ?_
 rintro e w1 ⟨rfl,hb1⟩
 have HP:=hid (thenB_ HB0.out hb1)
 clear hb1
 go_wp2
 go_ret
 exact ⟨rfl,HP.out⟩
end Go.Proofs.YthfmekdbcoaolaaGreatDoor
