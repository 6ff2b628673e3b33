/- Chapter 3: strings.Cut at a text of one byte. Chapter 3: uri.six. Chapter 3: uri.port. Chapter 3: what a host is, at texts. Chapter 3: rosterref03.Host. Chapter 3: how many parts a text splits into. Chapter 3: strings.genSplit at a text of one byte. Chapter 3: strings.Split at a text of one byte. -/
import Derived.Test.YthkadehlclcggaaGreatDoorGx08
import Derived.Test.YthkadehlclcggaaGreatDoorGx15
import Derived.Lib.IndexAny
import Derived.Lib.IndexLaws
namespace Go.Proofs.YthkadehlclcggaaGreatDoor
set_option linter.unusedSimpArgs false
set_option linter.unusedVariables false
open Go.RowKit
open Go.Lib (hid)
theorem to_of {s:ByteArray} {c:UInt8} {o:Nat} (h:∀ k,k<o->s.data.toList[k]?≠some c):AllTo (fun x=>decide (x≠c)) s o:=by
 unfold AllTo
 rw [List.all_eq_true]
 intro x hx
 obtain ⟨k,hk⟩:=List.mem_iff_getElem?.1 hx
 rw [List.getElem?_take] at hk
 by_cases e:k<o
 .rw [if_pos e] at hk
  exact decide_eq_true fun q=>h k e (q▸hk)
 .rw [if_neg e] at hk
  cases hk
theorem ix_cases (s:ByteArray) (c:UInt8):(Lib.indexByte s.data.toList c=-1/\AllTo (fun x=>decide (x≠c)) s s.size)\/∃ o,∃ h:o<s.size,Lib.indexByte s.data.toList c=(o:Int)/\s[o]=c/\AllTo (fun x=>decide (x≠c)) s o:=by
 have hg:=Lib.indexByte_ge s.data.toList c
 by_cases h:Lib.indexByte s.data.toList c=-1
 .exact .inl ⟨h,to_of fun k _=>Lib.indexByte_none h k⟩
 .obtain ⟨o,ho⟩:∃ o:Nat,Lib.indexByte s.data.toList c=(o:Int):=⟨(Lib.indexByte s.data.toList c).toNat,by omega⟩
  have h2:=Lib.indexByte_some ho
  have hlt:o<s.size:=by
   have:=(List.getElem?_eq_some_iff.1 h2.1).1
   simpa using this
  have h3:s[o]=c:=by
   have:=(List.getElem?_eq_some_iff.1 h2.1).2
   exact this
  exact .inr ⟨o,hlt,ho,h3,to_of h2.2⟩
def midT (s:ByteArray):T:=(s.data.toList.drop 1).dropLast
def okD (c:UInt8):Bool:=decide (c=58) || decide (c=46) || hexB c
def colT (s:ByteArray) (j:Nat):Nat:=(((midT s).take (j-1)).filter fun c=>decide (c=58)).length
def AllD (s:ByteArray) (j:Nat):Prop:=((midT s).take (j-1)).all okD=true
theorem mid_len (s:ByteArray):(midT s).length=s.size-2:=by unfold midT;simp;omega
theorem mid_step {s:ByteArray} {j:Nat} (h1:1<=j) (h2:j+1<s.size):(midT s).take (j+1-1)=(midT s).take (j-1)++[s[j]]:=by
 have hl:=mid_len s
 have e:j+1-1=(j-1)+1:=by omega
 rw [e,List.take_succ_eq_append_getElem (by omega)]
 congr 2
 unfold midT
 rw [List.getElem_dropLast,List.getElem_drop]
 have e2:1+(j-1)=j:=by omega
 simp only [e2]
 rfl
theorem col_step {s:ByteArray} {j:Nat} (h1:1<=j) (h2:j+1<s.size):colT s (j+1)=colT s j+if s[j]=58 then 1 else 0:=by
 unfold colT
 rw [mid_step h1 h2,List.filter_append,List.length_append]
 by_cases e:s[j]=58
 .simp [e]
 .simp [e]
theorem alld_step {s:ByteArray} {j:Nat} (h1:1<=j) (h2:j+1<s.size) (h:AllD s j) (hc:okD s[j]=true):AllD s (j+1):=by
 unfold AllD at *
 rw [mid_step h1 h2,List.all_append,h]
 simp [hc]
theorem six_eq {s:ByteArray} (h4:4<=s.size):sixB s.data.toList=(decide (s[s.size-1]'(by omega)=93)&&(midT s).all okD&&decide (2<=((midT s).filter fun c=>decide (c=58)).length)):=by
 have hl:s.data.toList.length=s.size:=by simp
 have e:s.data.toList.getLast?=some (s[s.size-1]'(by omega)):=by
  rw [List.getLast?_eq_getElem?,hl,List.getElem?_eq_getElem (by omega)]
  rfl
 unfold sixB
 rw [e,hl,decide_eq_true h4,Bool.true_and]
 congr 2
 simp
theorem six_small {s:ByteArray} (h4:s.size<4):sixB s.data.toList=false:=by
 have hl:s.data.toList.length=s.size:=by simp
 unfold sixB
 rw [hl,decide_eq_false (by omega)]
 rfl
theorem six_last {s:ByteArray} (h4:4<=s.size) (h:s[s.size-1]'(by omega)≠93):sixB s.data.toList=false:=by rw [six_eq h4,decide_eq_false h];rfl
theorem six_bad {s:ByteArray} {j:Nat} (h1:1<=j) (h2:j+1<s.size) (h4:4<=s.size) (hc:okD s[j]=false):sixB s.data.toList=false:=by
 have:(midT s).all okD=false:=by
  rw [List.all_eq_false]
  refine ⟨s[j],?_,by rw [hc];simp⟩
  have:=mid_step h1 h2
  exact List.mem_of_mem_take (by rw [this];simp)
 rw [six_eq h4,this]
 simp
theorem six_end {s:ByteArray} {j:Nat} (h4:4<=s.size) (hj:j+1=s.size) (h93:s[s.size-1]'(by omega)=93) (ha:AllD s j):sixB s.data.toList=decide (2<=colT s j):=by
 have hl:=mid_len s
 unfold AllD at ha
 unfold colT
 rw [List.take_of_length_le (by omega)] at *
 rw [six_eq h4,decide_eq_true h93,ha]
 simp
set_option maxRecDepth 100000 in
set_option maxHeartbeats 1000000 in
theorem six_any (s:ByteArray) (w:World) (hs:s.size<=1000000000):Calls Tryz.prog 155 #[.string s] w fun e w'=>e=.returned (.bool (sixB s.data.toList))/\w=w':=by
 by_cases h4:s.size<4
 .have HX:=hid (six_small h4)
  have z1:(s.size:Int)<4:=by omega
  clear h4
  go_enter Tryz.func155,Tryz.ntmps155
  go_wp2
  go_ret
  exact ⟨ret_bool HX.out.symm,rfl⟩
 .have h4:4<=s.size:=by omega
  have z1:¬(s.size:Int)<4:=by omega
  have r1:IntKind.i64.wrap ((s.size:Int)-1)=(s.size:Int)-1:=IntWalk.i64_in _ (by omega)
  have r2:(0:Int)<=(s.size:Int)-1:=by omega
  have r3:(s.size:Int)-1<s.size:=by omega
  have r4:((s.size:Int)-1).toNat=s.size-1:=by omega
  have r5:s.size-1<s.size:=by omega
  by_cases h93:s[s.size-1]'(by omega)=93
  .have e1:(((s[s.size-1]'(by omega)).toNat:Int) != 93)=false:=by rw [h93];rfl
   have H93:=hid h93
   clear h93
   go_enter Tryz.func155,Tryz.ntmps155
   go_wp2
   go_loop [3,4] (fun n i=>∃ j:Nat,1<=j/\j+1<=s.size/\i=.int .i64 j/\AllD s j/\∃ m:Nat,n=.int .i64 m/\m=colT s j/\m<=j) (fun _ i=>s.size-(intOf i).toNat)
   case atStart=>exact ⟨1,by omega,by omega,rfl,by simp [AllD],0,rfl,by simp [colT],by omega⟩
   case round =>
    obtain ⟨j,hj1,hj2,rfl,hA,m,rfl,hm,hmj⟩:=hrel
    have HA:=hid hA
    have HM:=hid hm
    clear hA hm
    by_cases hlt:j+1<s.size
    .have hjs:j<s.size:=by omega
     have HC:=hid (col_step hj1 hlt)
     have HAS:=hid (fun q=>alld_step hj1 hlt HA.out q)
     have HBD:=hid (fun q=>six_bad hj1 hlt h4 q)
     have y1:(j:Int)<(s.size:Int)-1:=by omega
     by_cases h58:s[j]=58
     .have e2:((s[j].toNat:Int) == 58)=true:=by rw [h58];rfl
      have HX:=hid (HAS.out (by unfold okD;rw [h58];rfl))
      have HY:Hid (m+1=colT s (j+1)):=hid (by rw [HC.out,HM.out,if_pos h58])
      clear h58
      go_wp2
      go_round
      case rel=>exact ⟨j+1,by omega,by omega,by go_num,HX.out,m+1,by go_num,HY.out,by omega⟩
      case measure=>simp [intOf] <;> omega
     .have e2:((s[j].toNat:Int) == 58)=false:=by
       rw [beq_eq_false_iff_ne]
       intro e
       exact h58 (UInt8.toNat_inj.1 (by simp;omega))
      have HY:Hid (m=colT s (j+1)):=hid (by rw [HC.out,HM.out,if_neg h58];rfl)
      by_cases h46:s[j]=46
      .have e3:((s[j].toNat:Int) != 46)=false:=by rw [h46];rfl
       have HX:=hid (HAS.out (by unfold okD;rw [h46];rfl))
       clear h58 h46
       go_wp2
       go_round
       case rel=>exact ⟨j+1,by omega,by omega,by go_num,HX.out,m,rfl,HY.out,by omega⟩
       case measure=>simp [intOf] <;> omega
      .have e3:((s[j].toNat:Int) != 46)=true:=by
        simp only [bne_iff_ne,ne_eq]
        intro q
        exact h46 (UInt8.toNat_inj.1 (by simp;omega))
       have HT:Hid (tstB 4 s[j]=hexB s[j]):=hid (tst_hex _)
       have HO:Hid (okD s[j]=hexB s[j]):=hid (by unfold okD;rw [decide_eq_false h58,decide_eq_false h46];rfl)
       clear h58 h46
       cases hh:hexB s[j] with
       | true =>
         have hpb:(bits .and .i64 (cls s[j]:Int) 4 == 0)=false:=by
          have q:=HT.out.trans hh
          unfold tstB at q
          simpa using q
         have HX:=hid (HAS.out (HO.out.trans hh))
         clear hh
         go_wp2_with (go_at_call 133;refine (class_any _ _).mono ?_;rintro e w' ⟨rfl,rfl⟩)
         go_round
         case rel=>exact ⟨j+1,by omega,by omega,by go_num,HX.out,m,rfl,HY.out,by omega⟩
         case measure=>simp [intOf] <;> omega
       | false =>
         have hpb:(bits .and .i64 (cls s[j]:Int) 4 == 0)=true:=by
          have q:=HT.out.trans hh
          unfold tstB at q
          simpa using q
         have HX:=hid (HBD.out (HO.out.trans hh))
         clear hh
         go_wp2_with (go_at_call 133;refine (class_any _ _).mono ?_;rintro e w' ⟨rfl,rfl⟩)
         go_ret
         exact ⟨ret_bool HX.out.symm,rfl⟩
    .have hje:j+1=s.size:=by omega
     have HX:=hid (six_end h4 hje H93.out HA.out)
     have y1:¬(j:Int)<(s.size:Int)-1:=by omega
     have HZ:Hid (decide (2<=(m:Int))=sixB s.data.toList):=hid (by
      rw [HX.out,<-HM.out]
      by_cases q:2<=m
      .rw [decide_eq_true q];exact decide_eq_true (by omega)
      .rw [decide_eq_false q];exact decide_eq_false (by omega))
     go_wp2
     go_ret
     exact ⟨ret_bool (by rw [<-HZ.out]),rfl⟩
  .have e1:(((s[s.size-1]'(by omega)).toNat:Int) != 93)=true:=by
    simp only [bne_iff_ne,ne_eq]
    intro q
    exact h93 (UInt8.toNat_inj.1 (by simp;omega))
   have HX:=hid (six_last h4 h93)
   clear h93
   go_enter Tryz.func155,Tryz.ntmps155
   go_wp2
   go_ret
   exact ⟨ret_bool HX.out.symm,rfl⟩
theorem num_port (s:ByteArray):(∃ n:Nat,0<n/\n<=65535/\portO s.data.toList=some n/\numV s 65535=.tuple #[.int .i64 (n:Int),.int .i64 0])\/(portO s.data.toList=none/\(numV s 65535=.tuple #[.int .i64 0,.int .i64 0]\/numV s 65535=.tuple #[.int .i64 0,.int .i64 9]\/numV s 65535=.tuple #[.int .i64 0,.int .i64 10])):=by
 have hemp:s=⟨#[]⟩<->s.data.toList=[]:=by
  constructor
  .rintro rfl;rfl
  .intro h
   cases s with|mk d=>exact congrArg ByteArray.mk (Array.toList_inj.1 (by simpa using h))
 by_cases h0:s=⟨#[]⟩
 .refine .inr ⟨?_,.inr (.inr (if_pos (.inl h0)))⟩
  unfold portO
  exact if_neg fun q=>q.1 (hemp.1 h0)
 .by_cases ha:allB dig s=false
  .refine .inr ⟨?_,.inr (.inr (if_pos (.inr ha)))⟩
   unfold portO
   exact if_neg fun q=>by have:=q.2.1;unfold allB at ha;rw [ha] at this;simp at this
  .have ha:allB dig s=true:=by simpa using ha
   have hneg:¬(s=⟨#[]⟩\/allB dig s=false):=by rw [ha];simp [h0]
   by_cases h1:valT s.data.toList<=65535
   .have hv:numV s 65535=.tuple #[.int .i64 (valT s.data.toList:Int),.int .i64 0]:=(if_neg hneg).trans (if_pos h1)
    by_cases h2:1<=valT s.data.toList
    .refine .inl ⟨valT s.data.toList,h2,h1,?_,hv⟩
     unfold portO
     exact if_pos ⟨fun q=>h0 (hemp.2 q),ha,h2,h1⟩
    .have e:valT s.data.toList=0:=by omega
     rw [e] at hv
     refine .inr ⟨?_,.inl hv⟩
     unfold portO
     exact if_neg fun q=>h2 q.2.2.1
   .refine .inr ⟨?_,.inr (.inl ((if_neg hneg).trans (if_neg h1)))⟩
    unfold portO
    exact if_neg fun q=>h1 q.2.2.2
theorem last_at {s:ByteArray} (h:0<s.size):s.data.toList.getLast?=some (s[s.size-1]'(by omega)):=by
 have hl:s.data.toList.length=s.size:=by simp
 rw [List.getLast?_eq_getElem?,hl,List.getElem?_eq_getElem (by omega)]
 rfl
theorem head_at {s:ByteArray} (h:0<s.size):s.data.toList.head?=some s[0]:=by
 have hl:s.data.toList.length=s.size:=by simp
 rw [List.head?_eq_getElem?,List.getElem?_eq_getElem (by omega)]
 rfl
theorem part_eq {s:ByteArray} (h:0<s.size):partB s.data.toList=(allB (tstB 64) s&&decide (s[0]≠45)&&decide (s[s.size-1]'(by omega)≠45)):=by
 have hl:s.data.toList.length=s.size:=by simp
 have hne:s.data.toList≠[]:=fun q=>by rw [q] at hl;simp at hl;omega
 have e:allB (tstB 64) s=s.data.toList.all hos:=congrFun (congrArg allB (funext tst_64)) s
 unfold partB
 rw [last_at h,head_at h,e,decide_eq_true hne,Bool.and_true]
 simp
theorem part_67 (s:ByteArray):allB (tstB 67) s=allB (tstB 64) s:=congrFun (congrArg allB (funext fun c=>(tst_67 c).trans (tst_64 c).symm)) s
theorem part_none {s:ByteArray} (h:s=⟨#[]⟩):partB s.data.toList=false:=by subst h;rfl
theorem part_no1 {s:ByteArray} (h:0<s.size) (a:allB (tstB 64) s=false):partB s.data.toList=false:=by rw [part_eq h,a];rfl
theorem part_no2 {s:ByteArray} (h:0<s.size) (a:s[0]=45):partB s.data.toList=false:=by rw [part_eq h];simp [a]
theorem part_no3 {s:ByteArray} (h:0<s.size) (a:s[s.size-1]'(by omega)=45):partB s.data.toList=false:=by rw [part_eq h];simp [a]
theorem part_yes {s:ByteArray} (h:0<s.size) (a:allB (tstB 64) s=true) (b:s[0]≠45) (c:s[s.size-1]'(by omega)≠45):partB s.data.toList=true:=by rw [part_eq h,a,decide_eq_true b,decide_eq_true c];rfl
theorem host_empty {s:ByteArray} (h:s.size=0):hostB s.data.toList=false:=by
 have hl:s.data.toList.length=s.size:=by simp
 have e:s.data.toList=[]:=List.eq_nil_of_length_eq_zero (by omega)
 rw [e]
 rfl
theorem host_long {s:ByteArray} (h:64<s.size):hostB s.data.toList=false:=by
 have hl:s.data.toList.length=s.size:=by simp
 unfold hostB
 rw [decide_eq_false (p:=s.data.toList.length<=64) (by omega)]
 simp
theorem low_iff (s:ByteArray):lowS s=s<->low s.data.toList=s.data.toList:=⟨fun h=>congrArg (fun x:ByteArray=>x.data.toList) h,fun h=>by unfold lowS;rw [h];rfl⟩
theorem host_caps {s:ByteArray} (h:lowS s≠s):hostB s.data.toList=false:=by
 unfold hostB
 rw [decide_eq_false (p:=low s.data.toList=s.data.toList) (fun q=>h ((low_iff s).2 q))]
 simp
theorem host_rest {s:ByteArray} (h:0<s.size) (h2:s.size<=64) (h3:lowS s=s):hostB s.data.toList=if s[0]=91 then sixB s.data.toList else (splitT 46 s.data.toList).all partB:=by
 have hl:s.data.toList.length=s.size:=by simp
 have hne:s.data.toList≠[]:=fun q=>by rw [q] at hl;simp at hl;omega
 unfold hostB
 rw [decide_eq_true hne,decide_eq_true (p:=s.data.toList.length<=64) (by omega),decide_eq_true ((low_iff s).1 h3),head_at h]
 simp
theorem rsix_end {s:ByteArray} {j:Nat} (hj:s.size<=j+1) (ha:AllD s j):sixB s.data.toList=(decide (4<=s.size)&&decide (s.data.toList.getLast?=some 93)&&decide (2<=colT s j)):=by
 have hl:=mid_len s
 have hls:s.data.toList.length=s.size:=by simp
 unfold AllD at ha
 unfold colT
 rw [List.take_of_length_le (by omega)] at *
 unfold sixB
 rw [hls]
 change _=_ at ha
 have ha2:((s.data.toList.drop 1).dropLast.all fun c=>decide (c=58) || decide (c=46) || hexB c)=true:=ha
 rw [ha2,Bool.and_true]
 rfl
theorem rsix_bad {s:ByteArray} {j:Nat} (h1:1<=j) (h2:j+1<s.size) (hc:okD s[j]=false):sixB s.data.toList=false:=by
 by_cases h4:4<=s.size
 .exact six_bad h1 h2 h4 hc
 .exact six_small (by omega)
def AllP (l:List T) (i:Nat):Prop:=(l.take i).all partB=true
theorem allp_step {l:List T} {i:Nat} (h:i<l.length) (a:AllP l i) (b:partB l[i]=true):AllP l (i+1):=by
 unfold AllP at *
 rw [List.take_succ_eq_append_getElem h,List.all_append,a]
 simp [b]
theorem split_lens (c:UInt8):∀ l:T,(splitT c l).length<=l.length+1/\∀ p∈splitT c l,p.length<=l.length
 | []=>by unfold splitT;simp
 | x::r=>by
   have ih:=split_lens c r
   conv =>
    lhs
    unfold splitT
   conv =>
    rhs
    unfold splitT
   by_cases h:x=c
   .rw [if_pos h]
    refine ⟨by simp only [List.length_cons];omega,fun p hp=>?_⟩
    rcases List.mem_cons.1 hp with q|q
    .subst q;simp
    .have:=ih.2 p q
     simp only [List.length_cons];omega
   .rw [if_neg h]
    cases e:splitT c r with
    | nil=>exact absurd e (split_ne c r)
    | cons a b =>
      rw [e] at ih
      refine ⟨by have:=ih.1;simp only [List.length_cons] at *;omega,fun p hp=>?_⟩
      rcases List.mem_cons.1 hp with q|q
      .subst q
       have:=ih.2 a (by simp)
       simp only [List.length_cons];omega
      .have:=ih.2 p (by simp [q])
       simp only [List.length_cons];omega
theorem allp_no {l:List T} {i:Nat} (h:i<l.length) (b:partB l[i]=false):l.all partB=false:=List.all_eq_false.2 ⟨l[i],List.getElem_mem h,by rw [b];simp⟩
theorem allp_end {l:List T} {i:Nat} (h:i=l.length) (a:AllP l i):l.all partB=true:=by unfold AllP at a;rwa [List.take_of_length_le (by omega)] at a
set_option maxRecDepth 100000 in
set_option maxHeartbeats 4000000 in
theorem rHost_any (s:ByteArray) (w:World) (hs:s.size<=9223372036854775807):Calls Tryz.prog 109 #[.string s] w fun e w'=>e=.returned (.bool (hostB s.data.toList))/\Below w.heap.size w w':=by
 by_cases h0:s.size=0
 .have HX:=hid (host_empty h0)
  have z1:((s.size:Int) == 0)=true:=by rw [h0];rfl
  go_enter Tryz.func109,Tryz.ntmps109
  go_wp2
  go_ret
  exact ⟨ret_bool HX.out.symm,Below.refl _ _⟩
 .have z1:((s.size:Int) == 0)=false:=by rw [beq_eq_false_iff_ne];omega
  by_cases h64:64<s.size
  .have HX:=hid (host_long h64)
   have z2:(64:Int)<s.size:=by omega
   go_enter Tryz.func109,Tryz.ntmps109
   go_wp2
   go_ret
   exact ⟨ret_bool HX.out.symm,Below.refl _ _⟩
  .have z2:¬(64:Int)<s.size:=by omega
   have HL:=hid (fun w=>rLower_any s w (by omega))
   by_cases hlow:lowS s=s
   .have HR:=hid (host_rest (by omega) (by omega) hlow)
    have hpos:0<s.size:=by omega
    have zp:(0:Int)<s.size:=by omega
    have e0:(s.toList != s.toList)=false:=by simp
    unfold LowPost at HL
    rw [hlow] at HL
    clear hlow
    by_cases h91:s[0]=91
    .have e1:((s[0].toNat:Int) == 91)=true:=by rw [h91];rfl
     have HX:=hid (HR.out.trans (if_pos h91))
     clear h91
     go_enter Tryz.func109,Tryz.ntmps109
     go_wp2_with (go_at_call 71;refine (HL.out _).mono ?_;rintro e w' ⟨rfl,hb⟩;have HB:=hid hb;clear hb)
     go_loop [3,4] (fun n i=>∃ j:Nat,1<=j/\(j+1<=s.size\/j=1)/\i=.int .i64 j/\AllD s j/\∃ m:Nat,n=.int .i64 m/\m=colT s j/\m<=j) (fun _ i=>s.size-(intOf i).toNat)
     case atStart=>exact ⟨1,by omega,.inr rfl,rfl,by simp [AllD],0,rfl,by simp [colT],by omega⟩
     case round =>
      obtain ⟨j,hj1,hj2,rfl,hA,m,rfl,hm,hmj⟩:=hrel
      have HA:=hid hA
      have HM:=hid hm
      clear hA hm
      have r1:IntKind.i64.wrap ((j:Int)+1)=(j:Int)+1:=IntWalk.i64_in _ (by omega)
      by_cases hlt:j+1<s.size
      .have hjs:j<s.size:=by omega
       have HC:=hid (col_step hj1 hlt)
       have HAS:=hid (fun q=>alld_step hj1 hlt HA.out q)
       have HBD:=hid (fun q=>rsix_bad hj1 hlt q)
       have y1:(j:Int)+1<s.size:=by omega
       by_cases h58:s[j]=58
       .have e2:((s[j].toNat:Int) == 58)=true:=by rw [h58];rfl
        have HX2:=hid (HAS.out (by unfold okD;rw [h58];rfl))
        have HY:Hid (m+1=colT s (j+1)):=hid (by rw [HC.out,HM.out,if_pos h58])
        clear h58
        go_wp2
        go_round
        case rel=>exact ⟨j+1,by omega,by omega,by go_num,HX2.out,m+1,by go_num,HY.out,by omega⟩
        case measure=>simp [intOf] <;> omega
       .have e2:((s[j].toNat:Int) == 58)=false:=by
         rw [beq_eq_false_iff_ne]
         intro e
         exact h58 (UInt8.toNat_inj.1 (by simp;omega))
        have HY:Hid (m=colT s (j+1)):=hid (by rw [HC.out,HM.out,if_neg h58];rfl)
        by_cases h46:s[j]=46
        .have e3:((s[j].toNat:Int) != 46)=false:=by rw [h46];rfl
         have HX2:=hid (HAS.out (by unfold okD;rw [h46];rfl))
         clear h58 h46
         go_wp2
         go_round
         case rel=>exact ⟨j+1,by omega,by omega,by go_num,HX2.out,m,rfl,HY.out,by omega⟩
         case measure=>simp [intOf] <;> omega
        .have e3:((s[j].toNat:Int) != 46)=true:=by
          simp only [bne_iff_ne,ne_eq]
          intro q
          exact h46 (UInt8.toNat_inj.1 (by simp;omega))
         have HT:Hid (tstB 4 s[j]=hexB s[j]):=hid (tst_hex _)
         have HO:Hid (okD s[j]=hexB s[j]):=hid (by unfold okD;rw [decide_eq_false h58,decide_eq_false h46];rfl)
         clear h58 h46
         cases hh:hexB s[j] with
         | true =>
           have hpb:(bits .and .i64 (cls s[j]:Int) 4 == 0)=false:=by
            have q:=HT.out.trans hh
            unfold tstB at q
            simpa using q
           have HX2:=hid (HAS.out (HO.out.trans hh))
           clear hh
           go_wp2_with (go_at_call 107;refine (rclass_any _ _).mono ?_;rintro e w' ⟨rfl,rfl⟩)
           go_round
           case rel=>exact ⟨j+1,by omega,by omega,by go_num,HX2.out,m,rfl,HY.out,by omega⟩
           case measure=>simp [intOf] <;> omega
         | false =>
           have hpb:(bits .and .i64 (cls s[j]:Int) 4 == 0)=true:=by
            have q:=HT.out.trans hh
            unfold tstB at q
            simpa using q
           have HX2:=hid (HX.out.trans (HBD.out (HO.out.trans hh)))
           clear hh
           go_wp2_with (go_at_call 107;refine (rclass_any _ _).mono ?_;rintro e w' ⟨rfl,rfl⟩)
           go_ret
           exact ⟨ret_bool HX2.out.symm,HB.out⟩
      .have y1:¬(j:Int)+1<s.size:=by omega
       have HE:=hid (HX.out.trans (rsix_end (by omega) HA.out))
       by_cases h4:4<=s.size
       .have q1:(4:Int)<=s.size:=by omega
        have r6:IntKind.i64.wrap ((s.size:Int)-1)=(s.size:Int)-1:=IntWalk.i64_in _ (by omega)
        have r2:(0:Int)<=(s.size:Int)-1:=by omega
        have r3:(s.size:Int)-1<s.size:=by omega
        have r4:((s.size:Int)-1).toNat=s.size-1:=by omega
        have r5:s.size-1<s.size:=by omega
        by_cases h93:s[s.size-1]'(by omega)=93
        .have e2:(((s[s.size-1]'(by omega)).toNat:Int) == 93)=true:=by rw [h93];rfl
         have HZ:Hid (decide (2<=(m:Int))=hostB s.data.toList):=hid (by
          rw [HE.out,<-HM.out,decide_eq_true h4,last_at hpos,h93]
          by_cases q:2<=m
          .rw [decide_eq_true q,decide_eq_true (p:=2<=(m:Int)) (by omega)];rfl
          .rw [decide_eq_false q,decide_eq_false (p:=2<=(m:Int)) (by omega)];rfl)
         clear h93
         go_wp2
         go_ret
         exact ⟨ret_bool (by rw [<-HZ.out]),HB.out⟩
        .have e2:(((s[s.size-1]'(by omega)).toNat:Int) == 93)=false:=by
          rw [beq_eq_false_iff_ne]
          intro e
          exact h93 (UInt8.toNat_inj.1 (by simp;omega))
         have HZ:Hid (hostB s.data.toList=false):=hid (by
          rw [HE.out,last_at hpos]
          simp [h93])
         clear h93
         go_wp2
         go_ret
         exact ⟨ret_bool HZ.out.symm,HB.out⟩
       .have q1:¬(4:Int)<=s.size:=by omega
        have HZ:Hid (hostB s.data.toList=false):=hid (by rw [HE.out,decide_eq_false h4];rfl)
        go_wp2
        go_ret
        exact ⟨ret_bool HZ.out.symm,HB.out⟩
    .have e1:((s[0].toNat:Int) == 91)=false:=by
      rw [beq_eq_false_iff_ne]
      intro e
      exact h91 (UInt8.toNat_inj.1 (by simp;omega))
     have HX:=hid (HR.out.trans (if_neg h91))
     have HSP:Hid (∀ w,Calls Tryz.prog 75 #[.string s,.int .u8 46] w (SplPost s 46 w)):=hid (fun w=>rSplit_any s 46 w (by omega))
     clear h91
     go_enter Tryz.func109,Tryz.ntmps109
     go_wp2_with (first|(go_at_call 71;refine (HL.out _).mono ?_;rintro e w1 ⟨rfl,hb⟩;have HB:=hid hb;clear hb)|(go_at_call 75;refine (HSP.out _).mono ?_;rintro e w2 ⟨v,rfl,hown,hb2⟩;have HO:=hid hown;have HB2:=hid (HB.out.trans (hb2.mono HB.out.size));clear hb2 hown))
     have hL0:0<(splitT 46 s.data.toList).length:=List.length_pos_iff.2 (split_ne 46 _)
     have hsl:=split_lens 46 s.data.toList
     have hls:s.data.toList.length=s.size:=by simp
     rw [hls] at hsl
     generalize splitT 46 s.data.toList=L at *
     have hLB:Hid (∀ i,∀ h:i<L.length,(str L[i]).size<=64):=hid (fun i h=>by
      have:=hsl.2 L[i] (List.getElem_mem h)
      show L[i].length<=64
      omega)
     have hll:L.length<=65:=by omega
     clear hsl hls
     obtain ⟨gg,cg,rfl⟩:=own_pos HO.out hL0
     have hcell:Hid (∀ i,∀ h:i<L.length,w2.cell? ⟨gg,i,none⟩=some (.string (str L[i]))):=hid (fun i h=>by
      rw [World.ownsRow.cellAt HO.out i (by omega),List.getElem?_map,List.getElem?_eq_getElem h]
      rfl)
     go_wp2
     go_loop [6] (fun i=>∃ j:Nat,j<=L.length/\i=.int .i64 j/\AllP L j) (fun i=>L.length-(intOf i).toNat)
     case atStart=>exact ⟨0,by omega,rfl,by simp [AllP]⟩
     case round =>
      obtain ⟨j,hj,rfl,hA⟩:=hrel
      have HA:=hid hA
      clear hA
      by_cases hlt:j<L.length
      .have zc:=hcell.out j hlt
       have hPs:=hLB.out j hlt
       have HNO:=hid (fun q=>HX.out.trans (allp_no hlt q))
       have HYES:=hid (fun q=>allp_step hlt HA.out q)
       have x0:(0:Int)<=j:=by omega
       have x1:(j:Int)<L.length:=by omega
       obtain ⟨P,hP⟩:∃ P,str L[j]=P:=⟨_,rfl⟩
       have hPl:L[j]=P.data.toList:=by rw [<-hP];rfl
       rw [hPl] at HNO HYES
       rw [hP] at zc hPs
       clear hP hPl
       by_cases hPe:P=⟨#[]⟩
       .have HZ:=hid (HNO.out (part_none hPe))
        subst hPe
        go_wp2
        go_ret
        exact ⟨ret_bool HZ.out.symm,HB2.out⟩
       .have hP0:0<P.size:=by
         rcases Nat.eq_zero_or_pos P.size with q|q
         .exact absurd (by cases P with|mk d=>exact congrArg ByteArray.mk (Array.eq_empty_of_size_eq_zero q)) hPe
         .exact q
        have hPi:=emp_no hPe
        have u0:(0:Int)<P.size:=by omega
        have r6:IntKind.i64.wrap ((P.size:Int)-1)=(P.size:Int)-1:=IntWalk.i64_in _ (by omega)
        have r2:(0:Int)<=(P.size:Int)-1:=by omega
        have r3:(P.size:Int)-1<P.size:=by omega
        have r4:((P.size:Int)-1).toNat=P.size-1:=by omega
        have r5:P.size-1<P.size:=by omega
        have HALL:=hid (fun w=>rall_any P 64 w (by omega))
        clear hPe
        cases ha:allB (tstB 64) P with
        | false =>
          have HZ:=hid (HNO.out (part_no1 hP0 ha))
          rw [ha] at HALL
          clear ha
          go_wp2_with (go_at_call 142;refine (HALL.out _).mono ?_;rintro e w' ⟨rfl,rfl⟩)
          go_ret
          exact ⟨ret_bool HZ.out.symm,HB2.out⟩
        | true =>
          rw [ha] at HALL
          by_cases h1:P[0]=45
          .have HZ:=hid (HNO.out (part_no2 hP0 h1))
           have e2:((P[0].toNat:Int) == 45)=true:=by rw [h1];rfl
           clear ha h1
           go_wp2_with (go_at_call 142;refine (HALL.out _).mono ?_;rintro e w' ⟨rfl,rfl⟩)
           go_ret
           exact ⟨ret_bool HZ.out.symm,HB2.out⟩
          .have e2:((P[0].toNat:Int) == 45)=false:=by
            rw [beq_eq_false_iff_ne]
            intro e
            exact h1 (UInt8.toNat_inj.1 (by simp;omega))
           by_cases h2:P[P.size-1]'(by omega)=45
           .have HZ:=hid (HNO.out (part_no3 hP0 h2))
            have e3:(((P[P.size-1]'(by omega)).toNat:Int) == 45)=true:=by rw [h2];rfl
            clear ha h1 h2
            go_wp2_with (go_at_call 142;refine (HALL.out _).mono ?_;rintro e w' ⟨rfl,rfl⟩)
            go_ret
            exact ⟨ret_bool HZ.out.symm,HB2.out⟩
           .have e3:(((P[P.size-1]'(by omega)).toNat:Int) == 45)=false:=by
             rw [beq_eq_false_iff_ne]
             intro e
             exact h2 (UInt8.toNat_inj.1 (by simp;omega))
            have HZ:=hid (HYES.out (part_yes hP0 ha h1 h2))
            clear ha h1 h2
            go_wp2_with (go_at_call 142;refine (HALL.out _).mono ?_;rintro e w' ⟨rfl,rfl⟩)
            go_round
            case rel=>exact ⟨j+1,by omega,by go_num,HZ.out⟩
            case measure=>simp [intOf] <;> omega
      .have x1:¬(j:Int)<L.length:=by omega
       have HZ:=hid (HX.out.trans (allp_end (by omega) HA.out))
       go_wp2
       go_ret
       exact ⟨ret_bool HZ.out.symm,HB2.out⟩
   .have HX:=hid (host_caps hlow)
    have e0:((lowS s).toList == s.toList)=false:=by rw [tol_dec,decide_eq_false hlow]
    have e00:¬((lowS s).toList=s.toList):=fun q=>by rw [q,beq_self_eq_true] at e0;cases e0
    clear hlow
    go_enter Tryz.func109,Tryz.ntmps109
    go_wp2_with (go_at_call 71;refine (HL.out _).mono ?_;rintro e w' ⟨rfl,hb⟩;have HB:=hid hb;clear hb)
    go_ret
    exact ⟨ret_bool HX.out.symm,HB.out⟩
theorem split_count (c:UInt8):∀ l:T,(splitT c l).length=l.count c+1
 | []=>by unfold splitT;simp
 | x::r=>by
   have ih:=split_count c r
   conv =>
    lhs
    unfold splitT
   by_cases h:x=c
   .rw [if_pos h,List.length_cons,ih,h,List.count_cons_self]
   .rw [if_neg h,List.count_cons_of_ne (by simpa using h)]
    cases e:splitT c r with
    | nil=>exact absurd e (split_ne c r)
    | cons a b =>
      rw [e] at ih
      simpa using ih
theorem split_here {s:ByteArray} {c:UInt8} {o:Nat} (h:o<s.size) (hn:AllTo (fun x=>decide (x≠c)) s o) (hc:s[o]=c) :
 splitT c s.data.toList=(s.extract 0 o).data.toList::splitT c (s.extract (o+1) s.size).data.toList/\(s.extract (o+1) s.size).data.toList.count c+1=s.data.toList.count c:=by
 have hl:s.data.toList.length=s.size:=by simp
 have e:s.data.toList=s.data.toList.take o++c::s.data.toList.drop (o+1):=by
  conv=>lhs;rw [<-List.take_append_drop o s.data.toList,drop_one h,hc]
 have hm:c∉s.data.toList.take o:=fun q=>absurd (List.all_eq_true.1 hn c q) (by simp)
 have e1:(s.extract 0 o).data.toList=s.data.toList.take o:=by
  rw [ext_str]
  show (s.data.toList.drop 0).take (o-0)=_
  simp
 have e2:(s.extract (o+1) s.size).data.toList=s.data.toList.drop (o+1):=by
  rw [ext_str]
  show (s.data.toList.drop (o+1)).take (s.size-(o+1))=_
  rw [List.take_of_length_le (by rw [List.length_drop];omega)]
 rw [e1,e2]
 refine ⟨?_,?_⟩
 .rw [split_cut c s.data.toList]
  have hcut:cutT c s.data.toList=(s.data.toList.take o,s.data.toList.drop (o+1),true):=by
   conv=>lhs;rw [e]
   exact cut_at hm _
  rw [hcut]
  simp
 .conv=>rhs;rw [e]
  rw [List.count_append,List.count_cons_self,List.count_eq_zero_of_not_mem hm]
  omega
structure GsRel (L:List T) (c:UInt8) (w:World) (g:Nat) (R:ByteArray) (i:Nat) (wr:World):Prop where
 own:∃ ps:List T,ps.length=i/\L=ps++splitT c R.data.toList/\i+R.data.toList.count c+1=L.length/\∃ z:List Value,z.length+i=L.length/\Blk wr g 9 (ps.map SC1++z).toArray
 be:Below w.heap.size w wr
def GsPost (s:ByteArray) (c:UInt8) (w:World) (e:Ending) (w':World):Prop :=
 ∃ g,e=.returned (.slice (some ⟨g,0,none⟩) (splitT c s.data.toList).length (splitT c s.data.toList).length)/\w.heap.size<=g/\Blk w' g 9 ((splitT c s.data.toList).map SC1).toArray/\Below w.heap.size w w'
theorem gs_set {ps:List T} {z:List Value} {i:Nat} (hp:ps.length=i) (hz:0<z.length) (P:ByteArray):((ps.map SC1++z).toArray).setIfInBounds i (.string P)=((ps++[P.data.toList]).map SC1++z.drop 1).toArray:=by
 rw [List.setIfInBounds_toArray]
 congr 1
 rw [List.set_append_right _ _ (by simp;omega),List.length_map,hp,Nat.sub_self,List.map_append,List.append_assoc]
 congr 1
 cases z with
 | nil=>simp at hz
 | cons a b=>rfl
set_option maxRecDepth 100000 in
set_option maxHeartbeats 2000000 in
theorem genSplit_any (s:ByteArray) (c:UInt8) (w:World) (hs:s.size<=1000000000) :
 Calls Tryz.prog 159 #[.string s,.string ⟨#[c]⟩,.int .i64 0,.int .i64 (-1)] w (GsPost s c w):=by
 have hl:(⟨#[c]⟩:ByteArray).size=1:=rfl
 have hcl:s.data.toList.count c<=s.size:=by
  have:=List.count_le_length (a:=c) (l:=s.data.toList)
  simpa using this
 have hsc:=split_count c s.data.toList
 have HC:=hid (Tryz.strings_Count_one s c)
 have he:(⟨#[c]⟩:ByteArray).toList.isEmpty=false:=emp_no (by intro q;injection q with q;simp at q)
 unfold Lib.countByte at HC
 unfold GsPost
 generalize hL:splitT c s.data.toList=L at *
 generalize hk:s.data.toList.count c=k at *
 have HL:=hid hL
 have HK:=hid hk
 clear hL hk
 have hmin:min (k:Int) (s.size:Int)=k:=by omega
 obtain ⟨z,hz,hmk⟩:∃ z:List Value,z.length=k+1/\∀ W:World,(Instr.makeSlice 35 (.int .i64 ((k:Int)+1)) (.int .i64 ((k:Int)+1))).run Tryz.prog W=.ok (.slice (some ⟨W.heap.size,0,none⟩) (k+1) (k+1)) (W.alloc (.cells z.toArray 9)):=by
  obtain ⟨i,h1,h2,h3,h4⟩:=e9i
  refine ⟨(madeCells (Value.string ⟨#[]⟩).cells ((k+1)*1)).toList,by have:=size_madeCells (Value.string ⟨#[]⟩).cells ((k+1)*1);simpa using this,fun W=>?_⟩
  have h:=run_make (P:=Tryz.prog) W 35 9 i (.string ⟨#[]⟩) Tryz.underlying35 h1 h2 .i64 .i64 ((k:Int)+1) ((k:Int)+1) (by omega) (by omega) (by rw [h4];omega) (by omega)
  rw [h,h3]
  have e:((k:Int)+1).toNat=k+1:=by omega
  rw [e]
 have H0:Hid (GsRel L c w w.heap.size s 0 (w.alloc (.cells z.toArray 9))):=hid ⟨⟨[],rfl,HL.out.symm,by rw [HK.out];omega,z,by omega,Blk.new w _ _⟩,(Below.refl _ _).alloc (by omega) _⟩
 obtain ⟨g,hg⟩:∃ g,w.heap.size=g:=⟨_,rfl⟩
 have HG:=hid hg
 have H0:Hid (GsRel L c w g s 0 (w.alloc (.cells z.toArray 9))):=by rw [hg] at H0;exact H0
 go_enter Tryz.func159,Tryz.ntmps159
 go_wp2_with (go_at_call 161;refine (HC.out _).mono ?_;rintro e w' ⟨rfl,hw⟩;rw [hw];clear hw)
 go_loopw [0,10] (fun r i wr=>∃ (R:ByteArray) (j:Nat),r=.string R/\i=.int .i64 j/\R.size<=s.size/\j<=k/\GsRel L c w g R j wr) (fun _ i _=>k-(intOf i).toNat)
 case atStart=>exact ⟨s,0,rfl,rfl,Nat.le_refl _,by omega,H0.out⟩
 case round =>
  obtain ⟨R,j,rfl,rfl,hRs,hjk,hR⟩:=hrel
  have hbs:=hR.be.size
  have HB:=hid hR.be
  obtain ⟨ps,hpl,hps,hcnt,zz,hzl,hblk⟩:=hR.own
  have HPS:=hid hps
  have HBK:=hid hblk
  have HCN:=hid hcnt
  clear hR hps hblk hcnt
  have zf:=HBK.out.frozen j
  have zc:wr.cell? ⟨g,j,none⟩=some (zz[0]'(by omega)):=by
   rw [HBK.out.cell,List.getElem?_toArray,List.getElem?_append_right (by simp;omega),List.length_map,hpl,Nat.sub_self,List.getElem?_eq_getElem (by omega)]
  have HST:=hid (fun P=>gs_set hpl (z:=zz) (by omega) P)
  have HSB:=hid (fun P=>HBK.out.set_ j (.string P))
  by_cases hlt:j<k
  .have x1:(j:Int)<k:=by omega
   have HIX:=hid (Tryz.strings_Index_one R c)
   rcases ix_cases R c with ⟨hd,hn⟩|⟨o,hol,hd,hc,hn⟩
   .exfalso
    have hm:c∉R.data.toList:=fun q=>by
     unfold AllTo at hn
     rw [List.take_of_length_le (by simp)] at hn
     exact absurd (List.all_eq_true.1 hn c q) (by simp)
    have:=HCN.out
    rw [List.count_eq_zero_of_not_mem hm] at this
    omega
   .have hsh:=split_here hol hn hc
    have hes:(R.extract (o+1) R.size).size=R.size-(o+1):=by rw [ByteArray.size_extract];omega
    have HN:Hid (∀ w4,Blk w4 g 9 ((ps++[(R.extract 0 o).data.toList]).map SC1++zz.drop 1).toArray->Below w.heap.size w w4->GsRel L c w g (R.extract (o+1) R.size) (j+1) w4):=hid (fun w4 a b =>
     ⟨⟨ps++[(R.extract 0 o).data.toList],by simp;omega,by rw [HPS.out,hsh.1,List.append_assoc];rfl,by have:=HCN.out;have:=hsh.2;omega,zz.drop 1,by rw [List.length_drop];omega,a⟩,b⟩)
    rw [hd] at HIX
    clear hsh hd hn hc
    have r1:IntKind.i64.wrap ((o:Int)+1)=(o:Int)+1:=IntWalk.i64_in _ (by omega)
    have x0:(0:Int)<=o:=by omega
    have x2:(o:Int)<=R.size:=by omega
    have x3:(0:Int)<=(o:Int)+1:=by omega
    have x4:(o:Int)+1<=R.size:=by omega
    have x5:((o:Int)+1).toNat=o+1:=by omega
    go_wp2_with (go_at_call 162;refine (HIX.out _).mono ?_;rintro e w' ⟨rfl,hw⟩;rw [hw];clear hw)
    have HX:=hid (HN.out _ (by have q:=HSB.out (R.extract 0 o);rw [HST.out] at q;exact q) (HB.out.setCell (by rw [HG.out];exact Nat.le_refl _) _))
    go_roundw
    case rel=>exact ⟨_,j+1,rfl,by go_num,by omega,by omega,HX.out⟩
    case measure=>simp [intOf] <;> omega
  .have hjk2:j=k:=by omega
   subst hjk2
   have HE:Hid (L=ps++[R.data.toList]/\zz.drop 1=[]):=hid (by
    have h1:=HCN.out
    have h2:R.data.toList.count c=0:=by omega
    have h3:=split_cut c R.data.toList
    rw [cut_no (List.count_eq_zero.1 h2)] at h3
    refine ⟨by rw [HPS.out,h3];simp,List.drop_eq_nil_of_le (by omega)⟩)
   have HF:Hid (Blk (wr.setCell ⟨g,j,none⟩ (.string R)) g 9 (L.map SC1).toArray):=hid (by
    have q:=HSB.out R
    rw [HST.out,HE.out.2,List.append_nil,<-HE.out.1] at q
    exact q)
   have HBF:=hid (HB.out.setCell (p:=⟨g,j,none⟩) (by rw [HG.out];exact Nat.le_refl _) (.string R))
   have HLL:Hid (L.length=j+1):=hid (by omega)
   have x1:¬(j:Int)<j:=by omega
   go_wp2
   go_ret
   exact ⟨g,by first|rfl|(rw [HLL.out];rfl),by first|exact Nat.le_refl _|(rw [HG.out];exact Nat.le_refl _),HF.out,by have q:=HBF.out;first|exact q|(rw [HG.out] at q;exact q)⟩
set_option maxRecDepth 100000 in
set_option maxHeartbeats 1000000 in
theorem Split_any (s:ByteArray) (c:UInt8) (w:World) (hs:s.size<=1000000000) :
 Calls Tryz.prog 156 #[.string s,.string ⟨#[c]⟩] w (GsPost s c w):=by
 have HC:=hid (fun w=>genSplit_any s c w hs)
 go_enter Tryz.func156,Tryz.ntmps156
 go_wp2_with (go_at_call 159;refine (HC.out _).mono ?_;rintro e w' ⟨g,rfl,h1,h2,h3⟩;have H1:=hid h1;have H2:=hid h2;have H3:=hid h3;clear h1 h2 h3)
 go_ret
 exact ⟨g,rfl,H1.out,H2.out,H3.out⟩
end Go.Proofs.YthkadehlclcggaaGreatDoor
