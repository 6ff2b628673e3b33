/- Chapter 3: rosterref01's Lower, Same, Number. Chapter 3: uri.Scheme, rosterref03.Scheme. Chapter 3: rosterref03.Has, Cut. Chapter 3: rosterref03.Split. Chapter 3: rosterref01.worth. Chapter 3: rosterref01.Unescape. Chapter 3: rosterref03.written. -/
import Derived.Test.YthkadehlclcggaaGreatDoorGx06
import Derived.Test.YthkadehlclcggaaGreatDoorGx01
import Derived.Deep.QuietTactic
import Derived.BigQuiet
import Derived.OwnWalk
namespace Go.Proofs.YthkadehlclcggaaGreatDoor
set_option linter.unusedSimpArgs false
set_option linter.unusedVariables false
open Go.RowKit
open Go.Lib (hid)
def lowTo (s:ByteArray) (k:Nat):List UInt8:=low (s.data.toList.take k)
theorem lowTo_succ {s:ByteArray} {k:Nat} (hk:k<s.size):lowTo s (k+1)=lowTo s k++[lo s[k]]:=by
 unfold lowTo low
 have e:s.data.toList.take (k+1)=s.data.toList.take k++[s[k]]:=by
  rw [List.take_succ_eq_append_getElem (by simpa using hk)]
  rfl
 rw [e,List.map_append]
 rfl
structure RLow (s:ByteArray) (w:World) (k:Nat) (v:Value) (wr:World):Prop where
 own:wr.ownsRow w.heap.size 5 1 v k ((lowTo s k).map B)
 be:Below w.heap.size w wr
theorem RLow.next {s:ByteArray} {w wr w4:World} {k:Nat} {v v4:Value} (H:RLow s w k v wr) (hk:k<s.size)
 (ho:w4.ownsRow w.heap.size 5 1 v4 (k+1) ((lowTo s k).map B++[B (lo s[k])])) (hb:Below w.heap.size wr w4):RLow s w (k+1) v4 w4:=by
 refine ⟨?_,H.be.trans hb⟩
 rw [lowTo_succ hk,List.map_append]
 exact ho
set_option maxRecDepth 100000 in
set_option maxHeartbeats 2000000 in
theorem rLower_any (s:ByteArray) (w:World) (hs:s.size<=140737488351232) :
 Calls Tryz.prog 71 #[.string s] w (LowPost s w):=by
 have H0:Hid (RLow s w 0 (.slice none 0 0) w):=hid ⟨⟨by simp [lowTo,low],.inl ⟨rfl,rfl⟩⟩,Below.refl _ _⟩
 go_enter Tryz.func71,Tryz.ntmps71
 go_wp2
 go_loopw [3,4] (fun v i wr=>∃ k:Nat,k<=s.size/\i=.int .i64 k/\RLow s w k v wr) (fun _ i _=>s.size-(intOf i).toNat)
 case atStart=>exact ⟨0,by omega,rfl,H0.out⟩
 case round =>
  obtain ⟨k,hk,rfl,hR⟩:=hrel
  have HR:=hid hR
  have HO:=hid hR.own
  have hbs:=hR.be.size
  clear hR
  by_cases hlt:k<s.size
  .have hn:(s[k].toNat:Int)<256:=by have:=s[k].toNat_lt;omega
   have hlN:=lo_N s[k]
   have HN:=hid (fun v4 w4 a b=>HR.out.next (v4:=v4) (w4:=w4) hlt a b)
   by_cases hc:65<=s[k].toNat/\s[k].toNat<=90
   .rw [if_pos hc] at hlN
    have z1:(65:Int)<=(s[k].toNat:Int):=by omega
    have z2:(s[k].toNat:Int)<=90:=by omega
    have r1:IntKind.u8.wrap ((s[k].toNat:Int)-65)=(s[k].toNat:Int)-65:=by rw [IntKind.wrap_u8];omega
    have r2:IntKind.u8.wrap ((s[k].toNat:Int)-65+97)=(s[k].toNat:Int)-65+97:=by rw [IntKind.wrap_u8];omega
    have hB:Hid ([.int .u8 ((s[k].toNat:Int)-65+97)]=[B (lo s[k])]):=hid (by unfold B;rw [hlN];congr 2;omega)
    clear hc hlN
    go_wp2_with (at_builtin;go_must (refine wpList_app1' rfl (.tmp 21) (.tmp 27) 59 rfl w.heap.size 5 1 1 _ Tryz.underlying59 e5i rfl (by omega) _ _ _ rfl HO.out [.int .u8 ((s[k].toNat:Int)-65+97)] _ rfl (by simp) rfl (by simp [B,Value.oneCell']) (by unfold maxLen;omega) (by omega) (by omega) ?_);intro v4 w4 hown4 hb4 hg4 hat4)
    have HX:=hid (HN.out v4 w4 (by rw [<-hB.out];exact hown4) hb4)
    clear hown4 hb4 hg4 hat4
    go_roundw
    case rel=>exact ⟨k+1,by omega,by go_num,HX.out⟩
    case measure=>simp [intOf] <;> omega
   .rw [if_neg hc] at hlN
    have hB:Hid ([B s[k]]=[B (lo s[k])]):=hid (by unfold B;rw [hlN])
    clear hlN
    by_cases z1:(65:Int)<=(s[k].toNat:Int)
    .have z2:(90:Int)<(s[k].toNat:Int):=by omega
     clear hc
     go_wp2_with (at_builtin;go_must (refine wpList_app1' rfl (.tmp 29) (.tmp 33) 59 rfl w.heap.size 5 1 1 _ Tryz.underlying59 e5i rfl (by omega) _ _ _ rfl HO.out [B s[k]] _ rfl (by simp) rfl (by simp [B,Value.oneCell']) (by unfold maxLen;omega) (by omega) (by omega) ?_);intro v4 w4 hown4 hb4 hg4 hat4)
     have HX:=hid (HN.out v4 w4 (by rw [<-hB.out];exact hown4) hb4)
     clear hown4 hb4 hg4 hat4
     go_roundw
     case rel=>exact ⟨k+1,by omega,by go_num,HX.out⟩
     case measure=>simp [intOf] <;> omega
    .have z1:(s[k].toNat:Int)<65:=by omega
     clear hc
     go_wp2_with (at_builtin;go_must (refine wpList_app1' rfl (.tmp 29) (.tmp 33) 59 rfl w.heap.size 5 1 1 _ Tryz.underlying59 e5i rfl (by omega) _ _ _ rfl HO.out [B s[k]] _ rfl (by simp) rfl (by simp [B,Value.oneCell']) (by unfold maxLen;omega) (by omega) (by omega) ?_);intro v4 w4 hown4 hb4 hg4 hat4)
     have HX:=hid (HN.out v4 w4 (by rw [<-hB.out];exact hown4) hb4)
     clear hown4 hb4 hg4 hat4
     go_roundw
     case rel=>exact ⟨k+1,by omega,by go_num,HX.out⟩
     case measure=>simp [intOf] <;> omega
  .obtain rfl:k=s.size:=by omega
   have hcv:=run_string_own (P:=Tryz.prog) 59 9 5 Tryz.underlying59 Tryz.underlying5 Tryz.underlying9 HO.out
   have HE:Hid (lowTo s s.size=low s.data.toList):=hid (by unfold lowTo;rw [List.take_of_length_le (by simp)])
   have HBE:=hid HR.out.be
   go_wp2
   go_ret
   exact ⟨by rw [HE.out];rfl,HBE.out⟩
theorem tol_dec (a b:ByteArray):(a.toList == b.toList)=decide (a=b):=by
 rw [ByteArray.toList_eq,ByteArray.toList_eq]
 by_cases h:a=b
 .rw [decide_eq_true h,h]
  exact beq_self_eq_true _
 .rw [decide_eq_false h]
  exact beq_eq_false_iff_ne.2 fun q=>h (by cases a with|mk x=>cases b with|mk y=>exact congrArg ByteArray.mk (Array.toList_inj.1 q))
theorem same_dec (a b:ByteArray):decide (lowS a=lowS b)=sameS a b:=by
 unfold sameS lowS
 by_cases h:low a.data.toList=low b.data.toList
 .rw [decide_eq_true h,h]
  exact decide_eq_true rfl
 .rw [decide_eq_false h]
  exact decide_eq_false fun q=>h (str_inj q)
set_option maxHeartbeats 200000 in
theorem rSame_any (a b:ByteArray) (w:World) (ha:a.size<=140737488351232) (hb:b.size<=140737488351232) :
 Calls Tryz.prog 132 #[.string a,.string b] w fun e w'=>e=.returned (.bool (sameS a b))/\Below w.heap.size w w':=by
 have he:Hid (decide (lowS a=lowS b)=sameS a b):=hid (same_dec a b)
 go_enter Tryz.func132,Tryz.ntmps132
 go_wp2_with (go_at_call 71;refine (rLower_any _ _ ?_).mono ?_;(first|exact ha|exact hb);rintro e w1 ⟨rfl,hb1⟩;(first|have HB1:=hid (HB1.out.trans (hb1.mono HB1.out.size))|have HB1:=hid hb1);clear hb1)
 go_ret
 exact ⟨by rw [<-he.out,<-tol_dec];rfl,HB1.out⟩
set_option maxHeartbeats 1000000 in
theorem rNumber_any (s:ByteArray) (most:Nat) (w:World) (hs:s.size<=9223372036854775807) (hm:most<=1000000000000) :
 Calls Tryz.prog 110 #[.string s,.int .i64 (most:Int)] w fun e w'=>e=.returned (numV s most)/\w=w':=by
 have hd:Hid (allB (tstB 1) s=allB dig s):=hid (congrFun (congrArg allB (funext tst_dig)) s)
 have HALL:=hid (rall_any s 1 w hs)
 by_cases he:s=⟨#[]⟩
 .have HN:Hid (numV s most=.tuple #[.int .i64 0,.int .i64 10]):=hid (if_pos (.inl he))
  subst he
  clear HALL
  go_enter Tryz.func110,Tryz.ntmps110
  go_wp2
  go_ret2
  exact ⟨by rw [HN.out];rfl,rfl⟩
 .have he2:s.toList.isEmpty=false:=emp_no he
  by_cases ha:allB dig s=true
  .have HA:=hid (hd.out.trans ha)
   have HN1:Hid (valT s.data.toList<=most->numV s most=.tuple #[.int .i64 (valT s.data.toList:Int),.int .i64 0]):=hid (fun h=>(if_neg (by simp [he,ha])).trans (if_pos h))
   have HN2:Hid (most<valT s.data.toList->numV s most=.tuple #[.int .i64 0,.int .i64 9]):=hid (fun h=>(if_neg (by simp [he,ha])).trans (if_neg (by omega)))
   have HD:Hid (allB dig s=true):=hid ha
   clear ha
   go_enter Tryz.func110,Tryz.ntmps110
   go_wp2_with (go_at_call 142;refine (HALL.out).mono ?_;rintro e w' ⟨rfl,rfl⟩;rw [HA.out])
   go_loop [6,7] (fun n i=>∃ k:Nat,k<=s.size/\i=.int .i64 k/\∃ v:Nat,n=.int .i64 v/\v=valTo s k/\v<=most) (fun _ i=>s.size-(intOf i).toNat)
   case atStart=>exact ⟨0,by omega,rfl,0,rfl,by simp [valTo,valT],by omega⟩
   case round =>
    obtain ⟨k,hk,rfl,v,rfl,hv,hvm⟩:=hrel
    have HV:=hid hv
    clear hv
    by_cases hlt:k<s.size
    .obtain ⟨D,hD9,hDs⟩:=dig_at hlt HD.out
     have HST:=hid (val_step hlt hDs)
     have HGE:=hid (val_ge s (k+1))
     have r1:(s[k].toNat:Int)=48+D:=by omega
     have r2:IntKind.u8.wrap ((48+(D:Int))-48)=(D:Int):=by rw [IntKind.wrap_u8];omega
     have r3:IntKind.i64.wrap (D:Int)=(D:Int):=IntWalk.i64_in _ (by omega)
     have r4:IntKind.i64.wrap ((most:Int)-D)=(most:Int)-D:=IntWalk.i64_in _ (by omega)
     have r5:IntKind.i64.wrap (10*(v:Int))=10*(v:Int):=IntWalk.i64_in _ (by omega)
     have r6:IntKind.i64.wrap (10*(v:Int)+D)=10*(v:Int)+D:=IntWalk.i64_in _ (by omega)
     have ov:Hid (most<valTo s (k+1)->numV s most=.tuple #[.int .i64 0,.int .i64 9]):=hid (fun h=>HN2.out (Nat.lt_of_lt_of_le h HGE.out))
     clear he
     by_cases h1:D<=most
     .by_cases h2:10*(v:Int)<=(most:Int)-D
      .have HX:Hid (10*v+D=valTo s (k+1)):=hid (by rw [HST.out,HV.out])
       go_wp2
       all_goals first|(exfalso;omega)|skip
       go_round
       case rel=>exact ⟨k+1,by omega,by go_num,10*v+D,by go_num,HX.out,by omega⟩
       case measure=>simp [intOf] <;> omega
      .have HX:=hid (ov.out (by rw [HST.out,<-HV.out];omega))
       go_wp2
       all_goals first|(exfalso;omega)|skip
       go_ret2
       exact ⟨by rw [HX.out];rfl,rfl⟩
     .have HX:=hid (ov.out (by rw [HST.out,<-HV.out];omega))
      go_wp2
      all_goals first|(exfalso;omega)|skip
      go_ret2
      exact ⟨by rw [HX.out];rfl,rfl⟩
    .obtain rfl:k=s.size:=by omega
     have HX:Hid (v=valT s.data.toList):=hid (by rw [HV.out];unfold valTo;rw [List.take_of_length_le (by simp)])
     have HY:=hid (HN1.out (by rw [<-HX.out];exact hvm))
     go_wp2
     go_ret2
     exact ⟨by rw [HY.out,<-HX.out];rfl,rfl⟩
  .have ha:allB dig s=false:=by simpa using ha
   have HA:=hid (hd.out.trans ha)
   have HN:Hid (numV s most=.tuple #[.int .i64 0,.int .i64 10]):=hid (if_pos (.inr ha))
   clear ha
   go_enter Tryz.func110,Tryz.ntmps110
   go_wp2_with (go_at_call 142;refine (HALL.out).mono ?_;rintro e w' ⟨rfl,rfl⟩;rw [HA.out])
   go_ret2
   exact ⟨by rw [HN.out];rfl,rfl⟩
theorem lit_eq (s:ByteArray) (l:T):(s.toList == l)=decide (s.data.toList=l):=by
 rw [ByteArray.toList_eq]
 by_cases h:s.data.toList=l
 .rw [decide_eq_true h,h]
  exact beq_self_eq_true _
 .rw [decide_eq_false h]
  exact beq_eq_false_iff_ne.2 h
theorem scheme_or (s:ByteArray):schemeB s.data.toList=((s.toList == [115,105,112]) || (s.toList == [115,105,112,115]) || (s.toList == [112,114,101,115])):=by
 rw [lit_eq,lit_eq,lit_eq]
 unfold schemeB
 simp only [Bool.decide_or,Bool.or_assoc]
set_option maxHeartbeats 1000000 in
theorem Scheme_any (s:ByteArray) (w:World):Calls Tryz.prog 135 #[.string s] w fun e w'=>e=.returned (.bool (schemeB s.data.toList))/\w=w':=by
 have HS:=hid (scheme_or s)
 cases h1:(s.toList == [115,105,112]) with
 | true =>
   have HX:Hid (schemeB s.data.toList=true):=hid (by rw [HS.out,h1];rfl)
   go_enter Tryz.func135,Tryz.ntmps135
   go_wp2
   go_ret
   exact ⟨ret_bool HX.out.symm,rfl⟩
 | false =>
   cases h2:(s.toList == [115,105,112,115]) with
   | true =>
     have HX:Hid (schemeB s.data.toList=true):=hid (by rw [HS.out,h1,h2];rfl)
     go_enter Tryz.func135,Tryz.ntmps135
     go_wp2
     go_ret
     exact ⟨ret_bool HX.out.symm,rfl⟩
   | false =>
     have HX:Hid (schemeB s.data.toList=(s.toList == [112,114,101,115])):=hid (by rw [HS.out,h1,h2];rfl)
     go_enter Tryz.func135,Tryz.ntmps135
     go_wp2
     go_ret
     exact ⟨ret_bool HX.out.symm,rfl⟩
set_option maxHeartbeats 1000000 in
theorem rScheme_any (s:ByteArray) (w:World):Calls Tryz.prog 72 #[.string s] w fun e w'=>e=.returned (.bool (schemeB s.data.toList))/\w=w':=by
 have HS:=hid (scheme_or s)
 cases h1:(s.toList == [115,105,112]) with
 | true =>
   have HX:Hid (schemeB s.data.toList=true):=hid (by rw [HS.out,h1];rfl)
   go_enter Tryz.func72,Tryz.ntmps72
   go_wp2
   go_ret
   exact ⟨ret_bool HX.out.symm,rfl⟩
 | false =>
   cases h2:(s.toList == [115,105,112,115]) with
   | true =>
     have HX:Hid (schemeB s.data.toList=true):=hid (by rw [HS.out,h1,h2];rfl)
     go_enter Tryz.func72,Tryz.ntmps72
     go_wp2
     go_ret
     exact ⟨ret_bool HX.out.symm,rfl⟩
   | false =>
     have HX:Hid (schemeB s.data.toList=(s.toList == [112,114,101,115])):=hid (by rw [HS.out,h1,h2];rfl)
     go_enter Tryz.func72,Tryz.ntmps72
     go_wp2
     go_ret
     exact ⟨ret_bool HX.out.symm,rfl⟩
set_option maxHeartbeats 1000000 in
theorem rHas_any (s:ByteArray) (c:UInt8) (w:World) (hs:s.size<=9223372036854775807) :
 Calls Tryz.prog 73 #[.string s,.int .u8 (c.toNat:Int)] w fun e w'=>e=.returned (.bool (inB s c))/\w=w':=by
 have hmem:Hid (inB s c=!(allB (fun x=>decide (x≠c)) s)):=hid (by
  unfold inB allB
  by_cases h:c∈s.data.toList
  .rw [decide_eq_true h,List.all_eq_false.2 ⟨c,h,by simp⟩];rfl
  .rw [decide_eq_false h,List.all_eq_true.2 (fun x hx=>decide_eq_true (show x≠c from fun e=>h (e▸hx)))];rfl)
 go_enter Tryz.func73,Tryz.ntmps73
 go_wp2
 go_loop [5] (fun i=>∃ j:Nat,j<=s.size/\i=.int .i64 j/\AllTo (fun x=>decide (x≠c)) s j) (fun i=>s.size-(intOf i).toNat)
 case atStart=>exact ⟨0,by omega,rfl,by simp [AllTo]⟩
 case round =>
  obtain ⟨j,hj,rfl,hrel⟩:=hrel
  have HR:=hid hrel
  clear hrel
  by_cases hlt:j<s.size
  .have HT:=hid (all_take hlt HR.out)
   have HF:=hid (fun q=>all_fail (p:=fun x=>decide (x≠c)) hlt q)
   by_cases hb:s[j]=c
   .have HX:=hid (HF.out (by simp [hb]))
    have heb:((s[j].toNat:Int) == c.toNat)=true:=by rw [hb];exact beq_self_eq_true _
    clear hb
    go_wp2
    go_ret
    exact ⟨ret_bool (by rw [hmem.out,show allB (fun x=>decide (x≠c)) s=_ from HX.out];rfl),rfl⟩
   .have HX:=hid (HT.out.trans (show (decide (s[j]≠c))=true from decide_eq_true hb))
    have heb:((s[j].toNat:Int) == c.toNat)=false:=by
     rw [beq_eq_false_iff_ne]
     intro e
     exact hb (UInt8.toNat_inj.1 (by omega))
    clear hb
    go_wp2
    go_round
    case rel=>exact ⟨j+1,by omega,by go_num,HX.out⟩
    case measure=>simp [intOf] <;> omega
  .obtain rfl:j=s.size:=by omega
   have HX:Hid (allB (fun x=>decide (x≠c)) s=true):=hid (by have:=HR.out;unfold AllTo at this;rwa [List.take_of_length_le (by simp)] at this)
   go_wp2
   go_ret
   exact ⟨ret_bool (by rw [hmem.out,show allB (fun x=>decide (x≠c)) s=_ from HX.out];rfl),rfl⟩
def cutV (s:ByteArray) (c:UInt8):Value:=.tuple #[.string (str (cutT c s.data.toList).1),.string (str (cutT c s.data.toList).2.1),.bool (cutT c s.data.toList).2.2]
theorem ext_str (s:ByteArray) (i j:Nat):s.extract i j=str ((s.data.toList.drop i).take (j-i)):=by
 have e:(s.extract i j).data.toList=(s.data.toList.drop i).take (j-i):=by
  rw [ByteArray.data_extract,Array.toList_extract]
  try rfl
 have e2:str (s.extract i j).data.toList=s.extract i j:=rfl
 rw [<-e2,e]
theorem cut_here {s:ByteArray} {c:UInt8} {j:Nat} (hj:j<s.size) (h:AllTo (fun x=>decide (x≠c)) s j) (hc:s[j]=c):cutV s c=.tuple #[.string (s.extract 0 j),.string (s.extract (j+1) s.size),.bool true]:=by
 have e:s.data.toList=s.data.toList.take j++c::s.data.toList.drop (j+1):=by
  conv=>lhs;rw [<-List.take_append_drop j s.data.toList,drop_one hj,hc]
 have hn:c∉s.data.toList.take j:=fun q=>by
  exact absurd (List.all_eq_true.1 h c q) (by simp)
 have hcut:cutT c s.data.toList=(s.data.toList.take j,s.data.toList.drop (j+1),true):=by
  conv=>lhs;rw [e]
  exact cut_at hn _
 have hl:s.data.toList.length=s.size:=by simp
 unfold cutV
 rw [hcut,ext_str,ext_str]
 simp only [List.drop_zero,Nat.sub_zero]
 rw [List.take_of_length_le (l:=s.data.toList.drop (j+1)) (by rw [List.length_drop];omega)]
theorem cut_none {s:ByteArray} {c:UInt8} (h:AllTo (fun x=>decide (x≠c)) s s.size):cutV s c=.tuple #[.string s,.string ⟨#[]⟩,.bool false]:=by
 have hn:c∉s.data.toList:=fun q=>by
  unfold AllTo at h
  rw [List.take_of_length_le (by simp)] at h
  exact absurd (List.all_eq_true.1 h c q) (by simp)
 unfold cutV
 rw [cut_no hn]
 rfl
set_option maxRecDepth 100000 in
set_option maxHeartbeats 1000000 in
theorem rCut_any (s:ByteArray) (c:UInt8) (w:World) (hs:s.size<=9223372036854775807) :
 Calls Tryz.prog 70 #[.string s,.int .u8 (c.toNat:Int)] w fun e w'=>e=.returned (cutV s c)/\∃ n,w'=w.drewN n:=by
 go_enter Tryz.func70,Tryz.ntmps70
 go_wp2
 go_loop [7] (fun i=>∃ j:Nat,j<=s.size/\i=.int .i64 j/\AllTo (fun x=>decide (x≠c)) s j) (fun i=>s.size-(intOf i).toNat)
 case atStart=>exact ⟨0,by omega,rfl,by simp [AllTo]⟩
 case round =>
  obtain ⟨j,hj,rfl,hrel⟩:=hrel
  have HR:=hid hrel
  clear hrel
  by_cases hlt:j<s.size
  .have HT:=hid (all_take hlt HR.out)
   by_cases hb:s[j]=c
   .have HX:=hid (cut_here hlt HR.out hb)
    have heb:((s[j].toNat:Int) == c.toNat)=true:=by rw [hb];exact beq_self_eq_true _
    have r1:IntKind.i64.wrap ((j:Int)+1)=(j:Int)+1:=IntWalk.i64_in _ (by omega)
    have x0:(0:Int)<=j:=by omega
    have x1:(j:Int)<=s.size:=by omega
    have x2:(0:Int)<=(j:Int)+1:=by omega
    have x3:(j:Int)+1<=s.size:=by omega
    have x4:((j:Int)+1).toNat=j+1:=by omega
    clear hb
    go_wp2
    go_quiet (fail)
    go_wp2
    go_ret3
    exact ⟨by rw [HX.out];rfl,_,rfl⟩
   .have HX:=hid (HT.out.trans (show (decide (s[j]≠c))=true from decide_eq_true hb))
    have heb:((s[j].toNat:Int) == c.toNat)=false:=by
     rw [beq_eq_false_iff_ne]
     intro e
     exact hb (UInt8.toNat_inj.1 (by omega))
    clear hb
    go_wp2
    go_round
    case rel=>exact ⟨j+1,by omega,by go_num,HX.out⟩
    case measure=>simp [intOf] <;> omega
  .obtain rfl:j=s.size:=by omega
   have HX:=hid (cut_none HR.out)
   go_wp2
   go_ret3
   exact ⟨by rw [HX.out];rfl,0,rfl⟩
theorem e9i:ElemInfo Tryz.prog 9 1 16 (.string ⟨#[]⟩):=ElemInfo.mk' (by kernel_rfl)
theorem split_ne (c:UInt8):∀ l:T,splitT c l≠[]
 | []=>by unfold splitT;simp
 | x::r=>by
   unfold splitT
   split
   .simp
   .split <;> simp
theorem split_cut (c:UInt8):∀ l:T,splitT c l=(cutT c l).1::(if (cutT c l).2.2=true then splitT c (cutT c l).2.1 else [])
 | []=>by unfold splitT cutT;simp
 | x::r=>by
   conv=>lhs;unfold splitT
   unfold cutT
   by_cases h:x=c
   .rw [if_pos h,if_pos h]
    exact congrArg ([]::·) (if_pos rfl).symm
   .rw [if_neg h,if_neg h,split_cut c r]
theorem cut_len (c:UInt8):∀ l:T,(cutT c l).2.2=true->(cutT c l).2.1.length+1<=l.length
 | [],h=>by unfold cutT at h;simp at h
 | x::r,h=>by
   unfold cutT at *
   by_cases e:x=c
   .rw [if_pos e]
    simp
   .rw [if_neg e] at h
    rw [if_neg e]
    have:=cut_len c r h
    simp only [List.length_cons] at *
    omega
def SC1 (p:T):Value:=.string (str p)
structure SpRel (s:ByteArray) (c:UInt8) (w:World) (v:Value) (R:ByteArray) (m:Bool) (wr:World):Prop where
 own:∃ ps:List T,wr.ownsRow w.heap.size 9 1 v ps.length (ps.map SC1)/\(m=true->splitT c s.data.toList=ps++splitT c R.data.toList/\ps.length+R.size<=s.size)/\(m=false->splitT c s.data.toList=ps)
 be:Below w.heap.size w wr
def SplPost (s:ByteArray) (c:UInt8) (w:World) (e:Ending) (w':World):Prop :=
 ∃ v,e=.returned v/\w'.ownsRow w.heap.size 9 1 v (splitT c s.data.toList).length ((splitT c s.data.toList).map SC1)/\Below w.heap.size w w'
set_option maxRecDepth 100000 in
set_option maxHeartbeats 2000000 in
theorem rSplit_any (s:ByteArray) (c:UInt8) (w:World) (hs:s.size<=1000000000) :
 Calls Tryz.prog 75 #[.string s,.int .u8 (c.toNat:Int)] w (SplPost s c w):=by
 have H0:Hid (SpRel s c w (.slice none 0 0) s true w):=hid ⟨⟨[],⟨by simp,.inl ⟨rfl,rfl⟩⟩,fun _=>⟨rfl,by simp⟩,fun h=>by simp at h⟩,Below.refl _ _⟩
 go_enter Tryz.func75,Tryz.ntmps75
 go_wp2
 go_loopw [0,5,6] (fun r v m wr=>∃ (R:ByteArray) (b:Bool),r=.string R/\m=.bool b/\(b=true->R.size<=s.size)/\SpRel s c w v R b wr) (fun r _ m _=>match r,m with|.string R,.bool true=>R.size+1|_,_=>0)
 case atStart=>exact ⟨s,true,rfl,rfl,fun _=>Nat.le_refl _,H0.out⟩
 case round =>
  obtain ⟨R,b,rfl,rfl,hRs,hR⟩:=hrel
  have hbs:=hR.be.size
  have HB:=hid hR.be
  obtain ⟨ps,hown,h1,h2⟩:=hR.own
  have HO:=hid hown
  clear hR hown
  cases b with
  | false =>
    have HE:=hid (h2 rfl)
    clear h1 h2 hRs
    go_wp2
    go_ret
    exact ⟨_,rfl,by rw [HE.out];exact HO.out,HB.out⟩
  | true =>
    have HE:=hid (h1 rfl)
    have hRs:=hRs rfl
    have hps:ps.length<=s.size:=by have:=HE.out.2;omega
    clear h1 h2
    have HS:=hid (split_cut c R.data.toList)
    have HL:=hid (cut_len c R.data.toList)
    have HC:=hid (fun w=>rCut_any R c w (by omega))
    have hRl:R.data.toList.length=R.size:=by simp
    have HV:Hid (cutV R c=.tuple #[.string (str (cutT c R.data.toList).1),.string (str (cutT c R.data.toList).2.1),.bool (cutT c R.data.toList).2.2]):=hid rfl
    generalize cutT c R.data.toList=t at *
    obtain ⟨p,q,f⟩:=t
    have HN:Hid (∀ v4 w4,w4.ownsRow w.heap.size 9 1 v4 (ps.length+1) (ps.map SC1++[.string (str p)])->Below w.heap.size wr w4->SpRel s c w v4 (str q) f w4):=hid (fun v4 w4 a b =>
     ⟨⟨ps++[p],by rw [List.length_append,List.map_append];exact a,fun h=>by
      refine ⟨?_,?_⟩
      .rw [HE.out.1,HS.out]
       simp only [h,if_true]
       rw [List.append_assoc]
       rfl
      .have:=HL.out h
       have e:(str q).size=q.length:=rfl
       have:=HE.out.2
       simp only [List.length_append,List.length_cons,List.length_nil] at *
       omega,fun h=>by
      rw [HE.out.1,HS.out]
      simp only [h]
      rfl⟩,HB.out.trans b⟩)
    have HQ:Hid (f=true->(str q).size+1<=R.size):=hid (fun h=>by
     have:=HL.out h
     have e:(str q).size=q.length:=rfl
     simp only at *
     omega)
    go_wp2_with (first|(go_at_call 70;refine (HC.out _).mono ?_;rintro e w' ⟨rfl,n,rfl⟩;rw [HV.out])|(at_builtin;(refine wpList_app1' rfl (.tmp 16) (.tmp 18) 35 rfl w.heap.size 9 1 16 _ Tryz.underlying35 e9i rfl (by omega) _ _ _ rfl (own_fr HO.out ((Fr.refl (fun _=>False) _).drewN _) (fun _ _ h=>h)) [.string (str p)] _ rfl (by first|(simp;done)|rfl) rfl (by intro u hu;simp at hu;subst hu;rfl) (by unfold maxLen;omega) (by omega) (by show w.heap.size<=wr.heap.size;omega) ?_);intro v4 w4 hown4 hb4 hg4 hat4))
    have HX:=hid (HN.out v4 w4 hown4 (((Fr.refl (fun _=>False) wr).drewN _).to_below hbs (fun _ h=>h.elim) |>.trans hb4))
    clear hown4 hb4 hg4 hat4
    go_roundw
    case rel=>exact ⟨str q,f,rfl,rfl,fun h=>by have:=HQ.out h;omega,HX.out⟩
    case measure =>
     cases f with
     | true=>have:=HQ.out rfl;show (str q).size+1<R.size+1;omega
     | false=>show 0<R.size+1;omega
def rwor (c:UInt8):Int:=if hexB c then ((wor c).toNat:Int) else -1
def NoW (c:UInt8) (j:Nat):Prop:=∀ i,i<j->hx (UInt8.ofNat i)≠c/\lo (hx (UInt8.ofNat i))≠c
theorem rwor_yes {c:UInt8} {j:Nat} (hj:j<16) (h:hx (UInt8.ofNat j)=c\/lo (hx (UInt8.ofNat j))=c):rwor c=(j:Int):=by
 have h1:=(by decide +kernel:∀ a:Fin 16,rwor (hx (UInt8.ofNat a.val))=(a.val:Int)/\rwor (lo (hx (UInt8.ofNat a.val)))=(a.val:Int)) ⟨j,hj⟩
 rcases h with h|h <;> subst h
 .exact h1.1
 .exact h1.2
theorem rwor_no {c:UInt8} (h:NoW c 16):rwor c=-1:=by
 have h1:=all_u8 (p:=fun c=>!hexB c || (List.range 16).any fun i=>decide (hx (UInt8.ofNat i)=c) || decide (lo (hx (UInt8.ofNat i))=c)) (by decide +kernel) c
 unfold rwor
 by_cases hc:hexB c=true
 .rw [hc] at h1
  simp only [Bool.not_true,Bool.false_or] at h1
  obtain ⟨i,hi,h2⟩:=List.any_eq_true.1 h1
  have hi:=List.mem_range.1 hi
  have h3:=h i hi
  simp only [Bool.or_eq_true,decide_eq_true_eq] at h2
  rcases h2 with h2|h2
  .exact absurd h2 h3.1
  .exact absurd h2 h3.2
 .rw [if_neg hc]
set_option maxRecDepth 100000 in
set_option maxHeartbeats 1000000 in
theorem rworth_any (c:UInt8) (w:World):Calls Tryz.prog 141 #[.int .u8 (c.toNat:Int)] w fun e w'=>e=.returned (.int .i64 (rwor c))/\Below w.heap.size w w':=by
 go_enter Tryz.func141,Tryz.ntmps141
 go_wp2
 go_loopw [3] (fun i wr=>∃ j:Nat,j<=16/\i=.int .i64 j/\NoW c j/\Below w.heap.size w wr) (fun i _=>16-(intOf i).toNat)
 case atStart=>exact ⟨0,by omega,rfl,fun i hi=>by omega,Below.refl _ _⟩
 case round =>
  obtain ⟨j,hj,rfl,hN,hB⟩:=hrel
  have HN:=hid hN
  have HB:=hid hB
  have hbs:=hB.size
  clear hN hB
  by_cases hlt:j<16
  .have hd1:(j:Int)<((⟨#[48,49,50,51,52,53,54,55,56,57,65,66,67,68,69,70]⟩:ByteArray).size:Int):=by show (j:Int)<((16:Nat):Int);omega
   have hS:j<(⟨#[48,49,50,51,52,53,54,55,56,57,65,66,67,68,69,70]⟩:ByteArray).size:=hlt
   have hx0:((⟨#[48,49,50,51,52,53,54,55,56,57,65,66,67,68,69,70]⟩:ByteArray)[j]'hS)=hx (UInt8.ofNat j):=six_hx (a:=j) hS
   by_cases h1:hx (UInt8.ofNat j)=c
   .have HX:=hid (rwor_yes hlt (.inl h1))
    have e1:((((⟨#[48,49,50,51,52,53,54,55,56,57,65,66,67,68,69,70]⟩:ByteArray)[j]'hS).toNat:Int) == (c.toNat:Int))=true:=by rw [hx0,h1];exact beq_self_eq_true _
    clear h1 hx0
    go_wp2
    go_ret
    exact ⟨by rw [HX.out];rfl,HB.out⟩
   .have e1:((((⟨#[48,49,50,51,52,53,54,55,56,57,65,66,67,68,69,70]⟩:ByteArray)[j]'hS).toNat:Int) == (c.toNat:Int))=false:=by
     rw [hx0,beq_eq_false_iff_ne]
     intro q
     exact h1 (UInt8.toNat_inj.1 (by omega))
    have hex:lowS ((⟨#[48,49,50,51,52,53,54,55,56,57,65,66,67,68,69,70]⟩:ByteArray).extract j (j+1))=str [lo (hx (UInt8.ofNat j))]:=by
     have:=(by decide +kernel:∀ a:Fin 16,((⟨#[48,49,50,51,52,53,54,55,56,57,65,66,67,68,69,70]⟩:ByteArray).extract a.val (a.val+1)).data.toList=[hx (UInt8.ofNat a.val)]) ⟨j,hlt⟩
     unfold lowS low
     rw [this]
     rfl
    have HL:Hid (∀ w,Calls Tryz.prog 71 #[.string ((⟨#[48,49,50,51,52,53,54,55,56,57,65,66,67,68,69,70]⟩:ByteArray).extract j (j+1))] w fun e w'=>e=.returned (.string (str [lo (hx (UInt8.ofNat j))]))/\Below w.heap.size w w'):=hid (fun w=>(rLower_any _ w (by rw [ByteArray.size_extract];omega)).mono (fun _ _ ⟨he,hb⟩=>⟨by rw [he,hex],hb⟩))
    obtain ⟨Y,hY⟩:∃ Y,str [lo (hx (UInt8.ofNat j))]=Y:=⟨_,rfl⟩
    have hY1:Y.size=1:=by rw [<-hY];rfl
    have hY0:Hid (Y[0]'(by omega)=lo (hx (UInt8.ofNat j))):=hid (by subst hY;rfl)
    rw [hY] at HL
    have hYs:(0:Int)<(Y.size:Int):=by omega
    clear hex hY
    by_cases h2:lo (hx (UInt8.ofNat j))=c
    .have HX:=hid (rwor_yes hlt (.inr h2))
     have e2:(((Y[0]'(by omega)).toNat:Int) == (c.toNat:Int))=true:=by rw [hY0.out,h2];exact beq_self_eq_true _
     clear h1 h2 hx0
     go_wp2_with (go_at_call 71;refine (HL.out _).mono ?_;rintro e w' ⟨rfl,hb⟩;have HB2:=hid (HB.out.trans (hb.mono hbs));clear hb)
     go_ret
     exact ⟨by rw [HX.out];rfl,HB2.out⟩
    .have e2:(((Y[0]'(by omega)).toNat:Int) == (c.toNat:Int))=false:=by
      rw [hY0.out,beq_eq_false_iff_ne]
      intro q
      exact h2 (UInt8.toNat_inj.1 (by omega))
     have HX:Hid (NoW c (j+1)):=hid (fun i hi=>by
      rcases Nat.lt_or_eq_of_le (Nat.le_of_lt_succ hi) with q|rfl
      .exact HN.out i q
      .exact ⟨h1,h2⟩)
     clear h1 h2 hx0
     go_wp2_with (go_at_call 71;refine (HL.out _).mono ?_;rintro e w' ⟨rfl,hb⟩;have HB2:=hid (HB.out.trans (hb.mono hbs));clear hb)
     go_roundw
     case rel=>exact ⟨j+1,by omega,by go_num,HX.out,HB2.out⟩
     case measure=>simp [intOf] <;> omega
  .obtain rfl:j=16:=by omega
   have HX:=hid (rwor_no HN.out)
   go_wp2
   go_ret
   exact ⟨by rw [HX.out];rfl,HB.out⟩
theorem frc {a b c:World} (h:Fr (fun _=>False) a b) (hb:Below b.heap.size b c):Fr (fun _=>False) a c:=h.trans (G:=fun _=>False) (Fr.of_below hb) (fun _ _ q=>q.elim)
theorem rwor_hex {c:UInt8} (h:hexB c=true):rwor c=((wor c).toNat:Int):=if_pos h
theorem rwor_not {c:UInt8} (h:hexB c=false):rwor c=-1:=by unfold rwor;rw [h];rfl
theorem wor_lt {c:UInt8} (h:hexB c=true):(wor c).toNat<16:=by
 have:=all_u8 (p:=fun c=>!hexB c || decide ((wor c).toNat<16)) (by decide +kernel) c
 simpa [h] using this
theorem wor_sum {a b:UInt8} (ha:hexB a=true) (hb:hexB b=true):(wor a*16+wor b).toNat=16*(wor a).toNat+(wor b).toNat:=by
 have h1:=wor_lt ha
 have h2:=wor_lt hb
 rw [UInt8.toNat_add,UInt8.toNat_mul]
 show ((wor a).toNat*16 % 256+(wor b).toNat) % 256=_
 omega
set_option maxRecDepth 100000 in
set_option maxHeartbeats 4000000 in
theorem rUnescape_any (s:ByteArray) (w:World) (hs:s.size<=140737488351232) :
 Calls Tryz.prog 108 #[.string s] w (UnPost s w):=by
 have H0:Hid (UnRel s w 0 (.slice none 0 0) w):=hid ⟨⟨[],by simp,⟨rfl,.inl ⟨rfl,rfl⟩⟩,by simp⟩,Below.refl _ _⟩
 go_enter Tryz.func108,Tryz.ntmps108
 go_wp2
 go_loopw [4,5] (fun v i wr=>∃ k:Nat,k<=s.size/\i=.int .i64 k/\UnRel s w k v wr) (fun _ i _=>s.size-(intOf i).toNat)
 case atStart=>exact ⟨0,by omega,rfl,H0.out⟩
 case round =>
  obtain ⟨k,hk,rfl,hR⟩:=hrel
  have hbs:=hR.be.size
  have HB:=hid hR.be
  obtain ⟨out,hol,hown,hun⟩:=hR.own
  have HO:=hid hown
  have HU:=hid hun
  clear hR hown hun
  have HF:Hid (Fr (fun _=>False) wr wr):=hid (Fr.refl _ _)
  by_cases hlt:k<s.size
  .have hn:(s[k].toNat:Int)<256:=by have:=s[k].toNat_lt;omega
   have x0:(0:Int)<=k:=by omega
   have x1:(k:Int)<s.size:=by omega
   by_cases h37:s[k]=37
   .have e1:((s[k].toNat:Int) != 37)=false:=by rw [h37];rfl
    by_cases hsh:s.size<k+3
    .have HN:Hid (unesc s.data.toList=none):=hid (by rw [HU.out,unesc_short hlt h37 hsh];rfl)
     have r2:IntKind.i64.wrap ((k:Int)+2)=(k:Int)+2:=IntWalk.i64_in _ (by omega)
     have z1:(s.size:Int)<=(k:Int)+2:=by omega
     clear h37
     go_wp2
     go_ret2
     exact ⟨by rw [HN.out];rfl,HB.out⟩
    .have h2:k+2<s.size:=by omega
     have HT:=hid (unesc_three h2 h37)
     clear h37
     have r1:IntKind.i64.wrap ((k:Int)+1)=(k:Int)+1:=IntWalk.i64_in _ (by omega)
     have r2:IntKind.i64.wrap ((k:Int)+2)=(k:Int)+2:=IntWalk.i64_in _ (by omega)
     have r3:(0:Int)<=(k:Int)+1:=by omega
     have r4:(0:Int)<=(k:Int)+2:=by omega
     have r5:(k:Int)+1<s.size:=by omega
     have r6:(k:Int)+2<s.size:=by omega
     have r7:((k:Int)+1).toNat=k+1:=by omega
     have r8:((k:Int)+2).toNat=k+2:=by omega
     by_cases ha:hexB s[k+1]=true
     .have HRA:=hid (rwor_hex ha)
      have hp:=wor_lt ha
      by_cases hb:hexB s[k+2]=true
      .have HRB:=hid (rwor_hex hb)
       have hq:=wor_lt hb
       have hsum:=wor_sum ha hb
       have HN:Hid (∀ (v4:Value) (w4:World),w4.ownsRow w.heap.size 5 1 v4 (out.length+1) (out.map B++[.int .u8 (16*((wor s[k+1]).toNat:Int)+((wor s[k+2]).toNat:Int))])->Below w.heap.size wr w4->UnRel s w (k+3) v4 w4):=hid (fun v4 w4 a b =>
        ⟨⟨out++[wor s[k+1]*16+wor s[k+2]],by simp;omega,by
         rw [List.length_append,List.map_append]
         have e:[Value.int .u8 (16*((wor s[k+1]).toNat:Int)+((wor s[k+2]).toNat:Int))]=List.map B [wor s[k+1]*16+wor s[k+2]]:=by
          simp only [List.map_cons,List.map_nil,B,hsum]
          congr 2
         rw [<-e]
         exact a,by
         rw [HU.out,HT.out,ha,hb]
         simp only [Bool.and_self,if_true,Option.map_map]
         congr 1
         funext t
         simp⟩,HB.out.trans b⟩)
       clear hsum ha hb
       generalize (wor s[k+1]).toNat=p at *
       generalize (wor s[k+2]).toNat=q at *
       have z3:IntKind.u8.wrap (16*(p:Int)+q)=16*(p:Int)+q:=by rw [IntKind.wrap_u8];omega
       have z4:IntKind.i64.wrap (16*(p:Int))=16*(p:Int):=IntWalk.i64_in _ (by omega)
       have z5:IntKind.i64.wrap (16*(p:Int)+q)=16*(p:Int)+q:=IntWalk.i64_in _ (by omega)
       go_wp2_with (go_at_call 141;refine (rworth_any _ _).mono ?_;rintro e w' ⟨rfl,hb⟩;have HF:=hid (frc HF.out hb);clear hb;(first|rw [HRA.out]|rw [HRB.out]))
       go_region_held3 (fun _=>True) (trivial) (first|(go_at_call 141;refine (rworth_any _ _).mono ?_;rintro e w' ⟨rfl,hb⟩;(first|have HF:=hid (frc HF.out hb)|have HF:=hid (frc HF.out.drew hb));clear hb;(first|rw [HRA.out]|rw [HRB.out]))|(refine step_app1 (by rfl) (.tmp 43) (.tmp 57) 59 (by rfl) w.heap.size 5 1 1 (.int .u8 0) Tryz.underlying59 e5i (by rfl) (by omega) u4 out.length (out.map B) (by rfl) ?_ [.int .u8 (16*(p:Int)+q)] w'.heap.size (by rfl) ?_ (by rfl) ?_ ?_ ?_ ?_ ?_;(first|exact own_fr HO.out ((HF.out.alloc _).drew) (fun _ _ h=>h)|exact own_fr HO.out (HF.out.alloc _) (fun _ _ h=>h)|exact own_fr HO.out (HF.out.drew.alloc _) (fun _ _ h=>h));(first|exact (Blk.new w' _ _).drewN 1|exact Blk.new w' _ _|exact Blk.new w'.drew _ _);(intro u hu;simp at hu;rcases hu with rfl;rfl);(unfold maxLen;omega);omega;(have:=HF.out.size;first|(show _<=(w'.alloc _).heap.size;simp;omega)|(simp;omega));intro v4 w4 hown4 hb4 hg4 hat4))
       all_goals
        have HX:=hid (HN.out v4 w4 hown4 ((by first|exact (HF.out.alloc _).drew.to_below hbs (fun _ h=>h.elim)|exact (HF.out.alloc _).to_below hbs (fun _ h=>h.elim)|exact (HF.out.drew.alloc _).to_below hbs (fun _ h=>h.elim):Below w.heap.size wr _).trans hb4))
        clear hown4 hb4 hg4 hat4
        go_wp2
        go_roundw
        case rel=>exact ⟨k+3,by omega,by go_num,HX.out⟩
        case measure=>simp [intOf] <;> omega
      .have hb:hexB s[k+2]=false:=by simpa using hb
       have HRB:=hid (rwor_not hb)
       have HN:Hid (unesc s.data.toList=none):=hid (by rw [HU.out,HT.out,ha,hb];rfl)
       clear ha hb
       generalize (wor s[k+1]).toNat=p at *
       go_wp2_with (go_at_call 141;refine (rworth_any _ _).mono ?_;rintro e w' ⟨rfl,hb⟩;have HF:=hid (frc HF.out hb);clear hb;(first|rw [HRA.out]|rw [HRB.out]))
       go_ret2
       exact ⟨by rw [HN.out];rfl,HB.out.trans (HF.out.to_below hbs (fun _ h=>h.elim))⟩
     .have ha:hexB s[k+1]=false:=by simpa using ha
      have HRA:=hid (rwor_not ha)
      have HN:Hid (unesc s.data.toList=none):=hid (by rw [HU.out,HT.out,ha];rfl)
      clear ha
      go_wp2_with (go_at_call 141;refine (rworth_any _ _).mono ?_;rintro e w' ⟨rfl,hb⟩;have HF:=hid (frc HF.out hb);clear hb;rw [HRA.out])
      go_ret2
      exact ⟨by rw [HN.out];rfl,HB.out.trans (HF.out.to_below hbs (fun _ h=>h.elim))⟩
   .have e1:((s[k].toNat:Int) != 37)=true:=by
     simp only [bne_iff_ne,ne_eq]
     intro q
     exact h37 (UInt8.toNat_inj.1 (by simp;omega))
    have HN:Hid (∀ (v4:Value) (w4:World),w4.ownsRow w.heap.size 5 1 v4 (out.length+1) (out.map B++[B s[k]])->Below w.heap.size wr w4->UnRel s w (k+1) v4 w4):=hid (fun v4 w4 a b =>
     ⟨⟨out++[s[k]],by simp;omega,by rw [List.length_append,List.map_append];exact a,by
      rw [HU.out,unesc_plain hlt h37,Option.map_map]
      congr 1
      funext t
      simp⟩,HB.out.trans b⟩)
    clear h37
    go_wp2_with (at_builtin;go_must (refine wpList_app1' rfl (.tmp 14) (.tmp 18) 59 rfl w.heap.size 5 1 1 _ Tryz.underlying59 e5i rfl (by omega) _ _ _ rfl HO.out [B s[k]] _ rfl (by simp) rfl (by simp [B,Value.oneCell']) (by unfold maxLen;omega) (by omega) (by omega) ?_);intro v4 w4 hown4 hb4 hg4 hat4)
    have HX:=hid (HN.out v4 w4 (by simpa using hown4) hb4)
    clear hown4 hb4 hg4 hat4
    go_roundw
    case rel=>exact ⟨k+1,by omega,by go_num,HX.out⟩
    case measure=>simp [intOf] <;> omega
  .obtain rfl:k=s.size:=by omega
   have hcv:=run_string_own (P:=Tryz.prog) 59 9 5 Tryz.underlying59 Tryz.underlying5 Tryz.underlying9 HO.out
   have HE:Hid (unesc s.data.toList=some out):=hid (by
    rw [HU.out,List.drop_eq_nil_of_le (by simp)]
    simp [unesc])
   go_wp2
   go_ret2
   exact ⟨by rw [HE.out];rfl,HB.out⟩
def okB (keep:ByteArray) (c:UInt8):Bool:=decide (c=37) || pla c || decide (c∈keep.data.toList)
def plV (o:Option T):Value:=match o with
 | some t=>.tuple #[.string (str t),.bool true]
 | none=>.tuple #[.string ⟨#[]⟩,.bool false]
def PlPost (s keep:ByteArray) (w:World) (e:Ending) (w':World):Prop:=e=.returned (plV (plainT keep.data.toList s.data.toList))/\Below w.heap.size w w'
theorem plain_yes {s keep:ByteArray} (h:allB (okB keep) s=true):plainT keep.data.toList s.data.toList=unesc s.data.toList:=if_pos h
theorem plain_no {s keep:ByteArray} (h:allB (okB keep) s=false):plainT keep.data.toList s.data.toList=none:=if_neg (by show ¬allB (okB keep) s=true;rw [h];simp)
set_option maxRecDepth 100000 in
set_option maxHeartbeats 2000000 in
theorem rwritten_any (s keep:ByteArray) (w:World) (hs:s.size<=1000000000) (hkeep:keep.size<=9223372036854775807) :
 Calls Tryz.prog 74 #[.string s,.string keep] w (PlPost s keep w):=by
 go_enter Tryz.func74,Tryz.ntmps74
 go_wp2
 go_loop [6] (fun i=>∃ j:Nat,j<=s.size/\i=.int .i64 j/\AllTo (okB keep) s j) (fun i=>s.size-(intOf i).toNat)
 case atStart=>exact ⟨0,by omega,rfl,by simp [AllTo]⟩
 case round =>
  obtain ⟨j,hj,rfl,hrel⟩:=hrel
  have HR:=hid hrel
  clear hrel
  by_cases hlt:j<s.size
  .have HT:=hid (all_take hlt HR.out)
   have HF:=hid (fun q=>plain_no (s:=s) (keep:=keep) (all_fail (p:=okB keep) hlt q))
   have hn:(s[j].toNat:Int)<256:=by have:=s[j].toNat_lt;omega
   by_cases h37:s[j]=37
   .have e1:((s[j].toNat:Int) != 37)=false:=by rw [h37];rfl
    have HX:=hid (HT.out.trans (by unfold okB;rw [h37];first|done|rfl))
    clear h37
    go_wp2
    go_round
    case rel=>exact ⟨j+1,by omega,by go_num,HX.out⟩
    case measure=>simp [intOf] <;> omega
   .have e1:((s[j].toNat:Int) != 37)=true:=by
     simp only [bne_iff_ne,ne_eq]
     intro q
     exact h37 (UInt8.toNat_inj.1 (by simp;omega))
    have HTT:Hid (tstB 16 s[j]=pla s[j]):=hid (tst_pla _)
    cases hp:pla s[j] with
    | true =>
      have hpb:(bits .and .i64 (cls s[j]:Int) 16 == 0)=false:=by
       have q:=HTT.out.trans hp
       unfold tstB at q
       simpa using q
      have HX:=hid (HT.out.trans (by unfold okB;rw [hp,Bool.or_true];first|done|rfl))
      clear h37 hp
      go_wp2_with (go_at_call 107;refine (rclass_any _ _).mono ?_;rintro e w' ⟨rfl,rfl⟩)
      go_round
      case rel=>exact ⟨j+1,by omega,by go_num,HX.out⟩
      case measure=>simp [intOf] <;> omega
    | false =>
      have hpb:(bits .and .i64 (cls s[j]:Int) 16 == 0)=true:=by
       have q:=HTT.out.trans hp
       unfold tstB at q
       simpa using q
      have hok:Hid (okB keep s[j]=inB keep s[j]):=hid (by unfold okB inB;rw [hp,decide_eq_false h37];rfl)
      clear h37 hp
      cases hi:inB keep s[j] with
      | true =>
        have HX:=hid (HT.out.trans (hok.out.trans hi))
        have HI:=hid hi
        clear hi
        go_wp2_with (first|(go_at_call 107;refine (rclass_any _ _).mono ?_;rintro e w' ⟨rfl,rfl⟩)|(go_at_call 73;refine (rHas_any _ _ _ hkeep).mono ?_;rintro e w' ⟨rfl,rfl⟩;rw [HI.out]))
        go_round
        case rel=>exact ⟨j+1,by omega,by go_num,HX.out⟩
        case measure=>simp [intOf] <;> omega
      | false =>
        have HX:=hid (HF.out (hok.out.trans hi))
        have HI:=hid hi
        clear hi
        go_wp2_with (first|(go_at_call 107;refine (rclass_any _ _).mono ?_;rintro e w' ⟨rfl,rfl⟩)|(go_at_call 73;refine (rHas_any _ _ _ hkeep).mono ?_;rintro e w' ⟨rfl,rfl⟩;rw [HI.out]))
        go_ret2
        exact ⟨by rw [HX.out];rfl,Below.refl _ _⟩
  .obtain rfl:j=s.size:=by omega
   have HX:=hid (plain_yes (s:=s) (keep:=keep) (by have:=HR.out;unfold AllTo at this;rwa [List.take_of_length_le (by simp)] at this))
   have HU:=hid (rUnescape_any s w (by omega))
   have HV:Hid (unescV (unesc s.data.toList)=match unesc s.data.toList with|some t=>.tuple #[.string (str t),.int .i64 0]|none=>.tuple #[.string ⟨#[]⟩,.int .i64 12]):=hid rfl
   unfold UnPost at HU
   cases hu:unesc s.data.toList with
   | some t =>
     rw [hu] at HX HU
     have HVV:Hid (unescV (some t)=.tuple #[.string (str t),.int .i64 0]):=hid rfl
     clear hu HV
     go_wp2_with (go_at_call 108;refine (HU.out).mono ?_;rintro e w' ⟨rfl,hb⟩;have HB:=hid hb;clear hb;rw [HVV.out])
     go_ret2
     exact ⟨by rw [HX.out];rfl,HB.out⟩
   | none =>
     rw [hu] at HX HU
     have HVV:Hid (unescV none=.tuple #[.string ⟨#[]⟩,.int .i64 12]):=hid rfl
     clear hu HV
     go_wp2_with (go_at_call 108;refine (HU.out).mono ?_;rintro e w' ⟨rfl,hb⟩;have HB:=hid hb;clear hb;rw [HVV.out])
     go_ret2
     exact ⟨by rw [HX.out];rfl,HB.out⟩
end Go.Proofs.YthkadehlclcggaaGreatDoor
