/- Chapter 3: scan's lower, All, in. Chapter 3: scan's Lower, Same. Chapter 3: scan.Same. Chapter 3: scan.Escape. Chapter 3: scan.Number. Chapter 3: rosterref01.has, Class, All. Chapter 3: scan.worth, scan.Unescape. -/
import Derived.Test.YthkadehlclcggaaGreatDoorGx04
import Derived.Lib.ConvBytes
import Derived.Laws.IdiomStrings
import Derived.Deep.QuietTactic
import Derived.BigQuiet
import Derived.Test.YthkadehlclcggaaGreatDoorGx02
import Derived.StillTailTactics
import Derived.RegionTactic
import Derived.Deep.RegionHeld3
import Derived.Test.YthkadehlclcggaaGreatDoorGx01
namespace Go.Proofs.YthkadehlclcggaaGreatDoor
set_option linter.unusedSimpArgs false
set_option linter.unusedVariables false
open Go.RowKit
open Go.Lib (hid)
set_option maxRecDepth 100000 in
theorem lower_any (c:UInt8) (w:World):Calls Tryz.prog 157 #[.int .u8 (c.toNat:Int)] w fun e w'=>e=.returned (.int .u8 ((lo c).toNat:Int))/\w=w':=by
 have HL:=hid (lo_N c)
 have hn:(c.toNat:Int)<256:=by have:=c.toNat_lt;omega
 generalize (lo c).toNat=m at *
 generalize c.toNat=n at *
 by_cases h:65<=n/\n<=90
 .have HV:=hid (HL.out.trans (if_pos h))
  obtain ⟨h1,h2⟩:=h
  have x1:65<=(n:Int):=by omega
  have x2:(n:Int)<=90:=by omega
  have hw:IntKind.u8.wrap ((n:Int)+32)=(n:Int)+32:=by rw [IntKind.wrap_u8];omega
  go_enter Tryz.func157,Tryz.ntmps157
  go_wp2
  go_ret
  exact ⟨ret_int (by rw [HV.out];omega),rfl⟩
 .have HV:=hid (HL.out.trans (if_neg h))
  by_cases h1:(n:Int)<65
  .go_enter Tryz.func157,Tryz.ntmps157
   go_wp2
   go_ret
   exact ⟨ret_int (by rw [HV.out]),rfl⟩
  .have x1:65<=(n:Int):=by omega
   have x2:90<(n:Int):=by omega
   clear h
   go_enter Tryz.func157,Tryz.ntmps157
   go_wp2
   go_ret
   exact ⟨ret_int (by rw [HV.out]),rfl⟩
def AllTo (p:UInt8->Bool) (s:ByteArray) (j:Nat):Prop:=(s.data.toList.take j).all p=true
def allB (p:UInt8->Bool) (s:ByteArray):Bool:=s.data.toList.all p
def inB (s:ByteArray) (c:UInt8):Bool:=decide (c∈s.data.toList)
theorem all_take {p:UInt8->Bool} {s:ByteArray} {k:Nat} (hk:k<s.size) (h:AllTo p s k):(s.data.toList.take (k+1)).all p=p s[k]:=by
 unfold AllTo at h
 have e:s.data.toList.take (k+1)=s.data.toList.take k++[s[k]]:=by
  rw [List.take_succ_eq_append_getElem (by simpa using hk)]
  rfl
 rw [e,List.all_append,h]
 simp
theorem all_fail {p:UInt8->Bool} {s:ByteArray} {k:Nat} (hk:k<s.size) (h:p s[k]=false):s.data.toList.all p=false:=by
 rw [List.all_eq_false]
 exact ⟨s[k],by rw [show s[k]=s.data.toList[k]'(by simpa using hk) from rfl];exact List.getElem_mem _,by simp [h]⟩
set_option maxHeartbeats 1000000 in
theorem all_any (s:ByteArray) (k:Int) (w:World) (hs:s.size<=9223372036854775807) :
 Calls Tryz.prog 101 #[.string s,.int .i64 k] w fun e w'=>e=.returned (.bool (allB (tstB k) s))/\w=w':=by
 go_enter Tryz.func101,Tryz.ntmps101
 go_wp2
 go_loop [8] (fun i=>∃ j:Nat,j<=s.size/\i=.int .i64 j/\AllTo (tstB k) s j) (fun i=>s.size-(intOf i).toNat)
 case atStart=>exact ⟨0,by omega,rfl,by simp [AllTo]⟩
 case round =>
  obtain ⟨j,hj,rfl,hrel⟩:=hrel
  have HR:=hid hrel
  clear hrel
  by_cases hlt:j<s.size
  .have HT:=hid (all_take hlt HR.out)
   have HF:=hid (fun q=>all_fail (p:=tstB k) hlt q)
   have HB:Hid (tstB k s[j]=!(bits .and .i64 (cls s[j]:Int) k == 0)):=hid rfl
   by_cases hb:(bits .and .i64 (cls s[j]:Int) k == 0)=true
   .have HX:=hid (HF.out (by rw [HB.out,hb];first|done|rfl))
    go_wp2_with (go_at_call 133;refine (class_any _ _).mono ?_;rintro e w' ⟨rfl,rfl⟩)
    go_ret
    exact ⟨ret_bool (show _=allB (tstB k) s from HX.out.symm),rfl⟩
   .have hb:(bits .and .i64 (cls s[j]:Int) k == 0)=false:=by simpa using hb
    have HX:=hid (HT.out.trans (by rw [HB.out,hb];first|done|rfl))
    go_wp2_with (go_at_call 133;refine (class_any _ _).mono ?_;rintro e w' ⟨rfl,rfl⟩)
    go_round
    case rel=>exact ⟨j+1,by omega,by go_num,HX.out⟩
    case measure=>simp [intOf] <;> omega
  .obtain rfl:j=s.size:=by omega
   have HX:Hid (allB (tstB k) s=true):=hid (by have:=HR.out;unfold AllTo at this;rwa [List.take_of_length_le (by simp)] at this)
   go_wp2
   go_ret
   exact ⟨ret_bool (show _=allB (tstB k) s from HX.out.symm),rfl⟩
def lowS (s:ByteArray):ByteArray:=str (low s.data.toList)
def lowAt (s:ByteArray) (k j:Nat):UInt8:=if j<k then lo (s.data.toList.getD j 0) else s.data.toList.getD j 0
structure LowRel (s:ByteArray) (w:World) (g k:Nat) (wr:World):Prop where
 cell:∀ j,j<s.size->wr.cell? ⟨g,j,none⟩=some (.int .u8 ((lowAt s k j).toNat:Int))
 fz:∀ j,j<s.size->wr.frozen? ⟨g,j,none⟩=false
 be:Below w.heap.size w wr
 ge:w.heap.size<=g
theorem LowRel.step {s:ByteArray} {w wr:World} {g k:Nat} (H:LowRel s w g k wr) (hk:k<s.size):LowRel s w g (k+1) (wr.setCell ⟨g,k,none⟩ (.int .u8 ((lo s[k]).toNat:Int))) where
 cell:=fun j hj=>by
  have hc:=H.cell j hj
  by_cases e:j=k
  .subst e
   have h1:lowAt s (j+1) j=lo s[j]:=by
    unfold lowAt
    rw [if_pos (by omega)]
    congr 1
    simp [List.getD,hj]
    rfl
   rw [h1]
   exact World.cell?_setCell_same' _ _ _ (by rw [hc];rfl)
  .refine (World.cell?_setCell_other (w:=wr) (a:=⟨g,k,none⟩) (b:=⟨g,j,none⟩) (v:=_) (by intro q;injection q with _ q _;exact e q.symm)).trans ?_
   rw [hc]
   unfold lowAt
   by_cases q:j<k
   .rw [if_pos q,if_pos (by omega)]
   .rw [if_neg q,if_neg (by omega)]
 fz:=fun j hj=>by rw [World.frozen?_setCell];exact H.fz j hj
 be:=H.be.setCell H.ge _
 ge:=H.ge
def LowPost (s:ByteArray) (w:World) (e:Ending) (w':World):Prop:=e=.returned (.string (lowS s))/\Below w.heap.size w w'
set_option maxRecDepth 100000 in
set_option maxHeartbeats 1000000 in
theorem Lower_any (s:ByteArray) (w:World) (hs:s.size<=9223372036854775807) :
 Calls Tryz.prog 154 #[.string s] w (LowPost s w):=by
 have hcv:=Lib.run_convert_string_bytes (P:=Tryz.prog) w 9 59 5 s Tryz.underlying9 Tryz.underlying59 Tryz.underlying5
 have h0:LowRel s w w.heap.size 0 (Lib.bytesWorld w 5 s):=by
  refine ⟨fun j hj=>?_,fun j hj=>?_,⟨rfl,rfl,rfl,by rw [Lib.bytesWorld_size];omega,fun k hk=>Lib.bytesWorld_at_old w _ s k hk⟩,Nat.le_refl _⟩
  .rw [Lib.bytesWorld_cell w _ s j hj];rfl
  .simp only [World.frozen?,Lib.bytesWorld_at_new]
   have:s.size<=(Lib.bytesCells w 5 s).size:=by unfold Lib.bytesCells;simp
   simp
   omega
 generalize Lib.bytesWorld w 5 s=W1 at *
 generalize grownCap w s.size 0 5=cap at *
 have H0:=hid h0
 clear h0
 obtain ⟨g,hg⟩:∃ g,w.heap.size=g:=⟨_,rfl⟩
 rw [hg] at hcv H0
 clear hg
 go_enter Tryz.func154,Tryz.ntmps154
 go_wp2
 go_loopw [9] (fun i wr=>∃ k:Nat,k<=s.size/\i=.int .i64 k/\LowRel s w g k wr) (fun i _=>s.size-(intOf i).toNat)
 case atStart=>exact ⟨0,by omega,rfl,H0.out⟩
 case round =>
  obtain ⟨k,hk,rfl,hR⟩:=hrel
  have HR:=hid hR
  by_cases hlt:k<s.size
  .have c1:wr.cell? ⟨g,k,none⟩=some (.int .u8 (s[k].toNat:Int)):=by
    rw [hR.cell k hlt]
    unfold lowAt
    rw [if_neg (by omega)]
    simp [List.getD,hlt]
    rfl
   have f1:=hR.fz k hlt
   have HS:=hid (hR.step hlt)
   have x0:(0:Int)<=k:=by omega
   have x1:(k:Int)<s.size:=by omega
   clear hR
   go_wp2_with (go_at_call 157;refine (lower_any _ _).mono ?_;rintro e w' ⟨rfl,rfl⟩)
   go_roundw
   case rel=>exact ⟨k+1,by omega,by go_num,HS.out⟩
   case measure=>simp [intOf] <;> omega
  .obtain rfl:k=s.size:=by omega
   have hl:(low s.data.toList).length=s.size:=by simp [low]
   have hbk:=run_convert_bytes_back (P:=Tryz.prog) wr 59 9 5 ⟨g,0,none⟩ cap (low s.data.toList) Tryz.underlying59 Tryz.underlying5 Tryz.underlying9 (fun j hj=>by
    have hj':j<s.size:=by omega
    have e:(⟨g,0,none⟩:Addr).add j=⟨g,j,none⟩:=by unfold Addr.add;split <;> simp_all
    rw [e,hR.cell j hj']
    unfold lowAt
    rw [if_pos hj']
    simp [low,List.getD,hj'])
   rw [hl] at hbk
   have HB:=hid hR.be
   clear hR
   go_wp2
   go_ret
   exact ⟨rfl,HB.out⟩
def sameS (a b:ByteArray):Bool:=decide (low a.data.toList=low b.data.toList)
def SameTo (a b:ByteArray) (k:Nat):Prop:=(low a.data.toList).take k=(low b.data.toList).take k
theorem same_step {a b:ByteArray} {k:Nat} (h:SameTo a b k) (ha:k<a.size) (hb:k<b.size) (e:lo a[k]=lo b[k]):SameTo a b (k+1):=by
 unfold SameTo low at *
 rw [List.take_succ_eq_append_getElem (by simpa using ha),List.take_succ_eq_append_getElem (by simpa using hb),h]
 congr 1
 simp only [List.getElem_map,List.cons.injEq,and_true]
 exact e
theorem same_no {a b:ByteArray} {k:Nat} (ha:k<a.size) (hb:k<b.size) (e:lo a[k]≠lo b[k]):sameS a b=false:=by
 unfold sameS
 refine decide_eq_false fun h=>e ?_
 have:=congrArg (fun l:List UInt8=>l[k]?) h
 simp only [low,List.getElem?_map] at this
 rw [List.getElem?_eq_getElem (by simpa using ha),List.getElem?_eq_getElem (by simpa using hb)] at this
 injection this with this
def SameSPost (a b:ByteArray) (w:World) (e:Ending) (w':World):Prop:=e=.returned (.bool (sameS a b))/\∃ n,w'=w.drewN n
set_option maxRecDepth 100000 in
set_option maxHeartbeats 1000000 in
theorem Same_any (a b:ByteArray) (w:World) (ha:a.size<=9223372036854775807) (hb:b.size<=9223372036854775807) :
 Calls Tryz.prog 146 #[.string a,.string b] w (SameSPost a b w):=by
 by_cases hl:a.size=b.size
 .have hlb:((a.size:Int) != b.size)=false:=by simp [hl]
  have HL:=hid hl
  clear hl
  go_enter Tryz.func146,Tryz.ntmps146
  go_wp2
  go_loopw [13] (fun i wr=>∃ k:Nat,k<=a.size/\i=.int .i64 k/\SameTo a b k/\∃ n,wr=w.drewN n) (fun i _=>a.size-(intOf i).toNat)
  case atStart=>exact ⟨0,by omega,rfl,by simp [SameTo],0,rfl⟩
  case round =>
   obtain ⟨k,hk,rfl,hR,n,hw⟩:=hrel
   have HR:=hid hR
   have HW:=hid hw
   clear hR hw
   by_cases hlt:k<a.size
   .have hltb:k<b.size:=by have:=HL.out;omega
    have x0:(0:Int)<=k:=by omega
    have x1:(k:Int)<a.size:=by omega
    have x2:(k:Int)<b.size:=by omega
    by_cases he:lo a[k]=lo b[k]
    .have heb:(((lo a[k]).toNat:Int) != (lo b[k]).toNat)=false:=by rw [he];simp
     have HX:=hid (same_step HR.out hlt hltb he)
     clear he
     go_wp2
     go_quiet ((go_at_call 157;exact (lower_any _ _).mono (fun _ _ ⟨he,hw⟩=>⟨he,_,hw.symm⟩)))
     go_wp2
     go_roundw
     case rel=>exact ⟨k+1,by omega,by go_num,HX.out,_,by rw [HW.out,World.drewN_drewN]⟩
     case measure=>simp [intOf] <;> omega
    .have heb:(((lo a[k]).toNat:Int) != (lo b[k]).toNat)=true:=by
      simp only [bne_iff_ne,ne_eq]
      intro q
      exact he (UInt8.toNat_inj.1 (by omega))
     have HX:=hid (same_no hlt hltb he)
     clear he
     go_wp2
     go_quiet ((go_at_call 157;exact (lower_any _ _).mono (fun _ _ ⟨he,hw⟩=>⟨he,_,hw.symm⟩)))
     go_wp2
     go_ret
     exact ⟨ret_bool HX.out.symm,_,by rw [HW.out,World.drewN_drewN]⟩
   .have HX:Hid (sameS a b=true):=hid (by
     have:=HR.out
     have hl:=HL.out
     unfold SameTo at this
     rw [List.take_of_length_le (by simp [low];omega),List.take_of_length_le (by simp [low];omega)] at this
     exact decide_eq_true this)
    go_wp2
    go_ret
    exact ⟨ret_bool HX.out.symm,_,HW.out⟩
 .have hlb:((a.size:Int) != b.size)=true:=by simp;omega
  have HX:Hid (sameS a b=false):=hid (decide_eq_false fun h=>hl (by have:=congrArg List.length h;simpa [low] using this))
  clear hl
  go_enter Tryz.func146,Tryz.ntmps146
  go_wp2
  go_ret
  exact ⟨ret_bool HX.out.symm,0,rfl⟩
theorem e5i:ElemInfo Tryz.prog 5 1 1 (.int .u8 0):=ElemInfo.mk' (by kernel_rfl)
theorem Rd.of_row {w:World} {g:Nat} {e:TypeId} {l:List Value} (hb:Blk w g e l.toArray):Rd w e 1 l.length (some ⟨g,0,none⟩) l :=
 ⟨by omega,fun _=>⟨g,0,l.toArray,(0,0),rfl,hb,fun j u hj=>by rw [Nat.zero_add];simpa using hj⟩⟩
def sixS:ByteArray:=⟨#[48,49,50,51,52,53,54,55,56,57,65,66,67,68,69,70]⟩
theorem six_hx {a:Nat} (h:a<sixS.size):sixS[a]=hx (UInt8.ofNat a):=by
 have h:a<16:=h
 have:=(by decide +kernel:∀ a:Fin 16,sixS[a.val]'(a.isLt)=hx (UInt8.ofNat a.val)) ⟨a,h⟩
 exact this
def valTo (s:ByteArray) (k:Nat):Nat:=valT (s.data.toList.take k)
theorem fold_ge:∀ (l:T) (n:Nat),n<=l.foldl (fun n c=>10*n+(c-48).toNat) n
 | [],n=>by simp
 | c::l,n=>by
   have:=fold_ge l (10*n+(c-48).toNat)
   simp only [List.foldl_cons]
   omega
theorem val_ge (s:ByteArray) (k:Nat):valTo s k<=valT s.data.toList:=by
 conv=>rhs;rw [<-List.take_append_drop k s.data.toList]
 unfold valTo valT
 rw [List.foldl_append]
 exact fold_ge _ _
theorem val_step {s:ByteArray} {k D:Nat} (hk:k<s.size) (hD:s[k].toNat=48+D):valTo s (k+1)=10*valTo s k+D:=by
 have e:s.data.toList.take (k+1)=s.data.toList.take k++[s[k]]:=by
  rw [List.take_succ_eq_append_getElem (by simpa using hk)]
  rfl
 unfold valTo
 rw [e,val_app]
 congr 1
 have:(48:UInt8)<=s[k]:=UInt8.le_iff_toNat_le.2 (by rw [hD];show 48<=_;omega)
 rw [UInt8.toNat_sub_of_le _ _ this,hD]
 show 48+D-48=D
 omega
theorem dig_at {s:ByteArray} {k:Nat} (hk:k<s.size) (h:allB dig s=true):∃ D:Nat,D<=9/\s[k].toNat=48+D:=by
 have h1:dig s[k]=true:=List.all_eq_true.1 h _ (show s[k]∈s.data.toList from Array.mem_toList_iff.2 (Array.getElem_mem _))
 unfold dig at h1
 have h2:=of_decide_eq_true h1
 have h3:(48:UInt8).toNat<=s[k].toNat:=UInt8.le_iff_toNat_le.1 h2.1
 have h4:s[k].toNat<=(57:UInt8).toNat:=UInt8.le_iff_toNat_le.1 h2.2
 have h3:48<=s[k].toNat:=h3
 have h4:s[k].toNat<=57:=h4
 exact ⟨s[k].toNat-48,by omega,by omega⟩
theorem emp_no {s:ByteArray} (h:s≠⟨#[]⟩):s.toList.isEmpty=false:=by
 rw [ByteArray.toList_eq]
 cases e:s.data.toList with
 | nil=>exact absurd (by cases s with|mk d=>exact congrArg ByteArray.mk (Array.toList_inj.1 (by simpa using e))) h
 | cons=>rfl
def numV (s:ByteArray) (most:Nat):Value :=
 if s=⟨#[]⟩\/allB dig s=false then .tuple #[.int .i64 0,.int .i64 10]
 else if valT s.data.toList<=most then .tuple #[.int .i64 (valT s.data.toList:Int),.int .i64 0] else .tuple #[.int .i64 0,.int .i64 9]
def rK (c:UInt8):Bool × Bool × Bool × Bool × Bool × Bool × Bool × Nat:=(inB ⟨#[48,49,50,51,52,53,54,55,56,57]⟩ c,inB ⟨#[97,98,99,100,101,102,103,104,105,106,107,108,109,110,111,112,113,114,115,116,117,118,119,120,121,122,65,66,67,68,69,70,71,72,73,74,75,76,77,78,79,80,81,82,83,84,85,86,87,88,89,90]⟩ c,inB ⟨#[48,49,50,51,52,53,54,55,56,57,97,98,99,100,101,102,65,66,67,68,69,70]⟩ c,inB ⟨#[48,49,50,51,52,53,54,55,56,57,97,98,99,100,101,102,103,104,105,106,107,108,109,110,111,112,113,114,115,116,117,118,119,120,121,122,65,66,67,68,69,70,71,72,73,74,75,76,77,78,79,80,81,82,83,84,85,86,87,88,89,90,45,46,33,37,42,95,43,96,39,126]⟩ c,inB ⟨#[48,49,50,51,52,53,54,55,56,57,97,98,99,100,101,102,103,104,105,106,107,108,109,110,111,112,113,114,115,116,117,118,119,120,121,122,65,66,67,68,69,70,71,72,73,74,75,76,77,78,79,80,81,82,83,84,85,86,87,88,89,90,45,95,46,33,126,42,39,40,41]⟩ c,((c.toNat:Int) == 32 || (c.toNat:Int) == 9),inB ⟨#[48,49,50,51,52,53,54,55,56,57,97,98,99,100,101,102,103,104,105,106,107,108,109,110,111,112,113,114,115,116,117,118,119,120,121,122,65,66,67,68,69,70,71,72,73,74,75,76,77,78,79,80,81,82,83,84,85,86,87,88,89,90,45,46]⟩ c,cls c)
set_option synthInstance.maxSize 4000 in
set_option synthInstance.maxHeartbeats 200000 in
set_option maxRecDepth 100000 in
theorem rcls (c:UInt8):∃ x∈([(true,false,true,true,true,false,true,93),(false,true,true,true,true,false,true,94),(false,true,false,true,true,false,true,90),(false,false,false,true,true,false,true,88),(false,false,false,true,true,false,false,24),(false,false,false,true,false,false,false,8),(false,false,false,false,true,false,false,16),(false,false,false,false,false,true,false,32),(false,false,false,false,false,false,false,0)]:List (Bool × Bool × Bool × Bool × Bool × Bool × Bool × Nat)),rK c=x:=by
 have:=all_u8 (p:=fun c=>([(true,false,true,true,true,false,true,93),(false,true,true,true,true,false,true,94),(false,true,false,true,true,false,true,90),(false,false,false,true,true,false,true,88),(false,false,false,true,true,false,false,24),(false,false,false,true,false,false,false,8),(false,false,false,false,true,false,false,16),(false,false,false,false,false,true,false,32),(false,false,false,false,false,false,false,0)]:List (Bool × Bool × Bool × Bool × Bool × Bool × Bool × Nat)).any fun x=>decide (rK c=x)) (by decide +kernel) c
 obtain ⟨x,hx,h⟩:=List.any_eq_true.1 this
 exact ⟨x,hx,of_decide_eq_true h⟩
set_option maxHeartbeats 1000000 in
theorem has_any (s:ByteArray) (c:UInt8) (w:World) (hs:s.size<=9223372036854775807) :
 Calls Tryz.prog 140 #[.string s,.int .u8 (c.toNat:Int)] w fun e w'=>e=.returned (.bool (inB s c))/\w=w':=by
 have hmem:Hid (inB s c=!(allB (fun x=>decide (x≠c)) s)):=hid (by
  unfold inB allB
  by_cases h:c∈s.data.toList
  .rw [decide_eq_true h,List.all_eq_false.2 ⟨c,h,by simp⟩];rfl
  .rw [decide_eq_false h,List.all_eq_true.2 (fun x hx=>decide_eq_true (show x≠c from fun e=>h (e▸hx)))];rfl)
 go_enter Tryz.func140,Tryz.ntmps140
 go_wp2
 go_loop [5] (fun i=>∃ j:Nat,j<=s.size/\i=.int .i64 j/\AllTo (fun x=>decide (x≠c)) s j) (fun i=>s.size-(intOf i).toNat)
 case atStart=>exact ⟨0,by omega,rfl,by simp [AllTo]⟩
 case round =>
  obtain ⟨j,hj,rfl,hrel⟩:=hrel
  have HR:=hid hrel
  clear hrel
  by_cases hlt:j<s.size
  .have HT:=hid (all_take hlt HR.out)
   have HF:=hid (fun q=>all_fail (p:=fun x=>decide (x≠c)) hlt q)
   by_cases hb:s[j]=c
   .have HX:=hid (HF.out (by simp [hb]))
    have heb:((s[j].toNat:Int) == c.toNat)=true:=by rw [hb];exact beq_self_eq_true _
    clear hb
    go_wp2
    go_ret
    exact ⟨ret_bool (by rw [hmem.out,show allB (fun x=>decide (x≠c)) s=_ from HX.out];rfl),rfl⟩
   .have HX:=hid (HT.out.trans (show (decide (s[j]≠c))=true from decide_eq_true hb))
    have heb:((s[j].toNat:Int) == c.toNat)=false:=by
     rw [beq_eq_false_iff_ne]
     intro e
     exact hb (UInt8.toNat_inj.1 (by omega))
    clear hb
    go_wp2
    go_round
    case rel=>exact ⟨j+1,by omega,by go_num,HX.out⟩
    case measure=>simp [intOf] <;> omega
  .obtain rfl:j=s.size:=by omega
   have HX:Hid (allB (fun x=>decide (x≠c)) s=true):=hid (by have:=HR.out;unfold AllTo at this;rwa [List.take_of_length_le (by simp)] at this)
   go_wp2
   go_ret
   exact ⟨ret_bool (by rw [hmem.out,show allB (fun x=>decide (x≠c)) s=_ from HX.out];rfl),rfl⟩
theorem sp_split {a b r:Bool} (h:(a || b)=r):(r=true/\(a=true\/(a=false/\b=true)))\/(r=false/\a=false/\b=false):=by cases a <;> cases b <;> simp_all
set_option maxRecDepth 100000 in
set_option maxHeartbeats 2000000 in
theorem rclass_any (c:UInt8) (w:World):Calls Tryz.prog 107 #[.int .u8 (c.toNat:Int)] w fun e w'=>e=.returned (.int .i64 (cls c:Int))/\w=w':=by
 obtain ⟨x,hx,h⟩:=rcls c
 simp only [List.mem_cons,List.not_mem_nil,or_false] at hx
 rcases hx with rfl|rfl|rfl|rfl|rfl|rfl|rfl|rfl|rfl
 all_goals
  simp only [rK,Prod.mk.injEq] at h
  obtain ⟨h0,h1,h2,h3,h4,h6,h5,h7⟩:=h
  have H7:=hid h7
  have C0:=hid h0
  have C1:=hid h1
  have C2:=hid h2
  have C3:=hid h3
  have C4:=hid h4
  have C5:=hid h5
  rcases sp_split h6 with ⟨hr,ha|⟨ha,hb⟩⟩|⟨hr,ha,hb⟩
  all_goals first|(exfalso;exact Bool.noConfusion hr)|skip
  all_goals
   clear h0 h1 h2 h3 h4 h5 h6 h7 hr
   go_enter Tryz.func107,Tryz.ntmps107
   go_wp2_with (go_at_call 140;refine (has_any _ _ _ (by decide)).mono ?_;rintro e w' ⟨rfl,rfl⟩;(first|rw [C0.out]|rw [C1.out]|rw [C2.out]|rw [C3.out]|rw [C4.out]|rw [C5.out]))
   go_ret
   exact ⟨by rw [H7.out];rfl,rfl⟩
set_option maxHeartbeats 1000000 in
theorem rall_any (s:ByteArray) (k:Int) (w:World) (hs:s.size<=9223372036854775807) :
 Calls Tryz.prog 142 #[.string s,.int .i64 k] w fun e w'=>e=.returned (.bool (allB (tstB k) s))/\w=w':=by
 go_enter Tryz.func142,Tryz.ntmps142
 go_wp2
 go_loop [5] (fun i=>∃ j:Nat,j<=s.size/\i=.int .i64 j/\AllTo (tstB k) s j) (fun i=>s.size-(intOf i).toNat)
 case atStart=>exact ⟨0,by omega,rfl,by simp [AllTo]⟩
 case round =>
  obtain ⟨j,hj,rfl,hrel⟩:=hrel
  have HR:=hid hrel
  clear hrel
  by_cases hlt:j<s.size
  .have HT:=hid (all_take hlt HR.out)
   have HF:=hid (fun q=>all_fail (p:=tstB k) hlt q)
   have HB:Hid (tstB k s[j]=!(bits .and .i64 (cls s[j]:Int) k == 0)):=hid rfl
   by_cases hb:(bits .and .i64 (cls s[j]:Int) k == 0)=true
   .have HX:=hid (HF.out (by rw [HB.out,hb];first|done|rfl))
    go_wp2_with (go_at_call 107;refine (rclass_any _ _).mono ?_;rintro e w' ⟨rfl,rfl⟩)
    go_ret
    exact ⟨ret_bool (show _=allB (tstB k) s from HX.out.symm),rfl⟩
   .have hb:(bits .and .i64 (cls s[j]:Int) k == 0)=false:=by simpa using hb
    have HX:=hid (HT.out.trans (by rw [HB.out,hb];first|done|rfl))
    go_wp2_with (go_at_call 107;refine (rclass_any _ _).mono ?_;rintro e w' ⟨rfl,rfl⟩)
    go_round
    case rel=>exact ⟨j+1,by omega,by go_num,HX.out⟩
    case measure=>simp [intOf] <;> omega
  .obtain rfl:j=s.size:=by omega
   have HX:Hid (allB (tstB k) s=true):=hid (by have:=HR.out;unfold AllTo at this;rwa [List.take_of_length_le (by simp)] at this)
   go_wp2
   go_ret
   exact ⟨ret_bool (show _=allB (tstB k) s from HX.out.symm),rfl⟩
def unescV (o:Option T):Value:=match o with
 | some t=>.tuple #[.string (str t),.int .i64 0]
 | none=>.tuple #[.string ⟨#[]⟩,.int .i64 12]
def UnPost (s:ByteArray) (w:World) (e:Ending) (w':World):Prop:=e=.returned (unescV (unesc s.data.toList))/\Below w.heap.size w w'
structure UnRel (s:ByteArray) (w:World) (k:Nat) (v:Value) (wr:World):Prop where
 own:∃ out:T,out.length<=k/\wr.ownsRow w.heap.size 5 1 v out.length (out.map B)/\unesc s.data.toList=(unesc (s.data.toList.drop k)).map (out++·)
 be:Below w.heap.size w wr
theorem drop_one {s:ByteArray} {k:Nat} (h:k<s.size):s.data.toList.drop k=s[k]::s.data.toList.drop (k+1):=by
 rw [List.drop_eq_getElem_cons (by simpa using h)]
 rfl
theorem unesc_plain {s:ByteArray} {k:Nat} (h:k<s.size) (hc:s[k]≠37):unesc (s.data.toList.drop k)=(unesc (s.data.toList.drop (k+1))).map (s[k]::·):=by
 rw [drop_one h]
 conv=>lhs;unfold unesc
 exact if_pos hc
theorem unesc_short {s:ByteArray} {k:Nat} (h:k<s.size) (hc:s[k]=37) (hl:s.size<k+3):unesc (s.data.toList.drop k)=none:=by
 rw [drop_one h,hc]
 conv=>lhs;unfold unesc
 rw [if_neg (by simp)]
 have hl2:(s.data.toList.drop (k+1)).length<2:=by simp;omega
 generalize s.data.toList.drop (k+1)=r at *
 match r,hl2 with
 | [],_=>rfl
 | [_],_=>rfl
theorem unesc_three {s:ByteArray} {k:Nat} (h:k+2<s.size) (hc:s[k]=37):unesc (s.data.toList.drop k)=if hexB s[k+1]&&hexB s[k+2] then (unesc (s.data.toList.drop (k+3))).map ((wor s[k+1]*16+wor s[k+2])::·) else none:=by
 rw [drop_one (by omega),hc,drop_one (k:=k+1) (by omega),drop_one (k:=k+1+1) (by omega)]
 conv=>lhs;unfold unesc
 rw [if_neg (by simp)]
end Go.Proofs.YthkadehlclcggaaGreatDoor
