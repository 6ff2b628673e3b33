/- Chapter 3: scan's lower, All, in. Chapter 3: scan's Lower, Same. Chapter 3: scan.Same. Chapter 3: scan.Escape. Chapter 3: scan.Number. Chapter 3: scan.Digits. Chapter 3: rosterref01.has, Class, All. Chapter 3: scan.worth, scan.Unescape. -/
import Derived.Test.YthfmekdbcoaolaaGreatDoorGy04
import Derived.Lib.ConvBytes
import Derived.Laws.IdiomStrings
import Derived.Deep.QuietTactic
import Derived.BigQuiet
import Derived.Test.YthfmekdbcoaolaaGreatDoorGy02
import Derived.StillTailTactics
import Derived.RegionTactic
import Derived.Deep.RegionHeld3
import Derived.Test.YthfmekdbcoaolaaGreatDoorGy01
namespace Go.Proofs.YthfmekdbcoaolaaGreatDoor
set_option linter.unusedSimpArgs false
set_option linter.unusedVariables false
open Go.RowKit
open Go.Lib (hid)
set_option maxRecDepth 100000 in
theorem lower_any (c:UInt8) (w:World):Calls Tryz.prog 142 #[.int .u8 (c.toNat:Int)] w fun e w'=>e=.returned (.int .u8 ((lo c).toNat:Int))/\w=w':=by
 have HL:=hid (lo_N c)
 have hn:(c.toNat:Int)<256:=by have:=c.toNat_lt;omega
 generalize (lo c).toNat=m at *
 generalize c.toNat=n at *
 by_cases h:65<=n/\n<=90
 .have HV:=hid (HL.out.trans (if_pos h))
  obtain ⟨h1,h2⟩:=h
  have x1:65<=(n:Int):=by omega
  have x2:(n:Int)<=90:=by omega
  have hw:IntKind.u8.wrap ((n:Int)+32)=(n:Int)+32:=by rw [IntKind.wrap_u8];omega
  go_enter Tryz.func142,Tryz.ntmps142
  go_wp2
  go_ret
  exact ⟨ret_int (by rw [HV.out];omega),rfl⟩
 .have HV:=hid (HL.out.trans (if_neg h))
  by_cases h1:(n:Int)<65
  .go_enter Tryz.func142,Tryz.ntmps142
   go_wp2
   go_ret
   exact ⟨ret_int (by rw [HV.out]),rfl⟩
  .have x1:65<=(n:Int):=by omega
   have x2:90<(n:Int):=by omega
   clear h
   go_enter Tryz.func142,Tryz.ntmps142
   go_wp2
   go_ret
   exact ⟨ret_int (by rw [HV.out]),rfl⟩
def AllTo (p:UInt8->Bool) (s:ByteArray) (j:Nat):Prop:=(s.data.toList.take j).all p=true
def allB (p:UInt8->Bool) (s:ByteArray):Bool:=s.data.toList.all p
def inB (s:ByteArray) (c:UInt8):Bool:=decide (c∈s.data.toList)
theorem all_take {p:UInt8->Bool} {s:ByteArray} {k:Nat} (hk:k<s.size) (h:AllTo p s k):(s.data.toList.take (k+1)).all p=p s[k]:=by
 unfold AllTo at h
 have e:s.data.toList.take (k+1)=s.data.toList.take k++[s[k]]:=by
  rw [List.take_succ_eq_append_getElem (by simpa using hk)]
  rfl
 rw [e,List.all_append,h]
 simp
theorem all_fail {p:UInt8->Bool} {s:ByteArray} {k:Nat} (hk:k<s.size) (h:p s[k]=false):s.data.toList.all p=false:=by
 rw [List.all_eq_false]
 exact ⟨s[k],by rw [show s[k]=s.data.toList[k]'(by simpa using hk) from rfl];exact List.getElem_mem _,by simp [h]⟩
set_option maxHeartbeats 1000000 in
theorem all_any (s:ByteArray) (k:Int) (w:World) (hs:s.size<=9223372036854775807) :
 Calls Tryz.prog 62 #[.string s,.int .i64 k] w fun e w'=>e=.returned (.bool (allB (tstB k) s))/\w=w':=by
 go_enter Tryz.func62,Tryz.ntmps62
 go_wp2
 go_loop [8] (fun i=>∃ j:Nat,j<=s.size/\i=.int .i64 j/\AllTo (tstB k) s j) (fun i=>s.size-(intOf i).toNat)
 case atStart=>exact ⟨0,by omega,rfl,by simp [AllTo]⟩
 case round =>
  obtain ⟨j,hj,rfl,hrel⟩:=hrel
  have HR:=hid hrel
  clear hrel
  by_cases hlt:j<s.size
  .have HT:=hid (all_take hlt HR.out)
   have HF:=hid (fun q=>all_fail (p:=tstB k) hlt q)
   have HB:Hid (tstB k s[j]=!(bits .and .i64 (cls s[j]:Int) k == 0)):=hid rfl
   by_cases hb:(bits .and .i64 (cls s[j]:Int) k == 0)=true
   .have HX:=hid (HF.out (by rw [HB.out,hb];first|done|rfl))
    go_wp2_with (go_at_call 93;refine (class_any _ _).mono ?_;rintro e w' ⟨rfl,rfl⟩)
    go_ret
    exact ⟨ret_bool (show _=allB (tstB k) s from HX.out.symm),rfl⟩
   .have hb:(bits .and .i64 (cls s[j]:Int) k == 0)=false:=by simpa using hb
    have HX:=hid (HT.out.trans (by rw [HB.out,hb];first|done|rfl))
    go_wp2_with (go_at_call 93;refine (class_any _ _).mono ?_;rintro e w' ⟨rfl,rfl⟩)
    go_round
    case rel=>exact ⟨j+1,by omega,by go_num,HX.out⟩
    case measure=>simp [intOf] <;> omega
  .obtain rfl:j=s.size:=by omega
   have HX:Hid (allB (tstB k) s=true):=hid (by have:=HR.out;unfold AllTo at this;rwa [List.take_of_length_le (by simp)] at this)
   go_wp2
   go_ret
   exact ⟨ret_bool (show _=allB (tstB k) s from HX.out.symm),rfl⟩
set_option maxHeartbeats 1000000 in
theorem in_any (s:ByteArray) (c:UInt8) (w:World) (hs:s.size<=9223372036854775807) :
 Calls Tryz.prog 174 #[.string s,.int .u8 (c.toNat:Int)] w fun e w'=>e=.returned (.bool (inB s c))/\w=w':=by
 have hmem:Hid (inB s c=!(allB (fun x=>decide (x≠c)) s)):=hid (by
  unfold inB allB
  by_cases h:c∈s.data.toList
  .rw [decide_eq_true h,List.all_eq_false.2 ⟨c,h,by simp⟩];rfl
  .rw [decide_eq_false h,List.all_eq_true.2 (fun x hx=>decide_eq_true (show x≠c from fun e=>h (e▸hx)))];rfl)
 go_enter Tryz.func174,Tryz.ntmps174
 go_wp2
 go_loop [8] (fun i=>∃ j:Nat,j<=s.size/\i=.int .i64 j/\AllTo (fun x=>decide (x≠c)) s j) (fun i=>s.size-(intOf i).toNat)
 case atStart=>exact ⟨0,by omega,rfl,by simp [AllTo]⟩
 case round =>
  obtain ⟨j,hj,rfl,hrel⟩:=hrel
  have HR:=hid hrel
  clear hrel
  by_cases hlt:j<s.size
  .have HT:=hid (all_take hlt HR.out)
   have HF:=hid (fun q=>all_fail (p:=fun x=>decide (x≠c)) hlt q)
   by_cases hb:s[j]=c
   .have HX:=hid (HF.out (by simp [hb]))
    have heb:((s[j].toNat:Int) == c.toNat)=true:=by rw [hb];exact beq_self_eq_true _
    clear hb
    go_wp2
    go_ret
    exact ⟨ret_bool (by rw [hmem.out,show allB (fun x=>decide (x≠c)) s=_ from HX.out];rfl),rfl⟩
   .have HX:=hid (HT.out.trans (show (decide (s[j]≠c))=true from decide_eq_true hb))
    have heb:((s[j].toNat:Int) == c.toNat)=false:=by
     rw [beq_eq_false_iff_ne]
     intro e
     exact hb (UInt8.toNat_inj.1 (by omega))
    clear hb
    go_wp2
    go_round
    case rel=>exact ⟨j+1,by omega,by go_num,HX.out⟩
    case measure=>simp [intOf] <;> omega
  .obtain rfl:j=s.size:=by omega
   have HX:Hid (allB (fun x=>decide (x≠c)) s=true):=hid (by have:=HR.out;unfold AllTo at this;rwa [List.take_of_length_le (by simp)] at this)
   go_wp2
   go_ret
   exact ⟨ret_bool (by rw [hmem.out,show allB (fun x=>decide (x≠c)) s=_ from HX.out];rfl),rfl⟩
def lowS (s:ByteArray):ByteArray:=str (low s.data.toList)
def lowAt (s:ByteArray) (k j:Nat):UInt8:=if j<k then lo (s.data.toList.getD j 0) else s.data.toList.getD j 0
structure LowRel (s:ByteArray) (w:World) (g k:Nat) (wr:World):Prop where
 cell:∀ j,j<s.size->wr.cell? ⟨g,j,none⟩=some (.int .u8 ((lowAt s k j).toNat:Int))
 fz:∀ j,j<s.size->wr.frozen? ⟨g,j,none⟩=false
 be:Below w.heap.size w wr
 ge:w.heap.size<=g
theorem LowRel.step {s:ByteArray} {w wr:World} {g k:Nat} (H:LowRel s w g k wr) (hk:k<s.size):LowRel s w g (k+1) (wr.setCell ⟨g,k,none⟩ (.int .u8 ((lo s[k]).toNat:Int))) where
 cell:=fun j hj=>by
  have hc:=H.cell j hj
  by_cases e:j=k
  .subst e
   have h1:lowAt s (j+1) j=lo s[j]:=by
    unfold lowAt
    rw [if_pos (by omega)]
    congr 1
    simp [List.getD,hj]
    rfl
   rw [h1]
   exact World.cell?_setCell_same' _ _ _ (by rw [hc];rfl)
  .refine (World.cell?_setCell_other (w:=wr) (a:=⟨g,k,none⟩) (b:=⟨g,j,none⟩) (v:=_) (by intro q;injection q with _ q _;exact e q.symm)).trans ?_
   rw [hc]
   unfold lowAt
   by_cases q:j<k
   .rw [if_pos q,if_pos (by omega)]
   .rw [if_neg q,if_neg (by omega)]
 fz:=fun j hj=>by rw [World.frozen?_setCell];exact H.fz j hj
 be:=H.be.setCell H.ge _
 ge:=H.ge
def LowPost (s:ByteArray) (w:World) (e:Ending) (w':World):Prop:=e=.returned (.string (lowS s))/\Below w.heap.size w w'
set_option maxRecDepth 100000 in
set_option maxHeartbeats 1000000 in
theorem Lower_any (s:ByteArray) (w:World) (hs:s.size<=9223372036854775807) :
 Calls Tryz.prog 122 #[.string s] w (LowPost s w):=by
 have hcv:=Lib.run_convert_string_bytes (P:=Tryz.prog) w 9 71 5 s Tryz.underlying9 Tryz.underlying71 Tryz.underlying5
 have h0:LowRel s w w.heap.size 0 (Lib.bytesWorld w 5 s):=by
  refine ⟨fun j hj=>?_,fun j hj=>?_,⟨rfl,rfl,rfl,by rw [Lib.bytesWorld_size];omega,fun k hk=>Lib.bytesWorld_at_old w _ s k hk⟩,Nat.le_refl _⟩
  .rw [Lib.bytesWorld_cell w _ s j hj];rfl
  .simp only [World.frozen?,Lib.bytesWorld_at_new]
   have:s.size<=(Lib.bytesCells w 5 s).size:=by unfold Lib.bytesCells;simp
   simp
   omega
 generalize Lib.bytesWorld w 5 s=W1 at *
 generalize grownCap w s.size 0 5=cap at *
 have H0:=hid h0
 clear h0
 obtain ⟨g,hg⟩:∃ g,w.heap.size=g:=⟨_,rfl⟩
 rw [hg] at hcv H0
 clear hg
 go_enter Tryz.func122,Tryz.ntmps122
 go_wp2
 go_loopw [9] (fun i wr=>∃ k:Nat,k<=s.size/\i=.int .i64 k/\LowRel s w g k wr) (fun i _=>s.size-(intOf i).toNat)
 case atStart=>exact ⟨0,by omega,rfl,H0.out⟩
 case round =>
  obtain ⟨k,hk,rfl,hR⟩:=hrel
  have HR:=hid hR
  by_cases hlt:k<s.size
  .have c1:wr.cell? ⟨g,k,none⟩=some (.int .u8 (s[k].toNat:Int)):=by
    rw [hR.cell k hlt]
    unfold lowAt
    rw [if_neg (by omega)]
    simp [List.getD,hlt]
    rfl
   have f1:=hR.fz k hlt
   have HS:=hid (hR.step hlt)
   have x0:(0:Int)<=k:=by omega
   have x1:(k:Int)<s.size:=by omega
   clear hR
   go_wp2_with (go_at_call 142;refine (lower_any _ _).mono ?_;rintro e w' ⟨rfl,rfl⟩)
   go_roundw
   case rel=>exact ⟨k+1,by omega,by go_num,HS.out⟩
   case measure=>simp [intOf] <;> omega
  .obtain rfl:k=s.size:=by omega
   have hl:(low s.data.toList).length=s.size:=by simp [low]
   have hbk:=run_convert_bytes_back (P:=Tryz.prog) wr 71 9 5 ⟨g,0,none⟩ cap (low s.data.toList) Tryz.underlying71 Tryz.underlying5 Tryz.underlying9 (fun j hj=>by
    have hj':j<s.size:=by omega
    have e:(⟨g,0,none⟩:Addr).add j=⟨g,j,none⟩:=by unfold Addr.add;split <;> simp_all
    rw [e,hR.cell j hj']
    unfold lowAt
    rw [if_pos hj']
    simp [low,List.getD,hj'])
   rw [hl] at hbk
   have HB:=hid hR.be
   clear hR
   go_wp2
   go_ret
   exact ⟨rfl,HB.out⟩
def sameS (a b:ByteArray):Bool:=decide (low a.data.toList=low b.data.toList)
theorem e5i:ElemInfo Tryz.prog 5 1 1 (.int .u8 0):=ElemInfo.mk' (by kernel_rfl)
def escS (keep s:ByteArray):ByteArray:=str (esc keep.data.toList s.data.toList)
def escTo (keep s:ByteArray) (k:Nat):List UInt8:=esc keep.data.toList (s.data.toList.take k)
theorem escTo_succ {keep s:ByteArray} {k:Nat} (hk:k<s.size):escTo keep s (k+1)=escTo keep s k++esc1 keep.data.toList s[k]:=by
 unfold escTo esc
 have e:s.data.toList.take (k+1)=s.data.toList.take k++[s[k]]:=by
  rw [List.take_succ_eq_append_getElem (by simpa using hk)]
  rfl
 rw [e,List.flatMap_append]
 simp
theorem esc1_len (keep:T) (c:UInt8):(esc1 keep c).length<=3:=by unfold esc1;split <;> simp
theorem escTo_len (keep s:ByteArray):∀ k,k<=s.size->(escTo keep s k).length<=3*k
 | 0,_=>by simp [escTo,esc]
 | k+1,h=>by
   rw [escTo_succ (by omega),List.length_append]
   have:=escTo_len keep s k (by omega)
   have:=esc1_len keep.data.toList s[k]
   omega
theorem Rd.of_row {w:World} {g:Nat} {e:TypeId} {l:List Value} (hb:Blk w g e l.toArray):Rd w e 1 l.length (some ⟨g,0,none⟩) l :=
 ⟨by omega,fun _=>⟨g,0,l.toArray,(0,0),rfl,hb,fun j u hj=>by rw [Nat.zero_add];simpa using hj⟩⟩
def sixS:ByteArray:=⟨#[48,49,50,51,52,53,54,55,56,57,65,66,67,68,69,70]⟩
theorem six_hx {a:Nat} (h:a<sixS.size):sixS[a]=hx (UInt8.ofNat a):=by
 have h:a<16:=h
 have:=(by decide +kernel:∀ a:Fin 16,sixS[a.val]'(a.isLt)=hx (UInt8.ofNat a.val)) ⟨a,h⟩
 exact this
structure EscRel (keep s:ByteArray) (w:World) (k:Nat) (v:Value) (wr:World):Prop where
 own:wr.ownsRow w.heap.size 5 1 v (escTo keep s k).length ((escTo keep s k).map B)
 be:Below w.heap.size w wr
def EscPost (keep s:ByteArray) (w:World) (e:Ending) (w':World):Prop:=e=.returned (.string (escS keep s))/\Below w.heap.size w w'
theorem EscRel.next {keep s:ByteArray} {w wr w4:World} {k:Nat} {v v4:Value} {l:List UInt8} (H:EscRel keep s w k v wr) (hk:k<s.size) (hl:esc1 keep.data.toList s[k]=l)
 (ho:w4.ownsRow w.heap.size 5 1 v4 ((escTo keep s k).length+l.length) ((escTo keep s k).map B++l.map B)) (hb:Below w.heap.size wr w4):EscRel keep s w (k+1) v4 w4:=by
 refine ⟨?_,H.be.trans hb⟩
 rw [escTo_succ hk,hl,List.length_append,List.map_append]
 exact ho
set_option maxRecDepth 100000 in
set_option maxHeartbeats 2000000 in
theorem Escape_any (s keep:ByteArray) (w:World) (hs:s.size<=1000000000) (hkeep:keep.size<=9223372036854775807) :
 Calls Tryz.prog 150 #[.string s,.string keep] w (EscPost keep s w):=by
 have H0:Hid (EscRel keep s w 0 (.slice none 0 0) w):=hid ⟨⟨by simp [escTo,esc],.inl ⟨rfl,by simp [escTo,esc]⟩⟩,Below.refl _ _⟩
 go_enter Tryz.func150,Tryz.ntmps150
 go_wp2
 go_loopw [5,10] (fun v i wr=>∃ k:Nat,k<=s.size/\i=.int .i64 k/\EscRel keep s w k v wr) (fun _ i _=>s.size-(intOf i).toNat)
 case atStart=>exact ⟨0,by omega,rfl,H0.out⟩
 case round =>
  obtain ⟨k,hk,rfl,hR⟩:=hrel
  have HR:=hid hR
  have HO:=hid hR.own
  have hbs:=hR.be.size
  have hlen:=escTo_len keep s k hk
  clear hR
  by_cases hlt:k<s.size
  .have hn:(s[k].toNat:Int)<256:=by have:=s[k].toNat_lt;omega
   by_cases hkp:keeps keep.data.toList s[k]=true
   .have HN:Hid (∀ (v4:Value) (w4:World),w4.ownsRow w.heap.size 5 1 v4 ((escTo keep s k).length+1) ((escTo keep s k).map B++[B s[k]])->Below w.heap.size wr w4->EscRel keep s w (k+1) v4 w4):=hid (fun v4 w4 a b=>EscRel.next HR.out hlt (l:=[s[k]]) (by unfold esc1;rw [if_pos hkp]) a b)
    unfold keeps at hkp
    simp only [Bool.and_eq_true,decide_eq_true_eq,Bool.or_eq_true] at hkp
    obtain ⟨h37,hor⟩:=hkp
    have e1:((s[k].toNat:Int) != 37)=true:=by
     simp only [bne_iff_ne,ne_eq]
     intro q
     exact h37 (UInt8.toNat_inj.1 (by simp;omega))
    have HT:Hid (tstB 16 s[k]=pla s[k]):=hid (tst_pla _)
    have hpb:(bits .and .i64 (cls s[k]:Int) 16 != 0)=pla s[k]:=HT.out
    clear h37
    have hib:Hid (pla s[k]=false->inB keep s[k]=true):=hid (fun q=>by rcases hor with h|h;rw [h] at q;cases q;exact decide_eq_true h)
    clear hor
    cases hp:pla s[k] with
    | true =>
      rw [hp] at hpb
      clear hp
      go_wp2_with (first|(go_at_call 93;refine (class_any _ _).mono ?_;rintro e w' ⟨rfl,rfl⟩)|(at_builtin;go_must (refine wpList_app1' rfl (.tmp 29) (.tmp 31) 71 rfl w.heap.size 5 1 1 _ Tryz.underlying71 e5i rfl (by omega) _ _ _ rfl HO.out [B s[k]] _ rfl (by simp) rfl (by simp [B,Value.oneCell']) (by unfold maxLen;omega) (by omega) (by omega) ?_);intro v4 w4 hown4 hb4 hg4 hat4))
      have HX:=hid (HN.out v4 w4 (by simpa using hown4) hb4)
      clear hown4 hb4 hg4 hat4
      go_roundw
      case rel=>exact ⟨k+1,by omega,by go_num,HX.out⟩
      case measure=>simp [intOf] <;> omega
    | false =>
      rw [hp] at hpb
      have hin:=hib.out hp
      clear hp
      go_wp2_with (first|(go_at_call 93;refine (class_any _ _).mono ?_;rintro e w' ⟨rfl,rfl⟩)|(go_at_call 174;refine (in_any _ _ _ hkeep).mono ?_;rintro e w' ⟨rfl,rfl⟩)|(at_builtin;go_must (refine wpList_app1' rfl (.tmp 29) (.tmp 31) 71 rfl w.heap.size 5 1 1 _ Tryz.underlying71 e5i rfl (by omega) _ _ _ rfl HO.out [B s[k]] _ rfl (by simp) rfl (by simp [B,Value.oneCell']) (by unfold maxLen;omega) (by omega) (by omega) ?_);intro v4 w4 hown4 hb4 hg4 hat4))
      have HX:=hid (HN.out v4 w4 (by simpa using hown4) hb4)
      clear hown4 hb4 hg4 hat4
      go_roundw
      case rel=>exact ⟨k+1,by omega,by go_num,HX.out⟩
      case measure=>simp [intOf] <;> omega
   .have hkp:keeps keep.data.toList s[k]=false:=by simpa using hkp
    have HN:Hid (∀ (v4:Value) (w4:World),w4.ownsRow w.heap.size 5 1 v4 ((escTo keep s k).length+3) ((escTo keep s k).map B++[B 37,B (hx (s[k] / 16)),B (hx (s[k] % 16))])->Below w.heap.size wr w4->EscRel keep s w (k+1) v4 w4):=hid (fun v4 w4 a b=>EscRel.next HR.out hlt (l:=[37,hx (s[k] / 16),hx (s[k] % 16)]) (by unfold esc1;rw [if_neg (by rw [hkp];simp)]) a b)
    have h37:s[k]=37\/s[k]≠37/\pla s[k]=false/\inB keep s[k]=false:=by
     by_cases q:s[k]=37
     .exact .inl q
     .unfold keeps at hkp
      simp only [q,ne_eq,not_false_eq_true,decide_true,Bool.true_and,Bool.or_eq_false_iff] at hkp
      exact .inr ⟨q,hkp.1,hkp.2⟩
    clear hkp
    have hn0:(0:Int)<=s[k].toNat:=by omega
    obtain ⟨a,ha⟩:∃ a:Nat,(s[k].toNat:Int) / 16=(a:Int):=⟨s[k].toNat / 16,by omega⟩
    obtain ⟨b,hb⟩:∃ b:Nat,(s[k].toNat:Int) % 16=(b:Int):=⟨s[k].toNat % 16,by omega⟩
    have hb':bits .and .u8 (s[k].toNat:Int) 15=(b:Int):=by
     rw [<-hb]
     have:=all_u8 (p:=fun c=>decide (bits .and .u8 (c.toNat:Int) 15=(c.toNat:Int) % 16)) (by decide +kernel) s[k]
     simpa using this
    have ha1:a<16:=by omega
    have hb1:b<16:=by omega
    have ha2:(a:Int)<16:=by omega
    have hb2:(b:Int)<16:=by omega
    have ha3:(0:Int)<=a:=by omega
    have hb3:(0:Int)<=b:=by omega
    have hd1:(a:Int)<((⟨#[48,49,50,51,52,53,54,55,56,57,65,66,67,68,69,70]⟩:ByteArray).size:Int):=by show (a:Int)<((16:Nat):Int);omega
    have hd2:(b:Int)<((⟨#[48,49,50,51,52,53,54,55,56,57,65,66,67,68,69,70]⟩:ByteArray).size:Int):=by show (b:Int)<((16:Nat):Int);omega
    have hSa:a<(⟨#[48,49,50,51,52,53,54,55,56,57,65,66,67,68,69,70]⟩:ByteArray).size:=ha1
    have hSb:b<(⟨#[48,49,50,51,52,53,54,55,56,57,65,66,67,68,69,70]⟩:ByteArray).size:=hb1
    have HEL:Hid ([Value.int .u8 37,.int .u8 (((⟨#[48,49,50,51,52,53,54,55,56,57,65,66,67,68,69,70]⟩:ByteArray)[a]'hSa).toNat:Int),.int .u8 (((⟨#[48,49,50,51,52,53,54,55,56,57,65,66,67,68,69,70]⟩:ByteArray)[b]'hSb).toNat:Int)]=[B 37,B (hx (s[k] / 16)),B (hx (s[k] % 16))]):=hid (by
     have e1:=six_hx (a:=a) hSa
     have e2:=six_hx (a:=b) hSb
     have f1:UInt8.ofNat a=s[k] / 16:=UInt8.toNat_inj.1 (by simp;omega)
     have f2:UInt8.ofNat b=s[k] % 16:=UInt8.toNat_inj.1 (by simp;omega)
     rw [f1] at e1
     rw [f2] at e2
     have g1:((⟨#[48,49,50,51,52,53,54,55,56,57,65,66,67,68,69,70]⟩:ByteArray)[a]'hSa)=hx (s[k] / 16):=e1
     have g2:((⟨#[48,49,50,51,52,53,54,55,56,57,65,66,67,68,69,70]⟩:ByteArray)[b]'hSb)=hx (s[k] % 16):=e2
     rw [g1,g2]
     rfl)
    rcases h37 with h37|⟨h37,hp,hin⟩
    .have e1:((s[k].toNat:Int) != 37)=false:=by rw [h37];rfl
     clear h37
     go_wp2_with fail
     go_region_held3 (fun _=>True) (trivial) (first|(refine step_app_rd (by rfl) (.tmp 33) (.tmp 40) 71 (by rfl) w.heap.size 5 1 1 (.int .u8 0) Tryz.underlying71 e5i (by rfl) (by omega) u5 (escTo keep s k).length ((escTo keep s k).map B) (by rfl) ?_ (some ⟨wr.heap.size,0,none⟩) 3 3 [.int .u8 37,.int .u8 (((⟨#[48,49,50,51,52,53,54,55,56,57,65,66,67,68,69,70]⟩:ByteArray)[a]'hSa).toNat:Int),.int .u8 (((⟨#[48,49,50,51,52,53,54,55,56,57,65,66,67,68,69,70]⟩:ByteArray)[b]'hSb).toNat:Int)] (by rfl) ?_ ?_ ?_ ?_ ?_ ?_;(first|exact own_fr HO.out (((Fr.refl (fun _=>False) _).alloc _).drew) (fun _ _ h=>h)|exact own_fr HO.out (((Fr.refl (fun _=>False) _).drew).alloc _) (fun _ _ h=>h));(first|exact Rd.of_row (l:=[_,_,_]) ((Blk.new wr _ _).drewN 1)|exact Rd.of_row (l:=[_,_,_]) (Blk.new wr.drew _ _));(intro u hu;simp at hu;rcases hu with rfl|rfl|rfl <;> rfl);(unfold maxLen;omega);omega;(first|(show _<=(wr.alloc _).heap.size;simp;omega)|(simp;omega));intro v4 w4 hown4 hb4 hg4 hat4))
     all_goals
      rw [HEL.out] at hown4
      have HX:=hid (HN.out v4 w4 hown4 (((Below.refl _ wr).alloc hbs _).drew.trans hb4))
      clear hown4 hb4 hg4 hat4
      go_wp2
      go_roundw
      case rel=>exact ⟨k+1,by omega,by go_num,HX.out⟩
      case measure=>simp [intOf] <;> omega
    .have e1:((s[k].toNat:Int) != 37)=true:=by
      simp only [bne_iff_ne,ne_eq]
      intro q
      exact h37 (UInt8.toNat_inj.1 (by simp;omega))
     have HT:Hid (tstB 16 s[k]=pla s[k]):=hid (tst_pla _)
     have hpb:(bits .and .i64 (cls s[k]:Int) 16 != 0)=false:=HT.out.trans hp
     clear h37 hp
     go_wp2_with (first|(go_at_call 93;refine (class_any _ _).mono ?_;rintro e w' ⟨rfl,rfl⟩)|(go_at_call 174;refine (in_any _ _ _ hkeep).mono ?_;rintro e w' ⟨rfl,rfl⟩;rw [hin]))
     go_region_held3 (fun _=>True) (trivial) (first|(refine step_app_rd (by rfl) (.tmp 33) (.tmp 40) 71 (by rfl) w.heap.size 5 1 1 (.int .u8 0) Tryz.underlying71 e5i (by rfl) (by omega) u5 (escTo keep s k).length ((escTo keep s k).map B) (by rfl) ?_ (some ⟨wr.heap.size,0,none⟩) 3 3 [.int .u8 37,.int .u8 (((⟨#[48,49,50,51,52,53,54,55,56,57,65,66,67,68,69,70]⟩:ByteArray)[a]'hSa).toNat:Int),.int .u8 (((⟨#[48,49,50,51,52,53,54,55,56,57,65,66,67,68,69,70]⟩:ByteArray)[b]'hSb).toNat:Int)] (by rfl) ?_ ?_ ?_ ?_ ?_ ?_;(first|exact own_fr HO.out (((Fr.refl (fun _=>False) _).alloc _).drew) (fun _ _ h=>h)|exact own_fr HO.out (((Fr.refl (fun _=>False) _).drew).alloc _) (fun _ _ h=>h));(first|exact Rd.of_row (l:=[_,_,_]) ((Blk.new wr _ _).drewN 1)|exact Rd.of_row (l:=[_,_,_]) (Blk.new wr.drew _ _));(intro u hu;simp at hu;rcases hu with rfl|rfl|rfl <;> rfl);(unfold maxLen;omega);omega;(first|(show _<=(wr.alloc _).heap.size;simp;omega)|(simp;omega));intro v4 w4 hown4 hb4 hg4 hat4))
     all_goals
      rw [HEL.out] at hown4
      have HX:=hid (HN.out v4 w4 hown4 (((Below.refl _ wr).alloc hbs _).drew.trans hb4))
      clear hown4 hb4 hg4 hat4
      go_wp2
      go_roundw
      case rel=>exact ⟨k+1,by omega,by go_num,HX.out⟩
      case measure=>simp [intOf] <;> omega
  .obtain rfl:k=s.size:=by omega
   have hcv:=run_string_own (P:=Tryz.prog) 71 9 5 Tryz.underlying71 Tryz.underlying5 Tryz.underlying9 HO.out
   have HB:=hid HR.out.be
   have HE:Hid (str (escTo keep s s.size)=escS keep s):=hid (by unfold escTo escS;rw [List.take_of_length_le (by simp)])
   rw [HE.out] at hcv
   go_wp2
   go_ret
   exact ⟨rfl,HB.out⟩
def valTo (s:ByteArray) (k:Nat):Nat:=valT (s.data.toList.take k)
theorem fold_ge:∀ (l:T) (n:Nat),n<=l.foldl (fun n c=>10*n+(c-48).toNat) n
 | [],n=>by simp
 | c::l,n=>by
   have:=fold_ge l (10*n+(c-48).toNat)
   simp only [List.foldl_cons]
   omega
theorem val_ge (s:ByteArray) (k:Nat):valTo s k<=valT s.data.toList:=by
 conv=>rhs;rw [<-List.take_append_drop k s.data.toList]
 unfold valTo valT
 rw [List.foldl_append]
 exact fold_ge _ _
theorem val_step {s:ByteArray} {k D:Nat} (hk:k<s.size) (hD:s[k].toNat=48+D):valTo s (k+1)=10*valTo s k+D:=by
 have e:s.data.toList.take (k+1)=s.data.toList.take k++[s[k]]:=by
  rw [List.take_succ_eq_append_getElem (by simpa using hk)]
  rfl
 unfold valTo
 rw [e,val_app]
 congr 1
 have:(48:UInt8)<=s[k]:=UInt8.le_iff_toNat_le.2 (by rw [hD];show 48<=_;omega)
 rw [UInt8.toNat_sub_of_le _ _ this,hD]
 show 48+D-48=D
 omega
theorem dig_at {s:ByteArray} {k:Nat} (hk:k<s.size) (h:allB dig s=true):∃ D:Nat,D<=9/\s[k].toNat=48+D:=by
 have h1:dig s[k]=true:=List.all_eq_true.1 h _ (show s[k]∈s.data.toList from Array.mem_toList_iff.2 (Array.getElem_mem _))
 unfold dig at h1
 have h2:=of_decide_eq_true h1
 have h3:(48:UInt8).toNat<=s[k].toNat:=UInt8.le_iff_toNat_le.1 h2.1
 have h4:s[k].toNat<=(57:UInt8).toNat:=UInt8.le_iff_toNat_le.1 h2.2
 have h3:48<=s[k].toNat:=h3
 have h4:s[k].toNat<=57:=h4
 exact ⟨s[k].toNat-48,by omega,by omega⟩
theorem emp_no {s:ByteArray} (h:s≠⟨#[]⟩):s.toList.isEmpty=false:=by
 rw [ByteArray.toList_eq]
 cases e:s.data.toList with
 | nil=>exact absurd (by cases s with|mk d=>exact congrArg ByteArray.mk (Array.toList_inj.1 (by simpa using e))) h
 | cons=>rfl
def numV (s:ByteArray) (most:Nat):Value :=
 if s=⟨#[]⟩\/allB dig s=false then .tuple #[.int .i64 0,.int .i64 10]
 else if valT s.data.toList<=most then .tuple #[.int .i64 (valT s.data.toList:Int),.int .i64 0] else .tuple #[.int .i64 0,.int .i64 9]
set_option maxHeartbeats 1000000 in
theorem Number_any (s:ByteArray) (most:Nat) (w:World) (hs:s.size<=9223372036854775807) (hm:most<=1000000000000) :
 Calls Tryz.prog 172 #[.string s,.int .i64 (most:Int)] w fun e w'=>e=.returned (numV s most)/\w=w':=by
 have hd:Hid (allB (tstB 1) s=allB dig s):=hid (congrFun (congrArg allB (funext tst_dig)) s)
 have HALL:=hid (all_any s 1 w hs)
 by_cases he:s=⟨#[]⟩
 .have HN:Hid (numV s most=.tuple #[.int .i64 0,.int .i64 10]):=hid (if_pos (.inl he))
  subst he
  clear HALL
  go_enter Tryz.func172,Tryz.ntmps172
  go_wp2
  go_ret2
  exact ⟨by rw [HN.out];rfl,rfl⟩
 .have he2:s.toList.isEmpty=false:=emp_no he
  by_cases ha:allB dig s=true
  .have HA:=hid (hd.out.trans ha)
   have HN1:Hid (valT s.data.toList<=most->numV s most=.tuple #[.int .i64 (valT s.data.toList:Int),.int .i64 0]):=hid (fun h=>(if_neg (by simp [he,ha])).trans (if_pos h))
   have HN2:Hid (most<valT s.data.toList->numV s most=.tuple #[.int .i64 0,.int .i64 9]):=hid (fun h=>(if_neg (by simp [he,ha])).trans (if_neg (by omega)))
   have HD:Hid (allB dig s=true):=hid ha
   clear ha
   go_enter Tryz.func172,Tryz.ntmps172
   go_wp2_with (go_at_call 62;refine (HALL.out).mono ?_;rintro e w' ⟨rfl,rfl⟩;rw [HA.out])
   go_loop [6,18] (fun n i=>∃ k:Nat,k<=s.size/\i=.int .i64 k/\∃ v:Nat,n=.int .i64 v/\v=valTo s k/\v<=most) (fun _ i=>s.size-(intOf i).toNat)
   case atStart=>exact ⟨0,by omega,rfl,0,rfl,by simp [valTo,valT],by omega⟩
   case round =>
    obtain ⟨k,hk,rfl,v,rfl,hv,hvm⟩:=hrel
    have HV:=hid hv
    clear hv
    by_cases hlt:k<s.size
    .obtain ⟨D,hD9,hDs⟩:=dig_at hlt HD.out
     have HST:=hid (val_step hlt hDs)
     have HGE:=hid (val_ge s (k+1))
     have r1:(s[k].toNat:Int)=48+D:=by omega
     have r2:IntKind.u8.wrap ((48+(D:Int))-48)=(D:Int):=by rw [IntKind.wrap_u8];omega
     have r3:IntKind.i64.wrap (D:Int)=(D:Int):=IntWalk.i64_in _ (by omega)
     have r4:IntKind.i64.wrap ((most:Int)-D)=(most:Int)-D:=IntWalk.i64_in _ (by omega)
     have r5:IntKind.i64.wrap (10*(v:Int))=10*(v:Int):=IntWalk.i64_in _ (by omega)
     have r6:IntKind.i64.wrap (10*(v:Int)+D)=10*(v:Int)+D:=IntWalk.i64_in _ (by omega)
     have ov:Hid (most<valTo s (k+1)->numV s most=.tuple #[.int .i64 0,.int .i64 9]):=hid (fun h=>HN2.out (Nat.lt_of_lt_of_le h HGE.out))
     clear he
     by_cases h1:D<=most
     .by_cases h2:(v:Int)<=((most:Int)-D) / 10
      .have HX:Hid (10*v+D=valTo s (k+1)):=hid (by rw [HST.out,HV.out])
       go_wp2
       all_goals first|(exfalso;omega)|skip
       go_round
       case rel=>exact ⟨k+1,by omega,by go_num,10*v+D,by go_num,HX.out,by omega⟩
       case measure=>simp [intOf] <;> omega
      .have HX:=hid (ov.out (by rw [HST.out,<-HV.out];omega))
       go_wp2
       all_goals first|(exfalso;omega)|skip
       go_ret2
       exact ⟨by rw [HX.out];rfl,rfl⟩
     .have HX:=hid (ov.out (by rw [HST.out,<-HV.out];omega))
      go_wp2
      all_goals first|(exfalso;omega)|skip
      go_ret2
      exact ⟨by rw [HX.out];rfl,rfl⟩
    .obtain rfl:k=s.size:=by omega
     have HX:Hid (v=valT s.data.toList):=hid (by rw [HV.out];unfold valTo;rw [List.take_of_length_le (by simp)])
     have HY:=hid (HN1.out (by rw [<-HX.out];exact hvm))
     go_wp2
     go_ret2
     exact ⟨by rw [HY.out,<-HX.out];rfl,rfl⟩
  .have ha:allB dig s=false:=by simpa using ha
   have HA:=hid (hd.out.trans ha)
   have HN:Hid (numV s most=.tuple #[.int .i64 0,.int .i64 10]):=hid (if_pos (.inr ha))
   clear ha
   go_enter Tryz.func172,Tryz.ntmps172
   go_wp2_with (go_at_call 62;refine (HALL.out).mono ?_;rintro e w' ⟨rfl,rfl⟩;rw [HA.out])
   go_ret2
   exact ⟨by rw [HN.out];rfl,rfl⟩
theorem digs_len:∀ (k n:Nat),1<=k->n<10 ^ k->(digs n).length<=k
 | 0,_,h,_=>by omega
 | k+1,n,_,h=>by
   unfold digs
   split
   .simp
   .have h2:n / 10<10 ^ k:=by rw [Nat.pow_succ] at h;omega
    rcases k with _|k
    .simp at h2;omega
    .have:=digs_len (k+1) (n / 10) (by omega) h2
     simp only [List.length_append,List.length_cons,List.length_nil]
     omega
theorem digs_lt {n:Nat} (h:n<10):digs n=[48+UInt8.ofNat n]:=by unfold digs;rw [if_pos h]
theorem digs_ge {n:Nat} (h:¬n<10):digs n=digs (n / 10)++[48+UInt8.ofNat (n % 10)]:=by conv=>lhs;unfold digs;rw [if_neg h]
theorem dgt_B {n:Nat}:B (48+UInt8.ofNat (n % 10))=.int .u8 (48+(n:Int) % 10):=by
 have h:n % 10<10:=Nat.mod_lt _ (by omega)
 have:(48+UInt8.ofNat (n % 10)).toNat=48+n % 10:=by
  rw [UInt8.toNat_add,UInt8.toNat_ofNat']
  show (48+n % 10 % 256) % 256=_
  omega
 unfold B
 rw [this]
 congr 1
structure DgRel (n0:Nat) (w:World) (n:Nat) (k:Nat) (m:Bool) (wr:World):Prop where
 own:∃ (pre:List Value) (out:T),pre.length=k/\k+out.length=20/\Blk wr w.heap.size 233 (pre++out.map B).toArray/\(m=true->digs n0=digs n++out/\(digs n).length<=k)/\(m=false->digs n0=out)
 be:Below w.heap.size w wr
theorem dg_next {n0 n k:Nat} {m:Bool} {w wr':World} {pre:List Value} {out:T} (hp:pre.length=k) (ho:k+out.length=20) (hd:digs n0=digs n++out) (hl:(digs n).length<=k)
 (hb:Blk wr' w.heap.size 233 ((pre++out.map B).toArray.setIfInBounds (k-1) (.int .u8 (48+(n:Int) % 10)))) (hB:Below w.heap.size w wr') (hm:m=decide (0<n / 10)):DgRel n0 w (n / 10) (k-1) m wr':=by
 have hk:1<=k:=by
  have:0<(digs n).length:=List.length_pos_iff.2 (digs_ne n)
  omega
 refine ⟨⟨pre.take (k-1),(48+UInt8.ofNat (n % 10))::out,by simp;omega,by simp;omega,?_,?_,?_⟩,hB⟩
 .rw [List.map_cons,dgt_B]
  have e:(pre++out.map B).toArray.setIfInBounds (k-1) (.int .u8 (48+(n:Int) % 10))=(pre.take (k-1)++.int .u8 (48+(n:Int) % 10)::out.map B).toArray:=by
   have e1:pre=pre.take (k-1)++[pre[k-1]]:=by
    conv=>lhs;rw [<-List.take_append_drop (k-1) pre]
    congr 1
    rw [List.drop_eq_getElem_cons (by omega),List.drop_eq_nil_of_le (by omega)]
   conv=>lhs;rw [e1]
   have hl:(pre.take (k-1)).length=k-1:=by simp;omega
   generalize pre.take (k-1)=q at *
   rw [List.setIfInBounds_toArray]
   congr 1
   rw [List.append_assoc,List.set_append_right _ _ (by omega),hl,Nat.sub_self]
   rfl
  rw [<-e]
  exact hb
 .intro h
  rw [hm] at h
  have h:=of_decide_eq_true h
  rw [hd,digs_ge (by omega:¬n<10)]
  refine ⟨by simp,?_⟩
  have:=digs_ge (by omega:¬n<10)
  rw [this] at hl
  simp at hl
  omega
 .intro h
  rw [hm] at h
  have h:=of_decide_eq_false h
  have h9:n<10:=by omega
  rw [hd,digs_lt h9,Nat.mod_eq_of_lt h9]
  rfl
theorem al20:Tryz.prog.arrayLen 233=20:=by kernel_rfl
theorem sl20 (w:World) (g k:Nat) (hk:k<20):(Instr.sliceAt 233 (.pointer (some ⟨g,0,none⟩)) (some (.int .i64 (k:Int))) none none).run Tryz.prog w=.ok (.slice (some ⟨g,k,none⟩) (20-k) (20-k)) w:=by
 have hz:(sizeOf (Tryz.prog.elem 233)).run Tryz.prog w=.ok 1 w:=by
  have he:Tryz.prog.elem 233=5:=by kernel_rfl
  rw [he]
  obtain ⟨i,h1,h2,h3,h4⟩:=e5i
  rw [run_sizeOf w h1]
  simp [Program.cellsOf,h1,h3]
 rw [run_sliceAt_array_l w 233 ⟨g,0,none⟩ (by kernel_rfl) .i64 (k:Int) (by omega) (by rw [al20];omega),hz,al20]
 simp only [Result.andThen_ok,slicedAt,Int.toNat_natCast]
 rw [if_neg (by omega)]
 simp [Addr.add]
 try omega
set_option maxRecDepth 100000 in
set_option maxHeartbeats 1000000 in
theorem Digits_any (n0:Nat) (w:World) (h0:n0<=1000000000000) :
 Calls Tryz.prog 151 #[.int .i64 (n0:Int)] w fun e w'=>e=.returned (.string (str (digs n0)))/\Below w.heap.size w w':=by
 have H0:∀ wr,wr=w.alloc (.cells #[.int .u8 0,.int .u8 0,.int .u8 0,.int .u8 0,.int .u8 0,.int .u8 0,.int .u8 0,.int .u8 0,.int .u8 0,.int .u8 0,.int .u8 0,.int .u8 0,.int .u8 0,.int .u8 0,.int .u8 0,.int .u8 0,.int .u8 0,.int .u8 0,.int .u8 0,.int .u8 0] 233)->DgRel n0 w n0 20 true wr:=by
  rintro wr rfl
  exact ⟨⟨[.int .u8 0,.int .u8 0,.int .u8 0,.int .u8 0,.int .u8 0,.int .u8 0,.int .u8 0,.int .u8 0,.int .u8 0,.int .u8 0,.int .u8 0,.int .u8 0,.int .u8 0,.int .u8 0,.int .u8 0,.int .u8 0,.int .u8 0,.int .u8 0,.int .u8 0,.int .u8 0],[],rfl,rfl,Blk.new w _ _,fun _=>⟨by simp,digs_len 20 n0 (by omega) (by omega)⟩,fun h=>by simp at h⟩,(Below.refl _ _).alloc (by omega) _⟩
 have H0:=hid H0
 go_enter Tryz.func151,Tryz.ntmps151
 go_wp2
 go_loopw [0,4,5] (fun n a m wr=>∃ (k p:Nat) (b:Bool),n=.int .i64 (p:Int)/\a=.int .i64 (k:Int)/\m=.bool b/\p<=n0/\DgRel n0 w p k b wr) (fun _ a _ _=>(intOf a).toNat)
 case atStart=>exact ⟨20,n0,true,rfl,rfl,rfl,by omega,H0.out _ rfl⟩
 case round =>
  obtain ⟨k,p,b,rfl,rfl,rfl,hp0,hR⟩:=hrel
  have hbs:=hR.be.size
  have HB:=hid hR.be
  obtain ⟨pre,out,hpl,hol,hblk,hm1,hm2⟩:=hR.own
  have HK:=hid hblk
  have HM1:=hid hm1
  have HM2:=hid hm2
  clear hR hblk hm1 hm2
  cases b
  .have HE:=hid (HM2.out rfl)
   have hcv:=run_convert_bytes_arg (P:=Tryz.prog) wr 71 5 Tryz.underlying71 Tryz.underlying5 w.heap.size k (20-k) (20-k) (out.map fun x=>(x.toNat:Int)) (by simp;omega) (fun i hi=>by
    rw [HK.out.cell]
    have:(pre++out.map B).toArray[k+i]?=some (B (out[i]'(by omega))):=by
     rw [List.getElem?_toArray,List.getElem?_append_right (by omega),hpl,show k+i-k=i from by omega,List.getElem?_map,List.getElem?_eq_getElem (by omega)]
     rfl
    rw [this]
    simp [List.getD,List.getElem?_eq_getElem (show i<out.length by omega),B]) 9 Tryz.underlying9
   have hso:strOfNums (out.map fun x=>(x.toNat:Int))=str (digs n0):=by
    rw [HE.out]
    simp [strOfNums,str,List.map_map,Function.comp_def]
   rw [hso] at hcv
   have hsl:=sl20 wr w.heap.size k (by
    have:=List.length_pos_iff.2 (digs_ne n0)
    rw [HE.out] at this
    omega)
   go_wp2
   go_ret
   exact ⟨rfl,HB.out⟩
  .have HE:=hid (HM1.out rfl)
   have hk1:1<=k:=by
    have:=List.length_pos_iff.2 (digs_ne p)
    have:=HE.out.2
    omega
   have zf:=HK.out.frozen (k-1)
   have zc:wr.cell? ⟨w.heap.size,k-1,none⟩=some (pre[k-1]'(by omega)):=by
    rw [HK.out.cell,List.getElem?_toArray,List.getElem?_append_left (by omega),List.getElem?_eq_getElem (by omega)]
   have HS:=hid (HK.out.set_ (k-1) (.int .u8 (48+(p:Int) % 10)))
   have HN:=hid (fun m=>dg_next (m:=m) hpl hol HE.out.1 HE.out.2 HS.out (HB.out.setCell (by simp) _))
   go_wp2
   go_roundw
   case rel=>exact ⟨k-1,p / 10,decide (0<p / 10),by go_num,by go_num,by go_num,by omega,HN.out _ rfl⟩
   case measure=>simp [intOf] <;> omega
def rK (c:UInt8):Bool × Bool × Bool × Bool × Bool × Bool × Bool × Nat:=(inB ⟨#[48,49,50,51,52,53,54,55,56,57]⟩ c,inB ⟨#[97,98,99,100,101,102,103,104,105,106,107,108,109,110,111,112,113,114,115,116,117,118,119,120,121,122,65,66,67,68,69,70,71,72,73,74,75,76,77,78,79,80,81,82,83,84,85,86,87,88,89,90]⟩ c,inB ⟨#[48,49,50,51,52,53,54,55,56,57,97,98,99,100,101,102,65,66,67,68,69,70]⟩ c,inB ⟨#[48,49,50,51,52,53,54,55,56,57,97,98,99,100,101,102,103,104,105,106,107,108,109,110,111,112,113,114,115,116,117,118,119,120,121,122,65,66,67,68,69,70,71,72,73,74,75,76,77,78,79,80,81,82,83,84,85,86,87,88,89,90,45,46,33,37,42,95,43,96,39,126]⟩ c,inB ⟨#[48,49,50,51,52,53,54,55,56,57,97,98,99,100,101,102,103,104,105,106,107,108,109,110,111,112,113,114,115,116,117,118,119,120,121,122,65,66,67,68,69,70,71,72,73,74,75,76,77,78,79,80,81,82,83,84,85,86,87,88,89,90,45,95,46,33,126,42,39,40,41]⟩ c,((c.toNat:Int) == 32 || (c.toNat:Int) == 9),inB ⟨#[48,49,50,51,52,53,54,55,56,57,97,98,99,100,101,102,103,104,105,106,107,108,109,110,111,112,113,114,115,116,117,118,119,120,121,122,65,66,67,68,69,70,71,72,73,74,75,76,77,78,79,80,81,82,83,84,85,86,87,88,89,90,45,46]⟩ c,cls c)
set_option synthInstance.maxSize 4000 in
set_option synthInstance.maxHeartbeats 200000 in
set_option maxRecDepth 100000 in
theorem rcls (c:UInt8):∃ x∈([(true,false,true,true,true,false,true,93),(false,true,true,true,true,false,true,94),(false,true,false,true,true,false,true,90),(false,false,false,true,true,false,true,88),(false,false,false,true,true,false,false,24),(false,false,false,true,false,false,false,8),(false,false,false,false,true,false,false,16),(false,false,false,false,false,true,false,32),(false,false,false,false,false,false,false,0)]:List (Bool × Bool × Bool × Bool × Bool × Bool × Bool × Nat)),rK c=x:=by
 have:=all_u8 (p:=fun c=>([(true,false,true,true,true,false,true,93),(false,true,true,true,true,false,true,94),(false,true,false,true,true,false,true,90),(false,false,false,true,true,false,true,88),(false,false,false,true,true,false,false,24),(false,false,false,true,false,false,false,8),(false,false,false,false,true,false,false,16),(false,false,false,false,false,true,false,32),(false,false,false,false,false,false,false,0)]:List (Bool × Bool × Bool × Bool × Bool × Bool × Bool × Nat)).any fun x=>decide (rK c=x)) (by decide +kernel) c
 obtain ⟨x,hx,h⟩:=List.any_eq_true.1 this
 exact ⟨x,hx,of_decide_eq_true h⟩
set_option maxHeartbeats 1000000 in
theorem has_any (s:ByteArray) (c:UInt8) (w:World) (hs:s.size<=9223372036854775807) :
 Calls Tryz.prog 88 #[.string s,.int .u8 (c.toNat:Int)] w fun e w'=>e=.returned (.bool (inB s c))/\w=w':=by
 have hmem:Hid (inB s c=!(allB (fun x=>decide (x≠c)) s)):=hid (by
  unfold inB allB
  by_cases h:c∈s.data.toList
  .rw [decide_eq_true h,List.all_eq_false.2 ⟨c,h,by simp⟩];rfl
  .rw [decide_eq_false h,List.all_eq_true.2 (fun x hx=>decide_eq_true (show x≠c from fun e=>h (e▸hx)))];rfl)
 go_enter Tryz.func88,Tryz.ntmps88
 go_wp2
 go_loop [5] (fun i=>∃ j:Nat,j<=s.size/\i=.int .i64 j/\AllTo (fun x=>decide (x≠c)) s j) (fun i=>s.size-(intOf i).toNat)
 case atStart=>exact ⟨0,by omega,rfl,by simp [AllTo]⟩
 case round =>
  obtain ⟨j,hj,rfl,hrel⟩:=hrel
  have HR:=hid hrel
  clear hrel
  by_cases hlt:j<s.size
  .have HT:=hid (all_take hlt HR.out)
   have HF:=hid (fun q=>all_fail (p:=fun x=>decide (x≠c)) hlt q)
   by_cases hb:s[j]=c
   .have HX:=hid (HF.out (by simp [hb]))
    have heb:((s[j].toNat:Int) == c.toNat)=true:=by rw [hb];exact beq_self_eq_true _
    clear hb
    go_wp2
    go_ret
    exact ⟨ret_bool (by rw [hmem.out,show allB (fun x=>decide (x≠c)) s=_ from HX.out];rfl),rfl⟩
   .have HX:=hid (HT.out.trans (show (decide (s[j]≠c))=true from decide_eq_true hb))
    have heb:((s[j].toNat:Int) == c.toNat)=false:=by
     rw [beq_eq_false_iff_ne]
     intro e
     exact hb (UInt8.toNat_inj.1 (by omega))
    clear hb
    go_wp2
    go_round
    case rel=>exact ⟨j+1,by omega,by go_num,HX.out⟩
    case measure=>simp [intOf] <;> omega
  .obtain rfl:j=s.size:=by omega
   have HX:Hid (allB (fun x=>decide (x≠c)) s=true):=hid (by have:=HR.out;unfold AllTo at this;rwa [List.take_of_length_le (by simp)] at this)
   go_wp2
   go_ret
   exact ⟨ret_bool (by rw [hmem.out,show allB (fun x=>decide (x≠c)) s=_ from HX.out];rfl),rfl⟩
theorem sp_split {a b r:Bool} (h:(a || b)=r):(r=true/\(a=true\/(a=false/\b=true)))\/(r=false/\a=false/\b=false):=by cases a <;> cases b <;> simp_all
set_option maxRecDepth 100000 in
set_option maxHeartbeats 2000000 in
theorem rclass_any (c:UInt8) (w:World):Calls Tryz.prog 58 #[.int .u8 (c.toNat:Int)] w fun e w'=>e=.returned (.int .i64 (cls c:Int))/\w=w':=by
 obtain ⟨x,hx,h⟩:=rcls c
 simp only [List.mem_cons,List.not_mem_nil,or_false] at hx
 rcases hx with rfl|rfl|rfl|rfl|rfl|rfl|rfl|rfl|rfl
 all_goals
  simp only [rK,Prod.mk.injEq] at h
  obtain ⟨h0,h1,h2,h3,h4,h6,h5,h7⟩:=h
  have H7:=hid h7
  have C0:=hid h0
  have C1:=hid h1
  have C2:=hid h2
  have C3:=hid h3
  have C4:=hid h4
  have C5:=hid h5
  rcases sp_split h6 with ⟨hr,ha|⟨ha,hb⟩⟩|⟨hr,ha,hb⟩
  all_goals first|(exfalso;exact Bool.noConfusion hr)|skip
  all_goals
   clear h0 h1 h2 h3 h4 h5 h6 h7 hr
   go_enter Tryz.func58,Tryz.ntmps58
   go_wp2_with (go_at_call 88;refine (has_any _ _ _ (by decide)).mono ?_;rintro e w' ⟨rfl,rfl⟩;(first|rw [C0.out]|rw [C1.out]|rw [C2.out]|rw [C3.out]|rw [C4.out]|rw [C5.out]))
   go_ret
   exact ⟨by rw [H7.out];rfl,rfl⟩
set_option maxHeartbeats 1000000 in
theorem rall_any (s:ByteArray) (k:Int) (w:World) (hs:s.size<=9223372036854775807) :
 Calls Tryz.prog 41 #[.string s,.int .i64 k] w fun e w'=>e=.returned (.bool (allB (tstB k) s))/\w=w':=by
 go_enter Tryz.func41,Tryz.ntmps41
 go_wp2
 go_loop [5] (fun i=>∃ j:Nat,j<=s.size/\i=.int .i64 j/\AllTo (tstB k) s j) (fun i=>s.size-(intOf i).toNat)
 case atStart=>exact ⟨0,by omega,rfl,by simp [AllTo]⟩
 case round =>
  obtain ⟨j,hj,rfl,hrel⟩:=hrel
  have HR:=hid hrel
  clear hrel
  by_cases hlt:j<s.size
  .have HT:=hid (all_take hlt HR.out)
   have HF:=hid (fun q=>all_fail (p:=tstB k) hlt q)
   have HB:Hid (tstB k s[j]=!(bits .and .i64 (cls s[j]:Int) k == 0)):=hid rfl
   by_cases hb:(bits .and .i64 (cls s[j]:Int) k == 0)=true
   .have HX:=hid (HF.out (by rw [HB.out,hb];first|done|rfl))
    go_wp2_with (go_at_call 58;refine (rclass_any _ _).mono ?_;rintro e w' ⟨rfl,rfl⟩)
    go_ret
    exact ⟨ret_bool (show _=allB (tstB k) s from HX.out.symm),rfl⟩
   .have hb:(bits .and .i64 (cls s[j]:Int) k == 0)=false:=by simpa using hb
    have HX:=hid (HT.out.trans (by rw [HB.out,hb];first|done|rfl))
    go_wp2_with (go_at_call 58;refine (rclass_any _ _).mono ?_;rintro e w' ⟨rfl,rfl⟩)
    go_round
    case rel=>exact ⟨j+1,by omega,by go_num,HX.out⟩
    case measure=>simp [intOf] <;> omega
  .obtain rfl:j=s.size:=by omega
   have HX:Hid (allB (tstB k) s=true):=hid (by have:=HR.out;unfold AllTo at this;rwa [List.take_of_length_le (by simp)] at this)
   go_wp2
   go_ret
   exact ⟨ret_bool (show _=allB (tstB k) s from HX.out.symm),rfl⟩
theorem wor_N (c:UInt8):((wor c).toNat:Int)=if (c.toNat:Int)<=57 then ((c.toNat:Int)-48) % 256 else (((lo c).toNat:Int)-97+10) % 256:=by
 have:=all_u8 (p:=fun c=>decide (((wor c).toNat:Int)=if (c.toNat:Int)<=57 then ((c.toNat:Int)-48) % 256 else (((lo c).toNat:Int)-97+10) % 256)) (by decide +kernel) c
 simpa using this
set_option maxRecDepth 100000 in
theorem worth_any (c:UInt8) (w:World):Calls Tryz.prog 167 #[.int .u8 (c.toNat:Int)] w fun e w'=>e=.returned (.int .u8 ((wor c).toNat:Int))/\w=w':=by
 have HW:=hid (wor_N c)
 have hn:(c.toNat:Int)<256:=by have:=c.toNat_lt;omega
 by_cases h:(c.toNat:Int)<=57
 .have HV:=hid (HW.out.trans (if_pos h))
  generalize (wor c).toNat=m at *
  go_enter Tryz.func167,Tryz.ntmps167
  go_wp2
  go_ret
  exact ⟨ret_int (by have q:=HV.out;first|omega|(simp only [IntKind.wrap_u8];omega)|(rw [q];done)),rfl⟩
 .have HV:=hid (HW.out.trans (if_neg h))
  have h':57<(c.toNat:Int):=by omega
  have hm:((lo c).toNat:Int)<256:=by have:=(lo c).toNat_lt;omega
  generalize (wor c).toNat=m at *
  clear h
  go_enter Tryz.func167,Tryz.ntmps167
  go_wp2_with (go_at_call 142;refine (lower_any _ _).mono ?_;rintro e w' ⟨rfl,rfl⟩)
  go_ret
  exact ⟨ret_int (by have q:=HV.out;first|omega|(simp only [IntKind.wrap_u8];omega)|(rw [q];done)),rfl⟩
theorem wor_or {a b:UInt8} (ha:hexB a=true) (hb:hexB b=true):bits .or .u8 (((wor a).toNat:Int)*16) ((wor b).toNat:Int)=((wor a*16+wor b).toNat:Int):=by
 have h1:(wor a).toNat<16:=by
  have:=all_u8 (p:=fun c=>!hexB c || decide ((wor c).toNat<16)) (by decide +kernel) a
  simpa [ha] using this
 have h2:(wor b).toNat<16:=by
  have:=all_u8 (p:=fun c=>!hexB c || decide ((wor c).toNat<16)) (by decide +kernel) b
  simpa [hb] using this
 have h3:∀ i:Fin 16,∀ j:Fin 16,bits .or .u8 ((i.val:Int)*16) (j.val:Int)=((i.val*16+j.val:Nat):Int):=by decide +kernel
 have h4:=h3 ⟨_,h1⟩ ⟨_,h2⟩
 rw [h4]
 have:(wor a*16+wor b).toNat=(wor a).toNat*16+(wor b).toNat:=by
  rw [UInt8.toNat_add,UInt8.toNat_mul]
  show ((wor a).toNat*16 % 256+(wor b).toNat) % 256=_
  omega
 rw [this]
def unescV (o:Option T):Value:=match o with
 | some t=>.tuple #[.string (str t),.int .i64 0]
 | none=>.tuple #[.string ⟨#[]⟩,.int .i64 12]
def UnPost (s:ByteArray) (w:World) (e:Ending) (w':World):Prop:=e=.returned (unescV (unesc s.data.toList))/\Below w.heap.size w w'
structure UnRel (s:ByteArray) (w:World) (k:Nat) (v:Value) (wr:World):Prop where
 own:∃ out:T,out.length<=k/\wr.ownsRow w.heap.size 5 1 v out.length (out.map B)/\unesc s.data.toList=(unesc (s.data.toList.drop k)).map (out++·)
 be:Below w.heap.size w wr
theorem drop_one {s:ByteArray} {k:Nat} (h:k<s.size):s.data.toList.drop k=s[k]::s.data.toList.drop (k+1):=by
 rw [List.drop_eq_getElem_cons (by simpa using h)]
 rfl
theorem unesc_plain {s:ByteArray} {k:Nat} (h:k<s.size) (hc:s[k]≠37):unesc (s.data.toList.drop k)=(unesc (s.data.toList.drop (k+1))).map (s[k]::·):=by
 rw [drop_one h]
 conv=>lhs;unfold unesc
 exact if_pos hc
theorem unesc_short {s:ByteArray} {k:Nat} (h:k<s.size) (hc:s[k]=37) (hl:s.size<k+3):unesc (s.data.toList.drop k)=none:=by
 rw [drop_one h,hc]
 conv=>lhs;unfold unesc
 rw [if_neg (by simp)]
 have hl2:(s.data.toList.drop (k+1)).length<2:=by simp;omega
 generalize s.data.toList.drop (k+1)=r at *
 match r,hl2 with
 | [],_=>rfl
 | [_],_=>rfl
theorem unesc_three {s:ByteArray} {k:Nat} (h:k+2<s.size) (hc:s[k]=37):unesc (s.data.toList.drop k)=if hexB s[k+1]&&hexB s[k+2] then (unesc (s.data.toList.drop (k+3))).map ((wor s[k+1]*16+wor s[k+2])::·) else none:=by
 rw [drop_one (by omega),hc,drop_one (k:=k+1) (by omega),drop_one (k:=k+1+1) (by omega)]
 conv=>lhs;unfold unesc
 rw [if_neg (by simp)]
theorem all_two {s:ByteArray} {k:Nat} (h:k+2<s.size):allB (tstB 4) (s.extract (k+1) (k+3))=(hexB s[k+1]&&hexB s[k+2]):=by
 have e:(s.extract (k+1) (k+3)).data.toList=[s[k+1],s[k+2]]:=by
  have e1:(s.extract (k+1) (k+3)).data.toList=(s.data.toList.drop (k+1)).take 2:=by
   rw [ByteArray.data_extract,Array.toList_extract]
   simp [List.extract]
  rw [e1,drop_one (k:=k+1) (by omega),drop_one (k:=k+1+1) (by omega)]
  rfl
 unfold allB
 rw [e]
 simp only [List.all_cons,List.all_nil,Bool.and_true,tst_hex]
set_option maxRecDepth 100000 in
set_option maxHeartbeats 4000000 in
theorem Unescape_any (s:ByteArray) (w:World) (hs:s.size<=140737488351232) :
 Calls Tryz.prog 144 #[.string s] w (UnPost s w):=by
 have H0:Hid (UnRel s w 0 (.slice none 0 0) w):=hid ⟨⟨[],by simp,⟨rfl,.inl ⟨rfl,rfl⟩⟩,by simp⟩,Below.refl _ _⟩
 go_enter Tryz.func144,Tryz.ntmps144
 go_wp2
 go_loopw [4,5] (fun v i wr=>∃ k:Nat,k<=s.size/\i=.int .i64 k/\UnRel s w k v wr) (fun _ i _=>s.size-(intOf i).toNat)
 case atStart=>exact ⟨0,by omega,rfl,H0.out⟩
 case round =>
  obtain ⟨k,hk,rfl,hR⟩:=hrel
  have hbs:=hR.be.size
  have HB:=hid hR.be
  obtain ⟨out,hol,hown,hun⟩:=hR.own
  have HO:=hid hown
  have HU:=hid hun
  clear hR hown hun
  by_cases hlt:k<s.size
  .have hn:(s[k].toNat:Int)<256:=by have:=s[k].toNat_lt;omega
   have x0:(0:Int)<=k:=by omega
   have x1:(k:Int)<s.size:=by omega
   by_cases h37:s[k]=37
   .have e1:((s[k].toNat:Int) != 37)=false:=by rw [h37];rfl
    by_cases hsh:s.size<k+3
    .have HN:Hid (unesc s.data.toList=none):=hid (by rw [HU.out,unesc_short hlt h37 hsh];rfl)
     have z1:decide ((s.size:Int)-k<3)=true:=decide_eq_true (by omega)
     clear h37
     go_wp2
     go_ret2
     exact ⟨by rw [HN.out];rfl,HB.out⟩
    .have h2:k+2<s.size:=by omega
     have z1:decide ((s.size:Int)-k<3)=false:=decide_eq_false (by omega)
     have HT:=hid (unesc_three h2 h37)
     have HA:=hid (all_two h2)
     clear h37
     have hex2:(s.extract (k+1) (k+3)).size<=9223372036854775807:=by rw [ByteArray.size_extract];omega
     have HALL:=hid (all_any (s.extract (k+1) (k+3)) 4 wr hex2)
     clear hex2
     by_cases hx2:(hexB s[k+1]&&hexB s[k+2])=true
     .have HA2:=hid (HA.out.trans hx2)
      simp only [Bool.and_eq_true] at hx2
      obtain ⟨ha,hb⟩:=hx2
      have HN:Hid (∀ (v4:Value) (w4:World),w4.ownsRow w.heap.size 5 1 v4 (out.length+1) (out.map B++[.int .u8 ((wor s[k+1]*16+wor s[k+2]).toNat:Int)])->Below w.heap.size wr w4->UnRel s w (k+3) v4 w4):=hid (fun v4 w4 a b =>
       ⟨⟨out++[wor s[k+1]*16+wor s[k+2]],by simp;omega,by rw [List.length_append,List.map_append];exact a,by
        rw [HU.out,HT.out,ha,hb]
        simp only [Bool.and_self,if_true,Option.map_map]
        congr 1
        funext t
        simp⟩,HB.out.trans b⟩)
      have hor:=wor_or ha hb
      have hwa:((wor s[k+1]).toNat:Int)<16:=by
       have:=all_u8 (p:=fun c=>!hexB c || decide ((wor c).toNat<16)) (by decide +kernel) s[k+1]
       simp only [ha,Bool.not_true,Bool.false_or,decide_eq_true_eq] at this
       omega
      have hsl:IntKind.u8.wrap (((wor s[k+1]).toNat:Int)*16)=((wor s[k+1]).toNat:Int)*16:=by rw [IntKind.wrap_u8];omega
      clear ha hb
      generalize wor s[k+1]*16+wor s[k+2]=cc at *
      have r1:IntKind.i64.wrap ((k:Int)+1)=(k:Int)+1:=IntWalk.i64_in _ (by omega)
      have r2:IntKind.i64.wrap ((k:Int)+2)=(k:Int)+2:=IntWalk.i64_in _ (by omega)
      have r3:(0:Int)<=(k:Int)+1:=by omega
      have r4:(0:Int)<=(k:Int)+2:=by omega
      have r5:(k:Int)+1<s.size:=by omega
      have r6:(k:Int)+2<s.size:=by omega
      have r7:((k:Int)+1).toNat=k+1:=by omega
      have r8:((k:Int)+2).toNat=k+2:=by omega
      go_wp2_with (go_at_call 62;refine (HALL.out).mono ?_;rintro e w' ⟨rfl,rfl⟩;rw [HA2.out])
      go_region_held3 (fun _=>True) (trivial) (first|(go_at_call 167;refine (worth_any _ _).mono ?_;rintro e w' ⟨rfl,rfl⟩)|(refine step_app1 (by rfl) (.tmp 37) (.tmp 50) 71 (by rfl) w.heap.size 5 1 1 (.int .u8 0) Tryz.underlying71 e5i (by rfl) (by omega) u4 out.length (out.map B) (by rfl) ?_ [.int .u8 (cc.toNat:Int)] wr.heap.size (by rfl) ?_ (by rfl) ?_ ?_ ?_ ?_ ?_;(first|exact own_fr HO.out (((Fr.refl (fun _=>False) _).alloc _).drew) (fun _ _ h=>h)|exact own_fr HO.out (((Fr.refl (fun _=>False) _).drew).alloc _) (fun _ _ h=>h));(first|exact (Blk.new wr _ _).drewN 1|exact Blk.new wr.drew _ _);(intro u hu;simp at hu;rcases hu with rfl;rfl);(unfold maxLen;omega);omega;(first|(show _<=(wr.alloc _).heap.size;simp;omega)|(simp;omega));intro v4 w4 hown4 hb4 hg4 hat4))
      all_goals
       have HX:=hid (HN.out v4 w4 hown4 (((Below.refl _ wr).alloc hbs _).drew.trans hb4))
       clear hown4 hb4 hg4 hat4
       go_wp2
       go_roundw
       case rel=>exact ⟨k+3,by omega,by go_num,HX.out⟩
       case measure=>simp [intOf] <;> omega
     .have hx2:(hexB s[k+1]&&hexB s[k+2])=false:=by simpa using hx2
      have HA2:=hid (HA.out.trans hx2)
      have HN:Hid (unesc s.data.toList=none):=hid (by rw [HU.out,HT.out,hx2];rfl)
      clear hx2
      go_wp2_with (go_at_call 62;refine (HALL.out).mono ?_;rintro e w' ⟨rfl,rfl⟩;rw [HA2.out])
      go_ret2
      exact ⟨by rw [HN.out];rfl,HB.out⟩
   .have e1:((s[k].toNat:Int) != 37)=true:=by
     simp only [bne_iff_ne,ne_eq]
     intro q
     exact h37 (UInt8.toNat_inj.1 (by simp;omega))
    have HN:Hid (∀ (v4:Value) (w4:World),w4.ownsRow w.heap.size 5 1 v4 (out.length+1) (out.map B++[B s[k]])->Below w.heap.size wr w4->UnRel s w (k+1) v4 w4):=hid (fun v4 w4 a b =>
     ⟨⟨out++[s[k]],by simp;omega,by rw [List.length_append,List.map_append];exact a,by
      rw [HU.out,unesc_plain hlt h37,Option.map_map]
      congr 1
      funext t
      simp⟩,HB.out.trans b⟩)
    clear h37
    go_wp2_with (at_builtin;go_must (refine wpList_app1' rfl (.tmp 16) (.tmp 20) 71 rfl w.heap.size 5 1 1 _ Tryz.underlying71 e5i rfl (by omega) _ _ _ rfl HO.out [B s[k]] _ rfl (by simp) rfl (by simp [B,Value.oneCell']) (by unfold maxLen;omega) (by omega) (by omega) ?_);intro v4 w4 hown4 hb4 hg4 hat4)
    have HX:=hid (HN.out v4 w4 (by simpa using hown4) hb4)
    clear hown4 hb4 hg4 hat4
    go_roundw
    case rel=>exact ⟨k+1,by omega,by go_num,HX.out⟩
    case measure=>simp [intOf] <;> omega
  .obtain rfl:k=s.size:=by omega
   have hcv:=run_string_own (P:=Tryz.prog) 71 9 5 Tryz.underlying71 Tryz.underlying5 Tryz.underlying9 HO.out
   have HE:Hid (unesc s.data.toList=some out):=hid (by
    rw [HU.out,List.drop_eq_nil_of_le (by simp)]
    simp [unesc])
   go_wp2
   go_ret2
   exact ⟨by rw [HE.out];rfl,HB.out⟩
end Go.Proofs.YthfmekdbcoaolaaGreatDoor
