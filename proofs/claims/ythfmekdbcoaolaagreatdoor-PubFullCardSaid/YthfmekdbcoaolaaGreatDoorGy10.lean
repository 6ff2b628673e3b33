/- Chapters 13, 14: signs of a text, ids, texts that may stand in a document. Chapter 13: xml.Check at one element without attributes; pidf.text. Chapter 14: pidf.text, pidf.tuple. -/
import Derived.Test.YthfmekdbcoaolaaGreatDoorGy07
import Derived.Test.YthfmekdbcoaolaaGreatDoorGy08
import Derived.Test.YthfmekdbcoaolaaGreatDoorGy09
import Derived.Test.YthfmekdbcoaolaaGreatDoorGy02
import Derived.Laws.RangeAny
import Derived.BigQuiet
import Derived.Deep.RegionHeld3
import Derived.Test.YthfmekdbcoaolaaGreatDoorGy03
import Derived.Deep.DeepCutAuto
import Derived.Deep.CutBlock
import Derived.Deep.RegionWith
namespace Go.Proofs.YthfmekdbcoaolaaGreatDoor
set_option linter.unusedSimpArgs false
set_option linter.unusedVariables false
open Go.RowKit
open Go.Lib (hid)
theorem sgn_ways (c:UInt8):(c.toNat<32/\c.toNat≠9/\c.toNat≠13/\c.toNat≠10/\sgnB c=false)\/(c.toNat=9/\sgnB c=true)\/(c.toNat=13/\sgnB c=true)\/(c.toNat=10/\sgnB c=true)\/(32<=c.toNat/\c.toNat=127/\sgnB c=false)\/(32<=c.toNat/\c.toNat≠127/\sgnB c=true):=by
 have:=all_u8 (p:=fun c=>decide ((c.toNat<32/\c.toNat≠9/\c.toNat≠13/\c.toNat≠10/\sgnB c=false)\/(c.toNat=9/\sgnB c=true)\/(c.toNat=13/\sgnB c=true)\/(c.toNat=10/\sgnB c=true)\/(32<=c.toNat/\c.toNat=127/\sgnB c=false)\/(32<=c.toNat/\c.toNat≠127/\sgnB c=true))) (by decide +kernel) c
 exact of_decide_eq_true this
set_option maxHeartbeats 2000000 in
theorem signs_any (s:ByteArray) (w:World) (hs:s.size<=9223372036854775807) :
 Calls Tryz.prog 133 #[.string s] w fun e w'=>e=.returned (.bool (allB sgnB s))/\w=w':=by
 go_enter Tryz.func133,Tryz.ntmps133
 go_wp2
 go_loop [7] (fun i=>∃ j:Nat,j<=s.size/\i=.int .i64 j/\AllTo sgnB s j) (fun i=>s.size-(intOf i).toNat)
 case atStart=>exact ⟨0,by omega,rfl,by simp [AllTo]⟩
 case round =>
  obtain ⟨j,hj,rfl,hrel⟩:=hrel
  have HR:=hid hrel
  clear hrel
  by_cases hlt:j<s.size
  .have HT:=hid (all_take hlt HR.out)
   have HF:=hid (fun q=>all_fail (p:=sgnB) hlt q)
   have HW:=hid (sgn_ways s[j])
   have hn:((s[j]).toNat:Int)<256:=by have:=(s[j]).toNat_lt;omega
   rcases HW.out with ⟨h1,h2,h3,h4,hb⟩|⟨h0,hb⟩|⟨h0,hb⟩|⟨h0,hb⟩|⟨h1,h0,hb⟩|⟨h1,h2,hb⟩
   .have HX:=hid (HF.out hb)
    have a1:(((s[j]).toNat:Int)<32):=by omega
    have d1:decide (((s[j]).toNat:Int)<32)=true:=decide_eq_true a1
    have a2:(((s[j]).toNat:Int) != 9)=true:=by simp;omega
    have a3:(((s[j]).toNat:Int) != 13)=true:=by simp;omega
    have a4:(((s[j]).toNat:Int) != 10)=true:=by simp;omega
    clear hb h1 h2 h3 h4
    go_wp2
    go_ret
    exact ⟨ret_bool (show _=allB sgnB s from HX.out.symm),rfl⟩
   .have HX:=hid (HT.out.trans hb)
    have e0:((s[j]).toNat:Int)=9:=by omega
    clear hb h0 hn
    go_wp2
    go_round
    case rel=>exact ⟨j+1,by omega,by go_num,HX.out⟩
    case measure=>simp [intOf] <;> omega
   .have HX:=hid (HT.out.trans hb)
    have e0:((s[j]).toNat:Int)=13:=by omega
    clear hb h0 hn
    go_wp2
    go_round
    case rel=>exact ⟨j+1,by omega,by go_num,HX.out⟩
    case measure=>simp [intOf] <;> omega
   .have HX:=hid (HT.out.trans hb)
    have e0:((s[j]).toNat:Int)=10:=by omega
    clear hb h0 hn
    go_wp2
    go_round
    case rel=>exact ⟨j+1,by omega,by go_num,HX.out⟩
    case measure=>simp [intOf] <;> omega
   .have HX:=hid (HF.out hb)
    have e0:((s[j]).toNat:Int)=127:=by omega
    clear hb h1 h0 hn
    go_wp2
    go_ret
    exact ⟨ret_bool (show _=allB sgnB s from HX.out.symm),rfl⟩
   .have HX:=hid (HT.out.trans hb)
    have a1:¬(((s[j]).toNat:Int)<32):=by omega
    have d1:decide (((s[j]).toNat:Int)<32)=false:=decide_eq_false a1
    have a2:(((s[j]).toNat:Int) == 127)=false:=by simp;omega
    clear hb h1 h2
    go_wp2
    go_round
    case rel=>exact ⟨j+1,by omega,by go_num,HX.out⟩
    case measure=>simp [intOf] <;> omega
  .obtain rfl:j=s.size:=by omega
   have HX:Hid (allB sgnB s=true):=hid (by have:=HR.out;unfold AllTo at this;rwa [List.take_of_length_le (by simp)] at this)
   go_wp2
   go_ret
   exact ⟨ret_bool (show _=allB sgnB s from HX.out.symm),rfl⟩
theorem vis_ways (c:UInt8):(c.toNat<=32/\visB c=false)\/(32<c.toNat/\127<=c.toNat/\visB c=false)\/(32<c.toNat/\c.toNat<127/\visB c=true):=by
 have:=all_u8 (p:=fun c=>decide ((c.toNat<=32/\visB c=false)\/(32<c.toNat/\127<=c.toNat/\visB c=false)\/(32<c.toNat/\c.toNat<127/\visB c=true))) (by decide +kernel) c
 exact of_decide_eq_true this
theorem below_iter (w:World) (s:ByteArray) (pos:Nat):Below w.heap.size w (w.iter s pos) :=
 ⟨rfl,rfl,rfl,by simp [World.iter],fun k hk=>by
  unfold World.iter
  show (w.heap.push _)[k]?=_
  rw [Array.getElem?_push_lt hk]
  simp [hk]⟩
theorem ident_is {s:T} (h1:s≠[]) (h2:s.length<=64):identB s=s.all visB:=by
 have:1<=s.length:=by cases s with
  | nil=>exact absurd rfl h1
  | cons a t=>simp
 unfold identB
 rw [decide_eq_true this,decide_eq_true h2]
 simp
theorem ident_long {s:T} (h:64<s.length):identB s=false:=by
 unfold identB
 rw [decide_eq_false (p:=s.length<=64) (by omega)]
 simp
def BoolPost (b:Bool) (w:World) (e:Ending) (w':World):Prop:=e=.returned (.bool b)/\Below w.heap.size w w'
set_option maxHeartbeats 2000000 in
theorem id_any (s:T) (w:World) (hs:s.length<=9223372036854775807):Calls Tryz.prog 96 #[.string (str s)] w (BoolPost (identB s) w):=by
 have hz:(str s).size=s.length:=rfl
 unfold BoolPost
 by_cases h1:s=[]
 .subst h1
  have q0:(str []).toList.isEmpty=true:=by rw [size_nil];rfl
  have hi:identB []=false:=rfl
  go_enter Tryz.func96,Tryz.ntmps96
  go_wp2
  go_ret
  exact ⟨ret_bool hi.symm,Below.refl _ _⟩
 .have q0:(str s).toList.isEmpty=false:=by rw [size_nil];exact decide_eq_false h1
  by_cases h2:s.length<=64
  .have hid:=ident_is h1 h2
   have hal:s.all visB=allB visB (str s):=rfl
   rw [hid,hal]
   have q1:¬((s.length:Int) > 64):=by omega
   have q2:decide ((s.length:Int) > 64)=false:=decide_eq_false q1
   clear h1 h2 hid hal
   generalize hS:str s=S at *
   have hSS:=hid hS
   go_enter Tryz.func96,Tryz.ntmps96
   go_wp2
   go_loopw [] (fun w'=>∃ pos,pos<=S.size/\w'=w.iter S pos/\AllTo visB S pos) (fun w'=>S.size-w'.iterPos w.heap.size)
   case atStart=>exact ⟨0,by omega,rfl,by simp [AllTo]⟩
   case round =>
    obtain ⟨pos,hps,rfl,hrel⟩:=hrel
    have HR:=hid hrel
    have HBI:=hid (below_iter w S pos)
    clear hrel
    by_cases hp:pos<S.size
    .have hnx:∀ ty,(Instr.next (.pointer (some ⟨w.heap.size,0,none⟩)) true ty).run Tryz.prog (w.iter S pos)=_:=fun ty=>run_next_any w S pos ty hp
     have HT:=hid (all_take hp HR.out)
     have HF:=hid (fun q=>all_fail (p:=visB) hp q)
     have HB2:=hid (below_iter w S (pos+(Utf8.decode S pos).2))
     rcases vis_ways S[pos] with ⟨k1,kb⟩|⟨k1,k2,kb⟩|⟨k1,k2,kb⟩
     .have HX:=hid (HF.out kb)
      have hdc:=decode_ascii S pos hp (by omega)
      have a1:(((Utf8.decode S pos).1:Nat):Int)<=32:=by rw [hdc];show ((S[pos]).toNat:Int)<=32;omega
      have a2:decide ((((Utf8.decode S pos).1:Nat):Int)<=32)=true:=decide_eq_true a1
      clear hdc kb k1
      generalize (Utf8.decode S pos).1=rn at *
      go_wp2
      go_ret
      exact ⟨ret_bool (show _=allB visB S from HX.out.symm),HB2.out⟩
     .have HX:=hid (HF.out kb)
      have hd1:127<=(Utf8.decode S pos).1:=by
       by_cases h128:(S[pos]).toNat<128
       .rw [decode_ascii S pos hp h128];exact k2
       .have:=(decode_high S pos hp (by omega)).1;omega
      have a1:¬(((Utf8.decode S pos).1:Nat):Int)<=32:=by omega
      have a2:decide ((((Utf8.decode S pos).1:Nat):Int)<=32)=false:=decide_eq_false a1
      have a3:(((Utf8.decode S pos).1:Nat):Int)>=127:=by omega
      have a4:decide ((127:Int)<=(((Utf8.decode S pos).1:Nat):Int))=true:=decide_eq_true (by omega)
      clear hd1 kb k1 k2
      generalize (Utf8.decode S pos).1=rn at *
      go_wp2
      go_ret
      exact ⟨ret_bool (show _=allB visB S from HX.out.symm),HB2.out⟩
     .have HX:=hid (HT.out.trans kb)
      have hdc:=decode_ascii S pos hp (by omega)
      have a1:¬(((Utf8.decode S pos).1:Nat):Int)<=32:=by rw [hdc];show ¬((S[pos]).toNat:Int)<=32;omega
      have a2:decide ((((Utf8.decode S pos).1:Nat):Int)<=32)=false:=decide_eq_false a1
      have a3:¬(((Utf8.decode S pos).1:Nat):Int)>=127:=by rw [hdc];show ¬((S[pos]).toNat:Int)>=127;omega
      have a4:decide ((127:Int)<=(((Utf8.decode S pos).1:Nat):Int))=false:=decide_eq_false (by omega)
      have e2:(Utf8.decode S pos).2=1:=by rw [hdc]
      rw [e2] at hnx
      clear hdc kb k1 k2 e2
      generalize (Utf8.decode S pos).1=rn at *
      go_wp2
      go_roundw
      case rel=>exact ⟨pos+1,by omega,rfl,HX.out⟩
      case measure=>simp;omega
    .have hnx:∀ ty,(Instr.next (.pointer (some ⟨w.heap.size,0,none⟩)) true ty).run Tryz.prog (w.iter S pos)=_:=fun ty=>run_next_end w S pos ty hp
     have HX:Hid (allB visB S=true):=hid (by have:=HR.out;unfold AllTo at this;rwa [List.take_of_length_le (by simp;omega)] at this)
     go_wp2
     go_ret
     exact ⟨ret_bool (show _=allB visB S from HX.out.symm),HBI.out⟩
  .have hid:=ident_long (s:=s) (by omega)
   rw [hid]
   have q1:((s.length:Int) > 64):=by omega
   have q2:decide ((s.length:Int) > 64)=true:=decide_eq_true q1
   clear h1 h2 hid
   go_enter Tryz.func96,Tryz.ntmps96
   go_wp2
   go_ret
   exact ⟨rfl,Below.refl _ _⟩
theorem tb_ {a b c:World} (h:Below a.heap.size a b) (k:Below b.heap.size b c):Below a.heap.size a c:=h.trans (k.mono h.size)
set_option maxHeartbeats 2000000 in
theorem name_a (w:World):Calls Tryz.prog 131 #[.string ⟨#[97]⟩] w fun e w'=>e=.returned (.bool true)/\w=w':=by
 have HC:Hid (∀ W,Calls Tryz.prog 93 #[.int .u8 97] W fun e w'=>e=.returned (.int .i64 94)/\W=w'):=hid (fun W=>class_any 97 W)
 go_enter Tryz.func131,Tryz.ntmps131
 go_wp2_with fail
 refine (HC.out _).mono ?_
 rintro e w1 ⟨rfl,rfl⟩
 go_wp2_with fail
 go_loopw [26] (fun i wr=>wr=w/\∃ j:Nat,j<=1/\i=.int .i64 j) (fun i _=>1-(intOf i).toNat)
 case atStart=>exact ⟨rfl,0,by omega,rfl⟩
 case round =>
  obtain ⟨rfl,j,hj,rfl⟩:=hrel
  by_cases h0:j=0
  .subst h0
   go_wp2_with fail
   refine (HC.out _).mono ?_
   rintro e w1 ⟨rfl,rfl⟩
   go_wp2
   go_roundw
   case rel=>exact ⟨by first|rfl|trivial,1,by omega,by first|rfl|go_num⟩
   case measure=>simp [intOf]
  .obtain rfl:j=1:=by omega
   go_wp2
   go_ret
   exact ⟨rfl,rfl⟩
theorem attrs_nil (w:World):Calls Tryz.prog 132 #[.slice none 0 0] w fun e w'=>e=.returned (.bool true)/\Below w.heap.size w w':=by
 have hmm:=@run_makeMap Tryz.prog
 have HB:Hid (Below w.heap.size w (w.alloc (.map #[] 0))):=hid ((Below.refl _ _).alloc (Nat.le_refl _) _)
 go_enter Tryz.func132,Tryz.ntmps132
 go_wp2
 go_loopw [9] (fun i wr=>wr=w.alloc (.map #[] 0)/\i=.int .i64 0) (fun _ _=>0)
 case atStart=>exact ⟨rfl,rfl⟩
 case round =>
  obtain ⟨rfl,rfl⟩:=hrel
  go_wp2
  go_ret
  exact ⟨rfl,HB.out⟩
def xmlE (s:T):Int:=if s.all sgnB=true/\edgeB s=true then 0 else 130
theorem zset (w:World):(zeroValue 224).run Tryz.prog w=.ok (.agg (Array.replicate 256 (.bool false))) w:=by kernel_rfl
theorem trim_any (s:T) (w:World) (hs:s.length<=140737488351232):Calls Tryz.prog 134 #[.string (str s),.string ⟨#[32,9,13,10]⟩] w fun e w'=>e=.returned (.string (str (Lib.trimS s blaN)))/\Below w.heap.size w w' :=
 Tryz.strings_Trim_ascii zset (str s) ⟨#[32,9,13,10]⟩ w (by show s.length<=_;omega) (by decide) (fun j b hb=>by
  match j,hb with
  | 0,hb=>simp at hb;subst hb;decide
  | 1,hb=>simp at hb;subst hb;decide
  | 2,hb=>simp at hb;subst hb;decide
  | 3,hb=>simp at hb;subst hb;decide
  | n+4,hb=>simp at hb)
set_option maxRecDepth 100000 in
set_option maxHeartbeats 4000000 in
theorem xcheck_any {w:World} {g:Nat} {s:T} (h:Blk w g 164 #[.int .i64 0,.string ⟨#[97]⟩,.slice none 0 0,.string (str s)]) (hs:s.length<=140737488351232):Calls Tryz.prog 97 #[.slice (some ⟨g,0,none⟩) 1 1] w fun e w'=>e=.returned (.int .i64 (xmlE s))/\Below w.heap.size w w':=by
 have HNM:=hid name_a
 have HAT:=hid attrs_nil
 have HSG:Hid (∀ W,Calls Tryz.prog 133 #[.string (str s)] W fun e w'=>e=.returned (.bool (s.all sgnB))/\W=w'):=hid (fun W=>signs_any (str s) W (by show s.length<=_;omega))
 have HTR:=hid (fun W=>trim_any s W hs)
 have HE1:Hid (s.all sgnB=false->xmlE s=130):=hid (fun q=>by unfold xmlE;rw [q,if_neg (by simp)])
 have HE2:Hid (Lib.trimS s blaN≠s->xmlE s=130):=hid (fun q=>by unfold xmlE edgeB;rw [decide_eq_false q,if_neg (by simp)])
 have HE3:Hid (s.all sgnB=true->Lib.trimS s blaN=s->xmlE s=0):=hid (fun q1 q2=>by unfold xmlE edgeB;rw [q1,decide_eq_true q2,if_pos (by simp)])
 generalize hX:xmlE s=X at *
 generalize hSA:s.all sgnB=SA at *
 generalize hTS:Lib.trimS s blaN=TS at *
 have c0:=h.cell 0
 have c1:=h.cell 1
 have c2:=h.cell 2
 have c3:=h.cell 3
 have HK:=hid h
 clear hX hSA hTS h hs
 go_enter Tryz.func97,Tryz.ntmps97
 go_wp2
 go_loopw [15] (fun i wr=>(∃ j:Nat,j<=1/\i=.int .i64 j/\(j=0->wr=w)/\(j=1->X=0))/\Below w.heap.size w wr) (fun i _=>1-(intOf i).toNat)
 case atStart=>exact ⟨⟨0,by omega,rfl,fun _=>rfl,by omega⟩,Below.refl _ _⟩
 case round =>
  obtain ⟨⟨j,hj,rfl,hw,hx⟩,hb⟩:=hrel
  by_cases h0:j=0
  .subst h0
   obtain rfl:=hw rfl
   clear hw hx hb
   obtain ⟨w0,hw0⟩:∃ w0,wr.alloc (.cells #[.int .i64 0,.string ⟨#[97]⟩,.slice none 0 0,.string (str s)] 164)=w0:=⟨_,rfl⟩
   have hb0:Below wr.heap.size wr w0:=hw0▸(Below.refl _ _).alloc (Nat.le_refl _) _
   have hk0:Blk w0 wr.heap.size 164 #[.int .i64 0,.string ⟨#[97]⟩,.slice none 0 0,.string (str s)]:=hw0▸Blk.new wr _ _
   have HB0:=hid hb0
   have HKB:Hid (∀ W,Below w0.heap.size w0 W->Blk W wr.heap.size 164 #[.int .i64 0,.string ⟨#[97]⟩,.slice none 0 0,.string (str s)]):=hid (fun W hW=>hk0.fr (Fr.of_below (F:=fun _=>False) hW) (fun h=>h))
   have HX0:Hid (Below w0.heap.size w0 w0):=hid (Below.refl _ _)
   have d0:=hk0.cell 0
   have d1:=hk0.cell 1
   have d2:=hk0.cell 2
   have d3:=hk0.cell 3
   clear hb0 hk0
   go_wp2_with fail
   go_quiet (fail)
   have hx1:=below_drewN HX0.out nq
   generalize hw1:w0.drewN nq=w1 at *
   have HX1:=hid hx1
   clear hw1 hx1 d0 d1 d2 d3 hw0
   have k1:=HKB.out w1 HX1.out
   have d0:=k1.cell 0
   have d1:=k1.cell 1
   have d2:=k1.cell 2
   clear k1
   go_wp2_with fail
   refine (HNM.out _).mono ?_
   rintro e _ ⟨rfl,rfl⟩
   go_wp2_with fail
   refine (HAT.out _).mono ?_
   rintro e w2 ⟨rfl,hb2⟩
   have HX2:=hid (tb_ HX1.out hb2)
   clear hb2 d0 d1 d2
   have k2:=HKB.out w2 HX2.out
   have d0:=k2.cell 0
   have d3:=k2.cell 3
   clear k2
   go_wp2_with fail
   refine (HSG.out _).mono ?_
   rintro e _ ⟨rfl,rfl⟩
   cases SA with
   | false =>
     have HXX:=hid (HE1.out (by simp))
     go_wp2
     go_ret
     exact ⟨ret_int HXX.out.symm,tb_ HB0.out HX2.out⟩
   | true =>
     have HX2d:Hid (Below w0.heap.size w0 w2.drew):=hid HX2.out.drew
     have HC3:Hid (∀ W,Below w0.heap.size w0 W->W.cell? ⟨wr.heap.size,3,none⟩=some (.string (str s))):=hid (fun W hW=>(HKB.out W hW).cell 3)
     go_wp2_with fail
     go_region_held3 (fun w'=>w'.cell? ⟨wr.heap.size,3,none⟩=some (.string (str s)))
      (first|exact HC3.out _ HX3.out|exact HC3.out _ HX2d.out) (first|(go_at_call 134;(with_reducible refine (HTR.out _).mono ?_);rintro e w3 ⟨rfl,hb3⟩;have HX3:Hid (Below w0.heap.size w0 w3):=hid (tb_ HX2d.out hb3);clear hb3))
     all_goals
      have hbb:Hid (((str TS).toList == (str s).toList)=true->TS=s):=hid (fun q=>by
       have:=eq_of_beq q
       rw [Lib.toList_data,Lib.toList_data] at this
       exact this)
      have hbc:Hid (((str TS).toList == (str s).toList)=false->TS≠s):=hid (fun q e=>by rw [e,beq_self_eq_true] at q;cases q)
      generalize hB:((str TS).toList == (str s).toList)=bb at *
      clear hB
      cases bb with
      | true =>
        have HXX:=hid (HE3.out (by simp) (hbb.out rfl))
        have d0:=(HKB.out w3 HX3.out).cell 0
        go_wp2_with fail
        go_quiet (fail)
        go_wp2
        go_roundw
        case rel=>exact ⟨⟨1,by omega,by first|rfl|go_num,by omega,fun _=>HXX.out⟩,tb_ HB0.out (below_drewN HX3.out _)⟩
        case measure=>simp [intOf]
      | false =>
        have HXX:=hid (HE2.out (hbc.out rfl))
        go_wp2
        go_ret
        exact ⟨ret_int HXX.out.symm,tb_ HB0.out HX3.out⟩
  .obtain rfl:j=1:=by omega
   have HXX:=hid (hx rfl)
   have HBX:=hid hb
   clear hw hx hb
   go_wp2
   go_ret
   exact ⟨ret_int HXX.out.symm,HBX.out⟩
theorem textB_short {s:T} (h:s.length<=128):(textB s=true/\xmlE s=0)\/(textB s=false/\xmlE s=130):=by
 unfold textB xmlE
 rw [decide_eq_true h]
 by_cases h1:s.all sgnB=true <;> by_cases h2:edgeB s=true <;> simp [h1,h2]
theorem textB_long {s:T} (h:128<s.length):textB s=false:=by
 unfold textB
 rw [decide_eq_false (p:=s.length<=128) (by omega)]
 simp
set_option maxHeartbeats 2000000 in
theorem text_any (s:T) (w:World) (hs:s.length<=140737488351232):Calls Tryz.prog 65 #[.string (str s),.int .i64 128] w (BoolPost (textB s) w):=by
 unfold BoolPost
 obtain ⟨w0,hw0⟩:∃ w0,w.alloc (.cells #[.int .i64 0,.string ⟨#[97]⟩,.slice none 0 0,.string (str s)] 164)=w0:=⟨_,rfl⟩
 have hb0:Below w.heap.size w w0:=hw0▸(Below.refl _ _).alloc (Nat.le_refl _) _
 have hk0:Blk w0 w.heap.size 164 #[.int .i64 0,.string ⟨#[97]⟩,.slice none 0 0,.string (str s)]:=hw0▸Blk.new w _ _
 have HB0:=hid hb0
 have HCK:=hid (xcheck_any hk0 hs)
 have hz:(str s).size=s.length:=rfl
 by_cases hl:s.length<=128
 .have q1:((s.length:Int)<=128):=by omega
  rcases textB_short hl with ⟨ht,hx⟩|⟨ht,hx⟩
  .rw [hx] at HCK
   rw [ht]
   clear hb0 hk0 ht hx hl
   go_enter Tryz.func65,Tryz.ntmps65
   go_upto_region 2 with (fail)
   try rw [hw0]
   clear hw0
   go_wp2_with fail
   refine (HCK.out).mono ?_
   rintro e w1 ⟨rfl,hb1⟩
   have HB1:=hid (tb_ HB0.out hb1)
   clear hb1
   go_wp2
   go_ret
   exact ⟨rfl,HB1.out⟩
  .rw [hx] at HCK
   rw [ht]
   clear hb0 hk0 ht hx hl
   go_enter Tryz.func65,Tryz.ntmps65
   go_upto_region 2 with (fail)
   try rw [hw0]
   clear hw0
   go_wp2_with fail
   refine (HCK.out).mono ?_
   rintro e w1 ⟨rfl,hb1⟩
   have HB1:=hid (tb_ HB0.out hb1)
   clear hb1
   go_wp2
   go_ret
   exact ⟨rfl,HB1.out⟩
 .have q1:¬((s.length:Int)<=128):=by omega
  rw [textB_long (s:=s) (by omega)]
  clear hb0 hk0 hl HCK
  go_enter Tryz.func65,Tryz.ntmps65
  go_upto_region 2 with (fail)
  try rw [hw0]
  clear hw0
  go_wp2
  go_ret
  exact ⟨rfl,HB0.out⟩
theorem tupB_is (t:Tup) {b1 b2 b3:Bool} (h1:identB t.id=b1) (h2:textB t.contact=b2) (h3:textB t.note=b3):tupB t=(b1&&b2&&b3&&decide (-1<=t.prio)&&decide (t.prio<=1000)&&(decide (t.contact≠[]) || decide (t.prio=-1))):=by
 unfold tupB
 rw [h1,h2,h3]
set_option maxHeartbeats 4000000 in
theorem tuple_any (t:Tup) (w:World) (h1:t.id.length<=140737488351232) (h2:t.contact.length<=140737488351232) (h3:t.note.length<=140737488351232):Calls Tryz.prog 64 #[.agg #[.string (str t.id),.bool t.opn,.string (str t.contact),.int .i64 t.prio,.string (str t.note)]] w (BoolPost (tupB t) w):=by
 unfold BoolPost
 obtain ⟨w0,hw0⟩:∃ w0,w.alloc (.cells #[.string (str t.id),.bool t.opn,.string (str t.contact),.int .i64 t.prio,.string (str t.note)] 115)=w0:=⟨_,rfl⟩
 have hb0:Below w.heap.size w w0:=hw0▸(Below.refl _ _).alloc (Nat.le_refl _) _
 have hk0:Blk w0 w.heap.size 115 #[.string (str t.id),.bool t.opn,.string (str t.contact),.int .i64 t.prio,.string (str t.note)]:=hw0▸Blk.new w _ _
 have HB0:=hid hb0
 have HC:Hid (∀ W,Below w0.heap.size w0 W->W.cell? ⟨w.heap.size,0,none⟩=some (.string (str t.id))/\W.cell? ⟨w.heap.size,2,none⟩=some (.string (str t.contact))/\W.cell? ⟨w.heap.size,3,none⟩=some (.int .i64 t.prio)/\W.cell? ⟨w.heap.size,4,none⟩=some (.string (str t.note))):=hid (fun W hW=>by
  have k:=hk0.fr (Fr.of_below (F:=fun _=>False) hW) (fun h=>h)
  exact ⟨k.cell 0,k.cell 2,k.cell 3,k.cell 4⟩)
 have HI:=hid (fun W=>id_any t.id W (by omega))
 have HT2:=hid (fun W=>text_any t.contact W h2)
 have HT3:=hid (fun W=>text_any t.note W h3)
 unfold BoolPost at HI HT2 HT3
 obtain ⟨c0,c2,c3,c4⟩:=HC.out w0 (Below.refl _ _)
 have HTB:=hid (tupB_is t rfl rfl rfl)
 have hne:Hid ((t.contact=[]/\(str t.contact).toList.isEmpty=true)\/(t.contact≠[]/\(str t.contact).toList.isEmpty=false)):=hid (by
  rw [size_nil]
  by_cases h:t.contact=[]
  .exact .inl ⟨h,decide_eq_true h⟩
  .exact .inr ⟨h,decide_eq_false h⟩)
 generalize hb1:identB t.id=b1 at *
 generalize hb2:textB t.contact=b2 at *
 generalize hb3:textB t.note=b3 at *
 generalize hTB:tupB t=TB at *
 clear hb1 hb2 hb3 hTB hb0 hk0 h1 h2 h3
 go_enter Tryz.func64,Tryz.ntmps64
 go_upto_region 1 with (fail)
 try rw [hw0]
 clear hw0
 go_wp2_with fail
 refine (HI.out _).mono ?_
 rintro e w1 ⟨rfl,hb1⟩
 have HX1:=hid hb1
 clear hb1 c0 c2 c3 c4
 obtain ⟨c0,c2,c3,c4⟩:=HC.out w1 HX1.out
 cases b1 with
 | false =>
   have HZ:=HTB.out
   simp at HZ
   subst HZ
   go_wp2
   go_ret
   exact ⟨rfl,tb_ HB0.out HX1.out⟩
 | true =>
   go_wp2_with fail
   refine (HT2.out _).mono ?_
   rintro e w2 ⟨rfl,hb2⟩
   have HX2:=hid (tb_ HX1.out hb2)
   clear hb2 c0 c2 c3 c4
   obtain ⟨c0,c2,c3,c4⟩:=HC.out w2 HX2.out
   cases b2 with
   | false =>
     have HZ:=HTB.out
     simp at HZ
     subst HZ
     go_wp2
     go_ret
     exact ⟨rfl,tb_ HB0.out HX2.out⟩
   | true =>
     go_wp2_with fail
     refine (HT3.out _).mono ?_
     rintro e w3 ⟨rfl,hb3⟩
     have HX3:=hid (tb_ HX2.out hb3)
     clear hb3 c0 c2 c3 c4
     obtain ⟨c0,c2,c3,c4⟩:=HC.out w3 HX3.out
     cases b3 with
     | false =>
       have HZ:=HTB.out
       simp at HZ
       subst HZ
       go_wp2
       go_ret
       exact ⟨rfl,tb_ HB0.out HX3.out⟩
     | true =>
       have HZ:=HTB.out
       simp only [Bool.true_and] at HZ
       by_cases g1:t.prio < -1
       .have e1:¬(t.prio>=-1):=by omega
        have e1':¬(-1<=t.prio):=by omega
        have hz:TB=false:=by rw [HZ,decide_eq_false e1'];rfl
        subst hz
        clear HZ g1
        go_wp2
        go_ret
        exact ⟨rfl,tb_ HB0.out HX3.out⟩
       .have e1:(t.prio>=-1):=by omega
        have e1':(-1<=t.prio):=by omega
        rw [decide_eq_true e1',Bool.true_and] at HZ
        by_cases g2:1000<t.prio
        .have e2:¬(t.prio<=1000):=by omega
         have hz:TB=false:=by rw [HZ,decide_eq_false e2];rfl
         subst hz
         clear HZ g1 g2
         go_wp2
         go_ret
         exact ⟨rfl,tb_ HB0.out HX3.out⟩
        .have e2:(t.prio<=1000):=by omega
         rw [decide_eq_true e2,Bool.true_and] at HZ
         clear g1 g2
         rcases hne.out with ⟨n1,n2⟩|⟨n1,n2⟩
         .rw [decide_eq_false (p:=t.contact≠[]) (fun q=>q n1),Bool.false_or] at HZ
          clear n1
          by_cases g3:t.prio=-1
          .rw [decide_eq_true g3] at HZ
           subst HZ
           have q3:(t.prio == -1)=true:=by simpa using g3
           go_wp2
           go_ret
           exact ⟨rfl,tb_ HB0.out HX3.out⟩
          .rw [decide_eq_false g3] at HZ
           subst HZ
           have q3:(t.prio == -1)=false:=by simpa using g3
           go_wp2
           go_ret
           exact ⟨rfl,tb_ HB0.out HX3.out⟩
         .rw [decide_eq_true n1,Bool.true_or] at HZ
          subst HZ
          clear n1
          go_wp2
          go_ret
          exact ⟨rfl,tb_ HB0.out HX3.out⟩
end Go.Proofs.YthfmekdbcoaolaaGreatDoor
