/- Chapter 19: slices.Clone at parameters. Chapter 19: scan.bare, scan.Quote. Chapter 19: addr.word, addr.bad. Chapter 19: addr.Text. Chapter 19: addr.Check. Chapter 19: dialog.cloned, own, tagged. -/
import Derived.Test.YthkadehlclcggaaGreatDoorGx26
import Derived.Test.YthkadehlclcggaaGreatDoorGx50
import Derived.Test.YthkadehlclcggaaGreatDoorGx06
import Derived.Test.YthkadehlclcggaaGreatDoorGx02
import Derived.Test.YthkadehlclcggaaGreatDoorGx07
import Derived.Test.YthkadehlclcggaaGreatDoorGx17
import Derived.Test.YthkadehlclcggaaGreatDoorGx23
import Derived.Test.YthkadehlclcggaaGreatDoorGx27
import Derived.Deep.RegionHeld3
import Derived.Deep.RegionWith
import Derived.Test.YthkadehlclcggaaGreatDoorGx25
import Derived.Deep.DeepCutAuto
import Derived.Deep.CutBlock
import Derived.StillTailTactics
import Derived.BigQuiet
namespace Go.Proofs.YthkadehlclcggaaGreatDoor
set_option linter.unusedSimpArgs false
set_option linter.unusedVariables false
open Go.RowKit
open Go.Lib (hid)
theorem rows_one3p (l:List Par):∀ u∈rows parC l,u.oneCell'=true:=rows_one (fun a u hu=>by simp [parC] at hu;rcases hu with rfl|rfl|rfl <;> rfl) l
set_option maxRecDepth 100000 in
set_option maxHeartbeats 4000000 in
theorem clone_par {w:World} {B n c:Nat} {A:Option Addr} {l:List Par} (h:RdB w B 3 l.length A (rows parC l)) (hB:B<=w.heap.size) (hn:l.length<=2000000):Calls Tryz.prog 37 #[.slice A l.length c] w (CloPost 95 3 l.length (rows parC l) w):=by
 have hq:∀ (w:World) (a:Option Addr) (n c n' c':Nat),(binOp .eql 28 (.slice a n c) (.slice none n' c')).run Tryz.prog w=.ok (.bool a.isNone) w:=fun w a n c n' c'=>Lib.run_eql_slice_nil w _ _ a n c n' c' Tryz.underlying28
 rcases A with _|ad
 .have HN:=hid (clo_nil (T:=95) (c:=c) h)
  clear h
  go_enter Tryz.func37,Tryz.ntmps37
  go_wp2
  go_ret
  exact HN.out
 .have HR:=hid (h.below ((Below.refl _ w).alloc (Nat.le_refl _) (.cells #[] 95) |>.mono hB))
  have h1:=rows_one3p l
  have HO:=hid (fun (v':Value) (w':World) q b=>clo_own (T:=95) (sz:=3) (n:=l.length) (xs:=rows parC l) (w:=w) (w':=w') (v':=v') q b)
  have HBB:Hid (Below w.heap.size w (w.alloc (.cells #[] 95))):=hid ((Below.refl _ _).alloc (Nat.le_refl _) _)
  clear h
  generalize rows parC l=XS at *
  generalize l.length=n at *
  go_enter Tryz.func37,Tryz.ntmps37
  go_wp2_with (at_builtin;(refine wpList_app_slb rfl (.tmp 5) (.tmp 6) 28 rfl w.heap.size 95 3 40 _ Tryz.underlying28 eC95 rfl (by omega) _ _ _ rfl (World.ownsRow_made w #[] 0 (Nat.le_refl _) (Nat.zero_le _) (by simp)) _ rfl HR.out h1 (by unfold maxLen;omega) (by omega) (by simp) ?_);intro v4 w4 hown4 hb4 hg4 hat4)
  have HZ:=hid (HO.out v4 w4 hown4 (HBB.out.trans hb4))
  clear hown4 hb4 hg4 hat4
  go_wp2
  go_ret
  exact HZ.out
def barB (c:UInt8):Bool:=!decide (c=34)&&!decide (c=92)&&!decide (c=127)&&(decide (32<=c) || decide (c=9))
def okQ (c:UInt8):Bool:=!(decide (c=0) || decide (c=13) || decide (c=10))
def quo1 (c:UInt8):T:=if barB c=true then [c] else [92,c]
def quoP (s:T):T:=s.flatMap quo1
def quoV (s:T):Value:=if quoB s=true then .tuple #[.string (str (34::quoP s++[34])),.int .i64 0] else .tuple #[.string ⟨#[]⟩,.int .i64 11]
def QuoPost (s:T) (w:World) (e:Ending) (w':World):Prop:=e=.returned (quoV s)/\Below w.heap.size w w'
theorem bar_ways (c:UInt8):(c.toNat=34/\barB c=false)\/(c.toNat=92/\barB c=false)\/(c.toNat=127/\barB c=false)\/(c.toNat<32/\c.toNat≠9/\barB c=false)\/(c.toNat=9/\barB c=true)\/(32<=c.toNat/\c.toNat≠34/\c.toNat≠92/\c.toNat≠127/\barB c=true):=by
 have:=all_u8 (p:=fun c=>decide ((c.toNat=34/\barB c=false)\/(c.toNat=92/\barB c=false)\/(c.toNat=127/\barB c=false)\/(c.toNat<32/\c.toNat≠9/\barB c=false)\/(c.toNat=9/\barB c=true)\/(32<=c.toNat/\c.toNat≠34/\c.toNat≠92/\c.toNat≠127/\barB c=true))) (by decide +kernel) c
 exact of_decide_eq_true this
theorem okQ_ways (c:UInt8):(c.toNat=0/\okQ c=false)\/(c.toNat=13/\okQ c=false)\/(c.toNat=10/\okQ c=false)\/(c.toNat≠0/\c.toNat≠13/\c.toNat≠10/\okQ c=true):=by
 have:=all_u8 (p:=fun c=>decide ((c.toNat=0/\okQ c=false)\/(c.toNat=13/\okQ c=false)\/(c.toNat=10/\okQ c=false)\/(c.toNat≠0/\c.toNat≠13/\c.toNat≠10/\okQ c=true))) (by decide +kernel) c
 exact of_decide_eq_true this
theorem okQ_int (c:UInt8):((c.toNat:Int)=0/\okQ c=false)\/((c.toNat:Int)=13/\okQ c=false)\/((c.toNat:Int)=10/\okQ c=false)\/(((c.toNat:Int) == 0)=false/\((c.toNat:Int) == 13)=false/\((c.toNat:Int) == 10)=false/\okQ c=true):=by
 rcases okQ_ways c with ⟨h,hb⟩|⟨h,hb⟩|⟨h,hb⟩|⟨h1,h2,h3,hb⟩
 .exact .inl ⟨by omega,hb⟩
 .exact .inr (.inl ⟨by omega,hb⟩)
 .exact .inr (.inr (.inl ⟨by omega,hb⟩))
 .exact .inr (.inr (.inr ⟨by simp;omega,by simp;omega,by simp;omega,hb⟩))
theorem quoB_is (s:T):quoB s=s.all okQ:=rfl
theorem bare_any (c:UInt8) (w:World):Calls Tryz.prog 134 #[.int .u8 (c.toNat:Int)] w fun e w'=>e=.returned (.bool (barB c))/\w=w':=by
 have HW:=hid (bar_ways c)
 have hn:(c.toNat:Int)<256:=by have:=c.toNat_lt;omega
 generalize c.toNat=n at *
 rcases HW.out with ⟨h,hb⟩|⟨h,hb⟩|⟨h,hb⟩|⟨h1,h2,hb⟩|⟨h,hb⟩|⟨h1,h2,h3,h4,hb⟩
 .subst h
  rw [hb]
  go_enter Tryz.func134,Tryz.ntmps134
  go_wp2
  go_ret
  exact ⟨rfl,rfl⟩
 .subst h
  rw [hb]
  go_enter Tryz.func134,Tryz.ntmps134
  go_wp2
  go_ret
  exact ⟨rfl,rfl⟩
 .subst h
  rw [hb]
  go_enter Tryz.func134,Tryz.ntmps134
  go_wp2
  go_ret
  exact ⟨rfl,rfl⟩
 .rw [hb]
  have a1:((n:Int) != 34)=true:=by simp;omega
  have a2:((n:Int) != 92)=true:=by simp;omega
  have a3:((n:Int) != 127)=true:=by simp;omega
  have a4:((n:Int) == 9)=false:=by simp;omega
  have d1:decide ((32:Int)<=n)=false:=decide_eq_false (by omega)
  clear HW hb h2
  go_enter Tryz.func134,Tryz.ntmps134
  go_wp2
  go_ret
  exact ⟨rfl,rfl⟩
 .subst h
  rw [hb]
  go_enter Tryz.func134,Tryz.ntmps134
  go_wp2
  go_ret
  exact ⟨rfl,rfl⟩
 .rw [hb]
  have a1:((n:Int) != 34)=true:=by simp;omega
  have a2:((n:Int) != 92)=true:=by simp;omega
  have a3:((n:Int) != 127)=true:=by simp;omega
  have d1:decide ((32:Int)<=n)=true:=decide_eq_true (by omega)
  clear HW hb h2 h3 h4
  go_enter Tryz.func134,Tryz.ntmps134
  go_wp2
  go_ret
  exact ⟨rfl,rfl⟩
def quoTo (s:T) (k:Nat):T:=34::quoP (s.take k)
theorem quoTo_succ {s:T} {k:Nat} (hk:k<s.length):quoTo s (k+1)=quoTo s k++quo1 s[k]:=by
 unfold quoTo quoP
 rw [List.take_succ_eq_append_getElem hk,List.flatMap_append]
 simp
theorem quo1_len (c:UInt8):(quo1 c).length<=2:=by unfold quo1;split <;> simp
theorem quoTo_len (s:T):∀ k,k<=s.length->(quoTo s k).length<=2*k+1
 | 0,_=>by simp [quoTo,quoP]
 | k+1,h=>by
   rw [quoTo_succ (by omega),List.length_append]
   have:=quoTo_len s k (by omega)
   have:=quo1_len s[k]
   omega
structure QuoRel (s:T) (w:World) (k:Nat) (v:Value) (wr:World):Prop where
 own:wr.ownsRow w.heap.size 5 1 v (quoTo s k).length ((quoTo s k).map B)
 ok:(s.take k).all okQ=true
 be:Below w.heap.size w wr
theorem QuoRel.next {s:T} {w wr w4:World} {k:Nat} {v v4:Value} {l:List UInt8} (H:QuoRel s w k v wr) (hk:k<s.length) (ho:okQ s[k]=true) (hl:quo1 s[k]=l)
 (h4:w4.ownsRow w.heap.size 5 1 v4 ((quoTo s k).length+l.length) ((quoTo s k).map B++l.map B)) (hb:Below w.heap.size wr w4):QuoRel s w (k+1) v4 w4:=by
 refine ⟨?_,?_,H.be.trans hb⟩
 .rw [quoTo_succ hk,hl,List.length_append,List.map_append]
  exact h4
 .rw [List.take_succ_eq_append_getElem hk,List.all_append,H.ok]
  simp [ho]
theorem quo_bad {s:T} {k:Nat} (hk:k<s.length) (h:okQ s[k]=false):quoV s=.tuple #[.string ⟨#[]⟩,.int .i64 11]:=by
 have:quoB s=false:=by
  rw [quoB_is,List.all_eq_false]
  exact ⟨_,List.getElem_mem hk,by rw [h];decide⟩
 unfold quoV
 rw [if_neg (by rw [this];decide)]
theorem quo_ok {s:T} (h:(s.take s.length).all okQ=true):quoV s=.tuple #[.string (str (quoTo s s.length++[34])),.int .i64 0]:=by
 rw [List.take_length] at h
 unfold quoV
 rw [if_pos (show quoB s=true from h)]
 unfold quoTo
 rw [List.take_length]
set_option maxRecDepth 100000 in
set_option maxHeartbeats 2000000 in
theorem Quote_any (s:T) (w:World) (hs:s.length<=1000000000):Calls Tryz.prog 102 #[.string (str s)] w (QuoPost s w):=by
 have hz:(str s).size=s.length:=rfl
 have H0:Hid (QuoRel s w 0 (.slice (some ⟨w.heap.size,0,none⟩) 1 1) (w.alloc (.cells #[.int .u8 34] 5))):=hid ⟨⟨by simp [quoTo,quoP],.inr ⟨_,1,_,rfl,Nat.le_refl _,Blk.new _ _ _,by simp [quoTo,quoP],by unfold maxLen;omega,rfl,by simp [quoTo,quoP,B]⟩⟩,by simp,(Below.refl _ _).alloc (Nat.le_refl _) _⟩
 go_enter Tryz.func102,Tryz.ntmps102
 go_wp2
 go_loopw [4,10] (fun v i wr=>∃ k:Nat,k<=s.length/\i=.int .i64 k/\QuoRel s w k v wr) (fun _ i _=>s.length-(intOf i).toNat)
 case atStart=>exact ⟨0,by omega,rfl,H0.out⟩
 case round =>
  obtain ⟨k,hk,rfl,hR⟩:=hrel
  have HR:=hid hR
  have HO:=hid hR.own
  have hbs:=hR.be.size
  have hlen:=quoTo_len s k hk
  clear hR
  by_cases hlt:k<s.length
  .have hlt':k<(str s).size:=hlt
   have hn:((str s)[k].toNat:Int)<256:=by have:=(str s)[k].toNat_lt;omega
   have HQ:=hid (okQ_int (str s)[k])
   have HBAD:Hid (okQ (str s)[k]=false->quoV s=.tuple #[.string ⟨#[]⟩,.int .i64 11]):=hid (fun h=>quo_bad hlt h)
   rcases HQ.out with ⟨h,hb⟩|⟨h,hb⟩|⟨h,hb⟩|⟨h1,h2,h3,hb⟩
   iterate 3
    .have HX:=hid (HBAD.out hb)
     have HB:=hid HR.out.be
     clear hb HQ hn
     go_wp2
     go_ret2
     exact ⟨HX.out▸rfl,HB.out⟩
   .have HN:Hid (∀ (l:List UInt8) (v4:Value) (w4:World),quo1 (str s)[k]=l->w4.ownsRow w.heap.size 5 1 v4 ((quoTo s k).length+l.length) ((quoTo s k).map B++l.map B)->Below w.heap.size wr w4->QuoRel s w (k+1) v4 w4):=hid (fun l v4 w4 a b c=>HR.out.next hlt hb a b c)
    clear hb HQ
    cases hbar:barB (str s)[k] with
    | true =>
      have HQ1:Hid (quo1 (str s)[k]=[(str s)[k]]):=hid (by unfold quo1;rw [if_pos hbar])
      go_wp2_with (first|(go_at_call 134;refine (bare_any _ _).mono ?_;rintro e w' ⟨rfl,rfl⟩;rw [hbar])|(at_builtin;go_must (refine wpList_app1' rfl (.tmp 16) (.tmp 18) 59 rfl w.heap.size 5 1 1 _ Tryz.underlying59 e5i rfl (by omega) _ _ _ rfl HO.out [B (str s)[k]] _ rfl (by simp) rfl (by simp [B,Value.oneCell']) (by unfold maxLen;omega) (by omega) (by omega) ?_);intro v4 w4 hown4 hb4 hg4 hat4))
      have HX:=hid (HN.out [(str s)[k]] v4 w4 HQ1.out (by simpa using hown4) hb4)
      clear hown4 hb4 hg4 hat4
      go_roundw
      case rel=>exact ⟨k+1,by omega,by go_num,HX.out⟩
      case measure=>simp [intOf] <;> omega
    | false =>
      have HQ1:Hid (quo1 (str s)[k]=[92,(str s)[k]]):=hid (by unfold quo1;rw [if_neg (by rw [hbar];decide)])
      go_wp2_with (first|(go_at_call 134;refine (bare_any _ _).mono ?_;rintro e w' ⟨rfl,rfl⟩;rw [hbar])|(at_builtin;go_must (refine wpList_app_rd _ rfl (.tmp 35) (.tmp 37) 59 rfl w.heap.size 5 1 1 _ Tryz.underlying59 e5i rfl (by omega) _ _ _ rfl (own_fr HO.out ((Fr.refl (fun _=>False) _).alloc _) (fun _ _ h=>h)) (some ⟨wr.heap.size,0,none⟩) 2 2 [.int .u8 92,B (str s)[k]] rfl (Rd.of_row (l:=[_,_]) (Blk.new wr _ _)) (by intro u hu;simp at hu;rcases hu with rfl|rfl <;> rfl) (by unfold maxLen;omega) (by omega) (by simp;omega) ?_);intro v4 w4 hown4 hb4 hg4 hat4))
      have HX:=hid (HN.out [92,(str s)[k]] v4 w4 HQ1.out (by simpa [B] using hown4) (((Below.refl _ wr).alloc hbs _).trans hb4))
      clear hown4 hb4 hg4 hat4
      go_roundw
      case rel=>exact ⟨k+1,by omega,by go_num,HX.out⟩
      case measure=>simp [intOf] <;> omega
  .obtain rfl:k=s.length:=by omega
   have HB:=hid HR.out.be
   have HE:=hid (quo_ok HR.out.ok)
   have hcv:=fun (v4:Value) (w4:World) (h:w4.ownsRow w.heap.size 5 1 v4 ((quoTo s s.length).length+1) ((quoTo s s.length).map B++[B 34]))=>by
    have h':w4.ownsRow w.heap.size 5 1 v4 ((quoTo s s.length).length+1) ((quoTo s s.length++[34]).map B):=by rw [List.map_append];exact h
    exact run_string_own (P:=Tryz.prog) 59 9 5 Tryz.underlying59 Tryz.underlying5 Tryz.underlying9 h'
   have HCV:=hid hcv
   clear hcv
   go_wp2_with (at_builtin;go_must (refine wpList_app1' rfl (.tmp 40) (.tmp 41) 59 rfl w.heap.size 5 1 1 _ Tryz.underlying59 e5i rfl (by omega) _ _ _ rfl HO.out [B 34] _ rfl (by simp) rfl (by simp [B,Value.oneCell']) (by unfold maxLen;omega) (by omega) (by omega) ?_);intro v4 w4 hown4 hb4 hg4 hat4;have hcv:=HCV.out v4 w4 hown4;have HB4:=hid hb4;clear hown4 hb4 hg4 hat4)
   go_ret2
   exact ⟨HE.out▸rfl,HB.out.trans HB4.out⟩
def wordB (s:T):Bool:=tokB s || (decide (s.length<=64)&&decide (s≠[])&&hostB (low s))
structure ParZ (p:Par):Prop where
 n:p.name.length<=1000000000
 v:p.value.length<=1000000000
theorem ParZ.s {p:Par} (h:ParZ p):parS p:=⟨by have:=h.n;omega,by have:=h.v;omega⟩
theorem emp_is {s:T} (h:s=[]):(str s).toList.isEmpty=true:=by rw [size_nil];exact decide_eq_true h
theorem emp_not {s:T} (h:s≠[]):(str s).toList.isEmpty=false:=by rw [size_nil];exact decide_eq_false h
def BlPost (b:Bool) (w:World) (e:Ending) (w':World):Prop:=e=.returned (.bool b)/\Below w.heap.size w w'
set_option maxHeartbeats 2000000 in
theorem word_any (s:T) (w:World) (hs:s.length<=9223372036854775807):Calls Tryz.prog 139 #[.string (str s)] w (BlPost (wordB s) w):=by
 have hz:(str s).size=s.length:=rfl
 have HTK:Hid (∀ W,Calls Tryz.prog 63 #[.string (str s)] W fun e w'=>e=.returned (.bool (tokB s))/\W=w'):=hid (fun W=>token_any s W hs)
 unfold BlPost
 cases ht:tokB s with
 | true =>
   have HX:Hid (wordB s=true):=hid (by unfold wordB;rw [ht];rfl)
   rw [ht] at HTK
   rw [HX.out]
   clear ht
   go_enter Tryz.func139,Tryz.ntmps139
   go_wp2_with fail
   refine (HTK.out _).mono ?_
   rintro e w1 ⟨rfl,rfl⟩
   go_wp2
   go_ret
   exact ⟨rfl,Below.refl _ _⟩
 | false =>
   rw [ht] at HTK
   by_cases h1:s.length<=64
   .by_cases h2:s=[]
    .have HX:Hid (wordB s=false):=hid (by unfold wordB;rw [ht,decide_eq_false (p:=s≠[]) (by simpa using h2)];simp)
     have q0:=emp_is h2
     have q1:(s.length:Int)<=64:=by omega
     rw [HX.out]
     clear ht h1 h2
     go_enter Tryz.func139,Tryz.ntmps139
     go_wp2_with fail
     refine (HTK.out _).mono ?_
     rintro e w1 ⟨rfl,rfl⟩
     go_wp2
     go_ret
     exact ⟨rfl,Below.refl _ _⟩
    .have HX:Hid (wordB s=hostB (low s)):=hid (by unfold wordB;rw [ht,decide_eq_true h1,decide_eq_true h2];simp)
     have q0:=emp_not h2
     have q1:(s.length:Int)<=64:=by omega
     have HL:Hid (∀ W,Calls Tryz.prog 154 #[.string (str s)] W (LowPost (str s) W)):=hid (fun W=>Lower_any (str s) W hs)
     have HO:Hid (∀ W,Calls Tryz.prog 136 #[.string (lowS (str s))] W fun e w'=>e=.returned (.bool (hostB (low s)))/\Below W.heap.size W w'):=hid (fun W=>Host_any (lowS (str s)) W (by
      have:(lowS (str s)).size=s.length:=by show (low s).length=_;unfold low;simp
      omega))
     rw [HX.out]
     clear ht h1 h2
     generalize hostB (low s)=R at *
     go_enter Tryz.func139,Tryz.ntmps139
     go_wp2_with fail
     refine (HTK.out _).mono ?_
     rintro e w1 ⟨rfl,rfl⟩
     go_wp2_with fail
     refine (HL.out _).mono ?_
     rintro e w1 ⟨rfl,hb1⟩
     have HB1:=hid hb1
     clear hb1
     go_wp2_with fail
     refine (HO.out _).mono ?_
     rintro e w2 ⟨rfl,hb2⟩
     have HB2:=hid (HB1.out.trans (hb2.mono HB1.out.size))
     clear hb2
     go_wp2
     go_ret
     exact ⟨rfl,HB2.out⟩
   .have HX:Hid (wordB s=false):=hid (by unfold wordB;rw [ht,decide_eq_false h1];rfl)
    have q1:¬(s.length:Int)<=64:=by omega
    rw [HX.out]
    clear ht h1
    go_enter Tryz.func139,Tryz.ntmps139
    go_wp2_with fail
    refine (HTK.out _).mono ?_
    rintro e w1 ⟨rfl,rfl⟩
    go_wp2
    go_ret
    exact ⟨rfl,Below.refl _ _⟩
theorem bad_ways (l:List Par) (p:Par):(tokB p.name=false/\badP l p=true)\/(tokB p.name=true/\(findP p.name l).isSome=true/\badP l p=true) \/
 (tokB p.name=true/\(findP p.name l).isSome=false/\64<p.value.length/\badP l p=true)\/(tokB p.name=true/\(findP p.name l).isSome=false/\p.value.length<=64/\p.has=false/\p.value≠[]/\badP l p=true) \/
 (tokB p.name=true/\(findP p.name l).isSome=false/\p.value.length<=64/\p.has=true/\badP l p=!quoB p.value)\/(tokB p.name=true/\(findP p.name l).isSome=false/\p.value.length<=64/\p.has=false/\p.value=[]/\badP l p=!quoB p.value):=by
 have hv:(valP l p.name).2=(findP p.name l).isSome:=by unfold valP;cases findP p.name l <;> rfl
 unfold badP
 rw [hv]
 cases h1:tokB p.name
 .exact .inl ⟨rfl,rfl⟩
 .refine .inr ?_
  cases h2:(findP p.name l).isSome
  .refine .inr ?_
   by_cases h3:64<p.value.length
   .exact .inl ⟨rfl,rfl,h3,by rw [decide_eq_true h3];rfl⟩
   .refine .inr ?_
    rw [decide_eq_false h3]
    cases h4:p.has
    .by_cases h5:p.value=[]
     .exact .inr (.inr ⟨rfl,rfl,by omega,rfl,h5,by simp [h5]⟩)
     .exact .inl ⟨rfl,rfl,by omega,rfl,h5,by simp [h5]⟩
    .exact .inr (.inl ⟨rfl,rfl,by omega,rfl,by simp⟩)
  .exact .inl ⟨rfl,rfl,by simp⟩
def quoN (s:T):Int:=if quoB s=true then 0 else 11
theorem quoV_is (s:T):∃ z:ByteArray,quoV s=.tuple #[.string z,.int .i64 (quoN s)]/\z.size<=2*s.length+2:=by
 unfold quoV quoN
 split
 .refine ⟨_,rfl,?_⟩
  have h:=quoTo_len s s.length (Nat.le_refl _)
  unfold quoTo at h
  rw [List.take_length] at h
  show (34::quoP s++[34]).length<=_
  simp at h ⊢
  omega
 .exact ⟨_,rfl,by show 0<=_;omega⟩
theorem quoN_ne (s:T):(quoN s != 0)=!quoB s:=by unfold quoN;cases quoB s <;> rfl
set_option maxRecDepth 100000 in
set_option maxHeartbeats 4000000 in
theorem bad_any {l:List Par} {p:Par} {A:Option Addr} {c B:Nat} {w:World} (hB:B<=w.heap.size) (hr:RdB w B 3 l.length A (rows parC l)) (hl:l.length<=maxLen) (hs:∀ q∈l,ParZ q) (hp:ParZ p) :
 Calls Tryz.prog 138 #[.slice A l.length c,.agg #[.string (str p.name),.string (str p.value),.bool p.has]] w (BlPost (badP l p) w):=by
 obtain ⟨w0,hw0⟩:∃ w0,w.alloc (.cells #[.string (str p.name),.string (str p.value),.bool p.has] 95)=w0:=⟨_,rfl⟩
 have hb0:Below w.heap.size w w0:=hw0▸(Below.refl _ _).alloc (Nat.le_refl _) _
 have hk0:Blk w0 w.heap.size 95 #[.string (str p.name),.string (str p.value),.bool p.has]:=hw0▸Blk.new w _ _
 have HV:Hid (Calls Tryz.prog 84 #[.slice A l.length c,.string (str p.name)] w0 fun e w'=>e=.returned (valueV (findP p.name l))/\Below w0.heap.size w0 w'):=hid (Value_any (Nat.le_trans hB hb0.size) (hr.below (hb0.mono hB)) hl (fun q hq=>(hs q hq).s) (by have:=hp.n;omega))
 have HQ:Hid (∀ W,Calls Tryz.prog 102 #[.string (str p.value)] W (QuoPost p.value W)):=hid (fun W=>Quote_any p.value W hp.v)
 have HTK:Hid (∀ W,Calls Tryz.prog 63 #[.string (str p.name)] W fun e w'=>e=.returned (.bool (tokB p.name))/\W=w'):=hid (fun W=>token_any p.name W (by have:=hp.n;omega))
 obtain ⟨z,hq,hzl⟩:=quoV_is p.value
 have HW:=hid (bad_ways l p)
 have HNE:=hid (quoN_ne p.value)
 have HB0:=hid hb0
 have HK0:=hid hk0
 obtain ⟨z1,hz1⟩:∃ z1:Value,valueV (findP p.name l)=.tuple #[z1,.bool (findP p.name l).isSome]:=by cases findP p.name l <;> exact ⟨_,rfl⟩
 unfold QuoPost at HQ
 rw [hq] at HQ
 rw [hz1] at HV
 have hvl:(str p.value).size=p.value.length:=rfl
 unfold BlPost
 generalize (findP p.name l).isSome=fnd at *
 generalize badP l p=R at *
 generalize quoN p.value=qn at *
 clear hr hs hp hb0 hq hz1 hzl hB hl
 have c0:=hk0.cell 0
 clear hk0
 go_enter Tryz.func138,Tryz.ntmps138
 go_wp2_with (rw [hw0];go_at_call 84;clear hw0;fail)
 try rw [hw0]
 clear hw0
 refine HV.out.mono ?_
 rintro e w1 ⟨rfl,hb1⟩
 have HB1:=hid (HB0.out.trans (hb1.mono HB0.out.size))
 have hk1:=HK0.out.fr (Fr.of_below (F:=fun _=>False) hb1) (fun h=>h)
 have HK1:=hid hk1
 clear c0 hb1
 have c1:=hk1.cell 1
 clear hk1
 go_wp2_with fail
 refine (HQ.out _).mono ?_
 rintro e w2 ⟨rfl,hb2⟩
 have HB2:=hid (HB1.out.trans (hb2.mono HB1.out.size))
 have hk2:=HK1.out.fr (Fr.of_below (F:=fun _=>False) hb2) (fun h=>h)
 clear c1 hb2
 have c0:=hk2.cell 0
 have c1:=hk2.cell 1
 have c2:=hk2.cell 2
 clear hk2
 go_wp2_with fail
 rcases HW.out with ⟨h1,hR⟩|⟨h1,h2,hR⟩|⟨h1,h2,h3,hR⟩|⟨h1,h2,h3,h4,h5,hR⟩|⟨h1,h2,h3,h4,hR⟩|⟨h1,h2,h3,h4,h5,hR⟩
 .refine (HTK.out _).mono ?_
  rintro e w3 ⟨rfl,rfl⟩
  rw [h1]
  have HR:=hid hR
  clear h1 hR
  go_wp2
  go_ret
  exact ⟨ret_bool HR.out.symm,HB2.out⟩
 .refine (HTK.out _).mono ?_
  rintro e w3 ⟨rfl,rfl⟩
  rw [h1]
  have HR:=hid hR
  subst h2
  clear h1 hR
  go_wp2
  go_ret
  exact ⟨ret_bool HR.out.symm,HB2.out⟩
 .refine (HTK.out _).mono ?_
  rintro e w3 ⟨rfl,rfl⟩
  rw [h1]
  have HR:=hid hR
  have q1:(64:Int)<p.value.length:=by omega
  have d1:decide ((64:Int)<p.value.length)=true:=decide_eq_true q1
  subst h2
  clear h1 hR h3
  go_wp2
  go_ret
  exact ⟨ret_bool HR.out.symm,HB2.out⟩
 .refine (HTK.out _).mono ?_
  rintro e w3 ⟨rfl,rfl⟩
  rw [h1]
  have HR:=hid hR
  have q1:¬(64:Int)<p.value.length:=by omega
  have d1:decide ((64:Int)<p.value.length)=false:=decide_eq_false q1
  have q5:=emp_not h5
  subst h2
  rw [h4] at c2
  clear h1 hR h3 h5
  go_wp2
  go_ret
  exact ⟨ret_bool HR.out.symm,HB2.out⟩
 .refine (HTK.out _).mono ?_
  rintro e w3 ⟨rfl,rfl⟩
  rw [h1]
  have HR:Hid (R=(qn != 0)):=hid (by rw [hR,HNE.out])
  have q1:¬(64:Int)<p.value.length:=by omega
  have d1:decide ((64:Int)<p.value.length)=false:=decide_eq_false q1
  subst h2
  rw [h4] at c2
  clear h1 hR h3
  go_wp2
  go_ret
  exact ⟨ret_bool HR.out.symm,HB2.out⟩
 .refine (HTK.out _).mono ?_
  rintro e w3 ⟨rfl,rfl⟩
  rw [h1]
  have HR:Hid (R=(qn != 0)):=hid (by rw [hR,HNE.out])
  have q1:¬(64:Int)<p.value.length:=by omega
  have d1:decide ((64:Int)<p.value.length)=false:=decide_eq_false q1
  have q5:=emp_is h5
  subst h2
  rw [h4] at c2
  clear h1 hR h3 h5
  go_wp2
  go_ret
  exact ⟨ret_bool HR.out.symm,HB2.out⟩
theorem RdB.take3 {w:World} {B k:Nat} {A:Option Addr} {l:List Par} (h:RdB w B 3 l.length A (rows parC l)) (hk:k<=l.length):RdB w B 3 (l.take k).length A (rows parC (l.take k)):=by
 refine ⟨by rw [rows_take parC_len,List.length_take,List.length_take,h.1];omega,fun hn=>?_⟩
 rw [List.length_take] at hn
 obtain ⟨gb,off,e,hlt,hc⟩:=h.2 (by omega)
 refine ⟨gb,off,e,hlt,fun j u hj=>hc j u ?_⟩
 rw [rows_take parC_len,List.getElem?_take] at hj
 split at hj
 .exact hj
 .cases hj
theorem bad_no {l:List Par} {p:Par} (h:badP l p=false):p.name.length<=64/\p.value.length<=64:=by
 unfold badP tokB at h
 simp only [Bool.or_eq_false_iff,Bool.not_eq_false',Bool.and_eq_true,decide_eq_true_eq,decide_eq_false_iff_not] at h
 exact ⟨h.1.1.1.1.1.2,by omega⟩
theorem badAt_next {l:List Par} {k:Nat} (h:badAt [] l=badAt (l.take k) (l.drop k)) (hk:k<l.length) (hb:badP (l.take k) l[k]=false):badAt [] l=badAt (l.take (k+1)) (l.drop (k+1)):=by
 rw [h,List.drop_eq_getElem_cons hk,List.take_succ_eq_append_getElem hk]
 show (badP (l.take k) l[k] || _)=_
 rw [hb]
 rfl
theorem badAt_hit {l:List Par} {k:Nat} (h:badAt [] l=badAt (l.take k) (l.drop k)) (hk:k<l.length) (hb:badP (l.take k) l[k]=true):badAt [] l=true:=by
 rw [h,List.drop_eq_getElem_cons hk]
 show (badP (l.take k) l[k] || _)=_
 rw [hb]
 rfl
theorem badAt_end {l:List Par} {k:Nat} (h:badAt [] l=badAt (l.take k) (l.drop k)) (hk:k=l.length):badAt [] l=false:=by
 rw [h,List.drop_eq_nil_of_le (by omega)]
 rfl
theorem textE_many {l:List Par} (h:16<l.length):textE l=4:=if_pos h
theorem textE_bad {l:List Par} (h:¬16<l.length) (hb:badAt [] l=true):textE l=34:=by unfold textE;rw [if_neg h,if_pos hb]
theorem textE_ok {l:List Par} (h:¬16<l.length) (hb:badAt [] l=false):textE l=0:=by unfold textE;rw [if_neg h,if_neg (by rw [hb];decide)]
def TxPost (l:List Par) (w:World) (e:Ending) (w':World):Prop:=∃ z:ByteArray,e=.returned (.tuple #[.string z,.int .i64 (textE l)])/\Below w.heap.size w w'
structure TxRel (l:List Par) (w:World) (k:Nat) (v:Value) (wr:World):Prop where
 v:∃ z:ByteArray,v=.string z/\z.size<=300*k
 nb:badAt [] l=badAt (l.take k) (l.drop k)
 be:Below w.heap.size w wr
theorem add_b {a b:ByteArray} (h:a.size+b.size<=100000) (W:World):(Op.stringOp .add a b).run Tryz.prog W=.ok (.string (a++b)) W:=run_string_add_sum (P:=Tryz.prog) (w:=W) a b (by omega)
theorem size_add (a b:ByteArray):(a++b).size=a.size+b.size:=by simp
set_option maxRecDepth 100000 in
set_option maxHeartbeats 4000000 in
theorem Text_any {l:List Par} {A:Option Addr} {c B:Nat} {w:World} (hB:B<=w.heap.size) (hr:RdB w B 3 l.length A (rows parC l)) (hl:l.length<=c) (hs:∀ q∈l,ParZ q) :
 Calls Tryz.prog 104 #[.slice A l.length c] w (TxPost l w):=by
 by_cases h16:16<l.length
 .have HX:=hid (textE_many h16)
  have q1:(16:Int)<l.length:=by omega
  have d1:decide ((16:Int)<l.length)=true:=decide_eq_true q1
  clear hr hl hs h16
  go_enter Tryz.func104,Tryz.ntmps104
  go_wp2
  go_ret2
  exact ⟨⟨#[]⟩,HX.out.symm▸rfl,Below.refl _ _⟩
 .have q1:¬(16:Int)<l.length:=by omega
  have d1:decide ((16:Int)<l.length)=false:=decide_eq_false q1
  have H16:=hid h16
  have HR:=hid hr
  have HS:=hid hs
  have HLC:=hid hl
  clear hr hs h16 hl
  go_enter Tryz.func104,Tryz.ntmps104
  go_wp2
  clear q1 d1
  go_loopw [4,13] (fun v i wr=>∃ k:Nat,k<=l.length/\i=.int .i64 k/\TxRel l w k v wr) (fun _ i _=>l.length-(intOf i).toNat)
  case atStart=>exact ⟨0,by omega,rfl,⟨⟨⟨#[]⟩,rfl,Nat.zero_le _⟩,rfl,Below.refl _ _⟩⟩
  case round =>
   obtain ⟨k,hk,rfl,⟨z,rfl,hz⟩,hnb,hb⟩:=hrel
   have HNB:=hid hnb
   have HB:=hid hb
   have hsz:=hb.size
   clear hnb
   have hk16:k<=16:=by have:=H16.out;omega
   by_cases hlt:k<l.length
   .have hps:=HS.out _ (List.getElem_mem hlt)
    obtain ⟨gb,off,rfl,hgb,zc0,zc1,zc2⟩:=PrmB.at_ (HR.out.below (hb.mono hB)) hlt
    have x0:(0:Int)<=k:=by omega
    have x1:(k:Int)<l.length:=by omega
    have x2:(k:Int)<=c:=by have:=HLC.out;omega
    have x3:k<=c:=by have:=HLC.out;omega
    obtain ⟨W0,hW0⟩:∃ W0,wr.alloc (.cells #[.string (str l[k].name),.string (str l[k].value),.bool l[k].has] 95)=W0:=⟨_,rfl⟩
    have hb0:Below wr.heap.size wr W0:=hW0▸(Below.refl _ _).alloc (Nat.le_refl _) _
    have hk0:Blk W0 wr.heap.size 95 #[.string (str l[k].name),.string (str l[k].value),.bool l[k].has]:=hW0▸Blk.new wr _ _
    have hlk:(l.take k).length=k:=by rw [List.length_take];omega
    have HBD:Hid (∀ W,Below W0.heap.size W0 W->Calls Tryz.prog 138 #[.slice (some ⟨gb,off,none⟩) k c,.agg #[.string (str l[k].name),.string (str l[k].value),.bool l[k].has]] W (BlPost (badP (l.take k) l[k]) W)):=hid (fun W hW=>by
     have h9:=bad_any (l:=l.take k) (p:=l[k]) (c:=c) (w:=W) (Nat.le_trans hB (Nat.le_trans hsz (Nat.le_trans hb0.size hW.size))) ((HR.out.below ((hb.trans (hb0.mono hsz)).trans (hW.mono (Nat.le_trans hsz hb0.size)) |>.mono hB)).take3 hk) (by unfold maxLen;omega) (fun q hq=>HS.out q (List.mem_of_mem_take hq)) hps
     rw [hlk] at h9
     exact h9)
    have HK0:Hid (∀ W,Below W0.heap.size W0 W->W.cell? ⟨wr.heap.size,0,none⟩=some (.string (str l[k].name))/\W.cell? ⟨wr.heap.size,1,none⟩=some (.string (str l[k].value))/\W.cell? ⟨wr.heap.size,2,none⟩=some (.bool l[k].has)):=hid (fun W h=>by
     have kk:=hk0.fr (Fr.of_below (F:=fun _=>False) h) (fun h=>h)
     exact ⟨kk.cell 0,kk.cell 1,kk.cell 2⟩)
    have HBW:Hid (∀ W,Below W0.heap.size W0 W->Below w.heap.size w W):=hid (fun W h=>(hb.trans (hb0.mono hsz)).trans (h.mono (Nat.le_trans hsz hb0.size)))
    have HXN:Hid (badP (l.take k) l[k]=false->badAt [] l=badAt (l.take (k+1)) (l.drop (k+1))):=hid (badAt_next HNB.out hlt)
    have HXH:Hid (badP (l.take k) l[k]=true->badAt [] l=true):=hid (badAt_hit HNB.out hlt)
    have HNO:Hid (badP (l.take k) l[k]=false->(str l[k].name).size<=64/\(str l[k].value).size<=64):=hid bad_no
    have HWD:Hid (∀ W,Calls Tryz.prog 139 #[.string (str l[k].value)] W (BlPost (wordB l[k].value) W)):=hid (fun W=>word_any l[k].value W (by have:=hps.v;omega))
    have HQU:Hid (∀ W,Calls Tryz.prog 102 #[.string (str l[k].value)] W (QuoPost l[k].value W)):=hid (fun W=>Quote_any l[k].value W hps.v)
    obtain ⟨zq,hzq,hzl⟩:=quoV_is l[k].value
    unfold QuoPost at HQU
    rw [hzq] at HQU
    have HZL:Hid (zq.size<=2*(str l[k].value).size+2):=hid hzl
    have HBE:=hid hb0
    clear hb hb0 hk0 hzq hzl hps hgb
    generalize str l[k].name=nm at *
    generalize wordB l[k].value=wd at *
    generalize str l[k].value=vl at *
    generalize quoN l[k].value=qn at *
    generalize badP (l.take k) l[k]=bd at *
    generalize l[k].has=hs at *
    go_upto_region 7 with (fail)
    try rw [hW0]
    clear hW0 zc0 zc1 zc2
    obtain ⟨c0,c1,c2⟩:=HK0.out _ (Below.refl _ _)
    have HX0:Hid (Below W0.heap.size W0 W0.drew):=hid (Below.refl _ _).drew
    go_region_held3 (fun w'=>w'.cell? ⟨wr.heap.size,0,none⟩=some (.string nm)/\w'.cell? ⟨wr.heap.size,1,none⟩=some (.string vl)/\w'.cell? ⟨wr.heap.size,2,none⟩=some (.bool hs)) (first|exact HK0.out _ HB1.out|exact HK0.out _ (Below.refl _ _)|exact HK0.out _ (Below.refl _ _).drew) (first|(go_at_call 138;refine (HBD.out _ HX0.out).mono ?_;rintro e w1 ⟨rfl,hb1⟩;have HB1:=hid (thenB_ HX0.out hb1);clear hb1))
    all_goals
     clear c0 c1 c2 HBD
     obtain ⟨c0,c1,c2⟩:=HK0.out _ HB1.out
     have HBB:=hid (HBW.out _ HB1.out)
     cases bd with
     | true =>
       have HX:Hid (textE l=34):=hid (textE_bad H16.out (HXH.out rfl))
       go_wp2
       go_ret2
       exact ⟨⟨#[]⟩,HX.out.symm▸rfl,HBB.out⟩
     | false =>
       have HX:=hid (HXN.out rfl)
       obtain ⟨hn64,hv64⟩:=HNO.out rfl
       have ha1:=fun W=>add_b (a:=⟨#[59]⟩) (b:=nm) (by show 1+nm.size<=_;omega) W
       have ha2:=fun W=>add_b (a:=z) (b:=⟨#[59]⟩++nm) (by rw [size_add];show z.size+(1+nm.size)<=_;omega) W
       have hz2:(z++(⟨#[59]⟩++nm)).size<=300*k+65:=by rw [size_add,size_add];show z.size+(1+nm.size)<=_;omega
       generalize z++(⟨#[59]⟩++nm)=z2 at *
       cases hs with
       | false =>
         go_wp2
         go_roundw
         case rel=>exact ⟨k+1,by omega,by go_num,⟨⟨z2,rfl,by omega⟩,HX.out,HBB.out⟩⟩
         case measure=>simp [intOf] <;> omega
       | true =>
         have HZL2:=HZL.out
         have hb1:=fun W=>add_b (a:=⟨#[61]⟩) (b:=vl) (by show 1+vl.size<=_;omega) W
         have hb2:=fun W=>add_b (a:=z2) (b:=⟨#[61]⟩++vl) (by rw [size_add];show z2.size+(1+vl.size)<=_;omega) W
         have hq1:=fun W=>add_b (a:=⟨#[61]⟩) (b:=zq) (by show 1+zq.size<=_;omega) W
         have hq2:=fun W=>add_b (a:=z2) (b:=⟨#[61]⟩++zq) (by rw [size_add];show z2.size+(1+zq.size)<=_;omega) W
         have hz3:(z2++(⟨#[61]⟩++vl)).size<=300*k+200:=by rw [size_add,size_add];show z2.size+(1+vl.size)<=_;omega
         have hz4:(z2++(⟨#[61]⟩++zq)).size<=300*k+200:=by rw [size_add,size_add];show z2.size+(1+zq.size)<=_;omega
         generalize z2++(⟨#[61]⟩++vl)=z3 at *
         generalize z2++(⟨#[61]⟩++zq)=z4 at *
         go_wp2_with fail
         refine (HWD.out _).mono ?_
         rintro e w2 ⟨rfl,hb⟩
         have HB2:=hid (HBB.out.trans (hb.mono HBB.out.size))
         clear hb c0 c1 c2
         cases wd with
         | true =>
           go_wp2
           go_roundw
           case rel=>exact ⟨k+1,by omega,by go_num,⟨⟨z3,rfl,by omega⟩,HX.out,HB2.out⟩⟩
           case measure=>simp [intOf] <;> omega
         | false =>
           go_wp2_with fail
           refine (HQU.out _).mono ?_
           rintro e w3 ⟨rfl,hb⟩
           have HB3:=hid (HB2.out.trans (hb.mono HB2.out.size))
           clear hb
           go_wp2
           go_roundw
           case rel=>exact ⟨k+1,by omega,by go_num,⟨⟨z4,rfl,by omega⟩,HX.out,HB3.out⟩⟩
           case measure=>simp [intOf] <;> omega
   .obtain rfl:k=l.length:=by omega
    have HX:Hid (textE l=0):=hid (textE_ok H16.out (badAt_end HNB.out rfl))
    go_wp2
    go_ret2
    exact ⟨z,HX.out.symm▸rfl,HB.out⟩
def PrB (w:World) (B:Nat) (l:List Par) (v:Value):Prop:=SlB w B 3 l.length v (rows parC l)
theorem PrB.prm {w:World} {B:Nat} {l:List Par} {v:Value} (h:PrB w B l v):PrmB w B v l:=by
 obtain ⟨A,c,e,_,_,h⟩:=h
 exact ⟨A,c,e,h⟩
theorem PrM.prB {w:World} {l:List Par} {v:Value} (h:PrM w l v):PrB w w.heap.size l v:=SlB.of_rdv h
theorem PrB.below {w w':World} {B:Nat} {l:List Par} {v:Value} (h:PrB w B l v) (hb:Below B w w'):PrB w' B l v:=SlB.below h hb
theorem PrB.up {w:World} {B B':Nat} {l:List Par} {v:Value} (h:PrB w B l v) (hB:B<=B'):PrB w B' l v:=SlB.up h hB
def addrA (a:AddrP) (vp vh va:Value):Array Value:=#[.string (str a.display),.string (str a.uri.scheme),.string (str a.uri.user),.string (str a.uri.host),.int .i64 a.uri.port,vp,vh,va]
structure AdB (w:World) (B:Nat) (a:AddrP) (vp vh va:Value):Prop where
 p:PrB w B a.uri.params vp
 h:PrB w B a.uri.headers vh
 a:PrB w B a.params va
structure AdZ (a:AddrP):Prop where
 d:a.display.length<=1000000000
 u:UriS a.uri
 p:∀ q∈a.params,ParZ q
theorem AdB.below {w w':World} {B:Nat} {a:AddrP} {vp vh va:Value} (h:AdB w B a vp vh va) (hb:Below B w w'):AdB w' B a vp vh va:=⟨h.p.below hb,h.h.below hb,h.a.below hb⟩
theorem addr_ways (a:AddrP):(quoN a.display=11/\addrE a=50)\/(quoN a.display=0/\64<a.display.length/\addrE a=50)\/(quoN a.display=0/\a.display.length<=64/\checkE a.uri≠0/\addrE a=checkE a.uri)\/(quoN a.display=0/\a.display.length<=64/\checkE a.uri=0/\addrE a=textE a.params):=by
 by_cases h:quoB a.display=true
 .have e0:quoN a.display=0:=if_pos h
  refine .inr ?_
  by_cases h1:64<a.display.length
  .exact .inl ⟨e0,h1,if_pos (.inr h1)⟩
  .refine .inr ?_
   have e1:addrE a=if checkE a.uri≠0 then checkE a.uri else textE a.params:=if_neg (by simp [h,h1])
   by_cases h2:checkE a.uri=0
   .exact .inr ⟨e0,by omega,h2,e1.trans (if_neg (by simp [h2]))⟩
   .exact .inl ⟨e0,by omega,h2,e1.trans (if_pos h2)⟩
 .have h':quoB a.display=false:=by simpa using h
  exact .inl ⟨if_neg h,if_pos (.inl h')⟩
def AckPost (a:AddrP) (w:World) (e:Ending) (w':World):Prop:=e=.returned (.int .i64 (addrE a))/\Below w.heap.size w w'
set_option maxRecDepth 100000 in
set_option maxHeartbeats 4000000 in
theorem ACheck_any {a:AddrP} {vp vh va:Value} {B:Nat} {w:World} (hB:B<=w.heap.size) (h:AdB w B a vp vh va) (hz:AdZ a) :
 Calls Tryz.prog 68 #[.agg (addrA a vp vh va)] w (AckPost a w):=by
 obtain ⟨w0,hw0⟩:∃ w0,w.alloc (.cells (addrA a vp vh va) 34)=w0:=⟨_,rfl⟩
 have hb0:Below w.heap.size w w0:=hw0▸(Below.refl _ _).alloc (Nat.le_refl _) _
 have hk0:Blk w0 w.heap.size 34 (addrA a vp vh va):=hw0▸Blk.new w _ _
 have HQ:Hid (∀ W,Calls Tryz.prog 102 #[.string (str a.display)] W (QuoPost a.display W)):=hid (fun W=>Quote_any a.display W hz.d)
 have HC:Hid (∀ W,Below w0.heap.size w0 W->Calls Tryz.prog 103 #[uriV a.uri vp vh] W (CheckPost a.uri W)):=hid (fun W hW=>Check_any (Nat.le_trans hB (Nat.le_trans hb0.size hW.size)) (h.p.prm.below ((hb0.mono hB).trans (hW.mono (Nat.le_trans hB hb0.size)))) (h.h.prm.below ((hb0.mono hB).trans (hW.mono (Nat.le_trans hB hb0.size)))) hz.u)
 obtain ⟨A,c,rfl,hlc,_,hra⟩:=h.a
 have HT:Hid (∀ W,Below w0.heap.size w0 W->Calls Tryz.prog 104 #[.slice A a.params.length c] W (TxPost a.params W)):=hid (fun W hW=>Text_any (Nat.le_trans hB (Nat.le_trans hb0.size hW.size)) (hra.below ((hb0.mono hB).trans (hW.mono (Nat.le_trans hB hb0.size)))) hlc hz.p)
 obtain ⟨z,hq,_⟩:=quoV_is a.display
 have HW:=hid (addr_ways a)
 have HB0:=hid hb0
 have HK0:Hid (∀ W,Below w0.heap.size w0 W->Blk W w.heap.size 34 (addrA a vp vh (.slice A a.params.length c))):=hid (fun W hW=>hk0.fr (Fr.of_below (F:=fun _=>False) hW) (fun h=>h))
 unfold QuoPost at HQ
 rw [hq] at HQ
 unfold uriV CheckPost at HC
 unfold TxPost at HT
 unfold AckPost addrA
 unfold addrA at HK0 hw0 hk0
 have hdl:(str a.display).size=a.display.length:=rfl
 have HDL:=hid hdl
 generalize quoN a.display=qn at *
 generalize addrE a=R at *
 generalize checkE a.uri=ce at *
 generalize textE a.params=te at *
 have c0:=hk0.cell 0
 clear hk0 h hra hlc hz hB hb0 hq
 go_enter Tryz.func68,Tryz.ntmps68
 go_upto_region 1 with (fail)
 try rw [hw0]
 clear hw0
 go_wp2_with fail
 refine (HQ.out _).mono ?_
 rintro e w1 ⟨rfl,hb1⟩
 have HB1:=hid hb1
 clear hb1 c0
 have hk1:=HK0.out _ HB1.out
 have c0:=hk1.cell 0
 have c1:=hk1.cell 1
 have c2:=hk1.cell 2
 have c3:=hk1.cell 3
 have c4:=hk1.cell 4
 have c5:=hk1.cell 5
 have c6:=hk1.cell 6
 clear hk1
 have HBB:=hid (HB0.out.trans (HB1.out.mono HB0.out.size))
 rcases HW.out with ⟨h1,hR⟩|⟨h1,h2,hR⟩|⟨h1,h2,h3,hR⟩|⟨h1,h2,h3,hR⟩
 .subst h1 hR
  go_wp2
  go_ret
  exact ⟨rfl,HBB.out⟩
 .have q1:(64:Int)<a.display.length:=by omega
  have d1:decide ((64:Int)<a.display.length)=true:=decide_eq_true q1
  subst h1 hR
  clear h2
  go_wp2
  go_ret
  exact ⟨rfl,HBB.out⟩
 .have q1:¬(64:Int)<a.display.length:=by omega
  have d1:decide ((64:Int)<a.display.length)=false:=decide_eq_false q1
  have d2:(ce != 0)=true:=by simpa using h3
  subst h1 hR
  clear h2 h3
  go_wp2_with fail
  refine (HC.out _ HB1.out).mono ?_
  rintro e w2 ⟨rfl,hb2⟩
  have HB2:=hid (HBB.out.trans (hb2.mono HBB.out.size))
  clear hb2
  go_wp2
  go_ret
  exact ⟨rfl,HB2.out⟩
 .have q1:¬(64:Int)<a.display.length:=by omega
  have d1:decide ((64:Int)<a.display.length)=false:=decide_eq_false q1
  subst h1 h3 hR
  clear h2
  go_wp2_with fail
  refine (HC.out _ HB1.out).mono ?_
  rintro e w2 ⟨rfl,hb2⟩
  have HB2:=hid (thenB_ HB1.out hb2)
  clear hb2 c0 c1 c2 c3 c4 c5 c6
  have hk2:=HK0.out _ HB2.out
  have c7:=hk2.cell 7
  clear hk2
  go_wp2_with fail
  refine (HT.out _ HB2.out).mono ?_
  rintro e w3 ⟨z3,rfl,hb3⟩
  have HB3:=hid (HB0.out.trans ((thenB_ HB2.out hb3).mono HB0.out.size))
  clear hb3
  go_wp2
  go_ret
  exact ⟨rfl,HB3.out⟩
def uriA (u:Uri) (vp vh:Value):Array Value:=#[.string (str u.scheme),.string (str u.user),.string (str u.host),.int .i64 u.port,vp,vh]
def uri0:Array Value:=#[.string ⟨#[]⟩,.string ⟨#[]⟩,.string ⟨#[]⟩,.int .i64 0,.slice none 0 0,.slice none 0 0]
theorem uriA_one {u:Uri} {vp vh:Value} (h1:vp.oneCell'=true) (h2:vh.oneCell'=true):(uriA u vp vh).all (·.oneCell')=true:=by
 have e1:∀ s,(Value.string s).oneCell'=true:=fun _=>rfl
 have e2:∀ k n,(Value.int k n).oneCell'=true:=fun _ _=>rfl
 simp [uriA,e1,e2,h1,h2]
theorem uri_c {W:World} {g:Nat} {u:Uri} {vp vh:Value} (h:Blk W g 32 (uriA u vp vh)):W.cell? ⟨g,4,none⟩=some vp/\W.cell? ⟨g,5,none⟩=some vh/\W.frozen? ⟨g,4,none⟩=false/\W.frozen? ⟨g,5,none⟩=false:=⟨h.cell 4,h.cell 5,h.frozen 4,h.frozen 5⟩
theorem keepP_blk {w:World} {g:Nat} {t:TypeId} {cs:Array Value} (h:Blk w g t cs) (h1:t≠95) (h2:t≠9):KeepP (fun k=>k=g) w:=fun b ds T fr hb hT e=>by
 subst e
 unfold Blk at h
 rw [h] at hb
 injection hb with hb
 injection hb with _ hb _
 rcases hT with rfl|rfl
 .exact h1 hb
 .exact h2 hb
theorem clone_prm {w:World} {B:Nat} {l:List Par} {v:Value} (h:PrB w B l v) (hB:B<=w.heap.size) (hn:l.length<=2000000) :
 Calls Tryz.prog 37 #[v] w fun e w'=>∃ A c,e=.returned (.slice A l.length c)/\PrM w' l (.slice A l.length c)/\Below w.heap.size w w':=by
 obtain ⟨A,c,rfl,_,_,hr⟩:=h
 refine (clone_par (n:=0) hr hB hn).mono ?_
 rintro e w' ⟨v',rfl,⟨A5,c5,rfl,h5,h6,h7⟩,_,hb⟩
 exact ⟨A5,c5,rfl,⟨A5,c5,rfl,h5,h6,h7⟩,hb⟩
def CluPost (u:Uri) (w:World) (e:Ending) (w':World):Prop:=∃ vp vh,e=.returned (.agg (uriA u vp vh))/\PrM w' u.params vp/\PrM w' u.headers vh/\Below w.heap.size w w'
def CluMid (u:Uri) (w:World) (g:Nat) (wx:World):Prop:=∃ vp vh,Blk wx g 32 (uriA u vp vh)/\Blk wx (g+1) 32 uri0/\PrM wx u.params vp/\PrM wx u.headers vh/\Below w.heap.size w wx
theorem clu_end {u:Uri} {w w4:World} {g:Nat} {vp vh v5 v6:Value} (hk:Blk w4 g 32 (uriA u vp vh)) (hk2:Blk w4 (g+1) 32 uri0) (h1:PrM w4 u.params v5) (h2:PrM w4 u.headers v6) (hg:w.heap.size<=g) (hb:Below w.heap.size w w4) :
 CluMid u w g ((w4.setCell ⟨g,4,none⟩ v5).setCell ⟨g,5,none⟩ v6):=by
 have hf:Fr (fun k=>k=g) w4 ((w4.setCell ⟨g,4,none⟩ v5).setCell ⟨g,5,none⟩ v6):=((Fr.refl (fun k=>k=g) w4).set (p:=⟨g,4,none⟩) (fun _=>rfl) v5).set (p:=⟨g,5,none⟩) (fun _=>rfl) v6
 have hkp:=keepP_blk hk (by decide) (by decide)
 exact ⟨v5,v6,(hk.set_ 4 v5).set_ 5 v6,hk2.fr hf (by omega),h1.fr hf hkp,h2.fr hf hkp,hb.trans (Fr.to_below hf (by have:=hk.lt;omega) (fun k e=>by omega))⟩
set_option maxRecDepth 100000 in
set_option maxHeartbeats 4000000 in
theorem cloned_any {u:Uri} {vp vh:Value} {B:Nat} {w:World} (hB:B<=w.heap.size) (hp:PrB w B u.params vp) (hh:PrB w B u.headers vh) (h1:u.params.length<=2000000) (h2:u.headers.length<=2000000) :
 Calls Tryz.prog 66 #[.agg (uriA u vp vh)] w (CluPost u w):=by
 obtain ⟨w0,hw0⟩:∃ w0,(w.alloc (.cells (uriA u vp vh) 32)).alloc (.cells uri0 32)=w0:=⟨_,rfl⟩
 have hb0:Below w.heap.size w w0:=hw0▸((Below.refl _ _).alloc (Nat.le_refl _) _).alloc (by simp) _
 have hka:Blk w0 w.heap.size 32 (uriA u vp vh):=hw0▸(Blk.new w _ _).alloc _
 have hkb:Blk w0 (w.heap.size+1) 32 uri0:=hw0▸Blk.new' _ _ _ (by simp)
 have HT:Hid (∀ W,Below w0.heap.size w0 W->Calls Tryz.prog 37 #[vp] W fun e w'=>∃ A c,e=.returned (.slice A u.params.length c)/\PrM w' u.params (.slice A u.params.length c)/\Below W.heap.size W w'):=hid (fun W hW=>clone_prm (hp.below ((hb0.mono hB).trans (hW.mono (Nat.le_trans hB hb0.size)))) (Nat.le_trans hB (Nat.le_trans hb0.size hW.size)) h1)
 have HN:Hid (∀ W,Below w0.heap.size w0 W->Calls Tryz.prog 37 #[vh] W fun e w'=>∃ A c,e=.returned (.slice A u.headers.length c)/\PrM w' u.headers (.slice A u.headers.length c)/\Below W.heap.size W w'):=hid (fun W hW=>clone_prm (hh.below ((hb0.mono hB).trans (hW.mono (Nat.le_trans hB hb0.size)))) (Nat.le_trans hB (Nat.le_trans hb0.size hW.size)) h2)
 have HKA:Hid (∀ W,Below w0.heap.size w0 W->Blk W w.heap.size 32 (uriA u vp vh)):=hid (fun W hW=>hka.fr (Fr.of_below (F:=fun _=>False) hW) (fun h=>h))
 have HKB:Hid (∀ W,Below w0.heap.size w0 W->Blk W (w.heap.size+1) 32 uri0):=hid (fun W hW=>hkb.fr (Fr.of_below (F:=fun _=>False) hW) (fun h=>h))
 have HB0:=hid hb0
 have HX0:Hid (Below w0.heap.size w0 w0.drew):=hid (Below.refl _ _).drew
 have HEND:=@clu_end u w
 obtain ⟨x4,x5,j4,j5⟩:=uri_c hka
 obtain ⟨At,ct,rfl,_,_,_⟩:=hp
 obtain ⟨An,cn,rfl,_,_,_⟩:=hh
 clear hb0 hka hkb h1 h2 hB
 unfold uri0 uriA at hw0
 show Calls Tryz.prog 66 #[.agg #[.string (str u.scheme),.string (str u.user),.string (str u.host),.int .i64 u.port,_,_]] w _
 go_enter Tryz.func66,Tryz.ntmps66
 go_upto_region 1 with (fail)
 try rw [hw0]
 clear hw0
 go_cut [] (fun wx=>CluMid u w w.heap.size wx)
 case first =>
  go_region_with ((go_at_call 37;first|((with_reducible refine (HT.out _ HX0.out).mono ?_);rintro e w3 ⟨A5,c5,rfl,ho1,hb1⟩;have HO1:=hid ho1;have HX3:=hid (thenB_ HX0.out hb1);clear hb1 ho1;obtain ⟨x4,x5,j4,j5⟩:=uri_c (HKA.out w3 HX3.out))|((with_reducible refine (HN.out _ HX3.out).mono ?_);rintro e w4 ⟨A6,c6,rfl,ho1,hb1⟩;have HO2:=hid ho1;have HO1:=hid (HO1.out.below hb1);have HX4:=hid (thenB_ HX3.out hb1);clear hb1 ho1;obtain ⟨x4,x5,j4,j5⟩:=uri_c (HKA.out w4 HX4.out))))
  all_goals
   go_wp2_with fail
   go_meet
   exact HEND (HKA.out _ HX4.out) (HKB.out _ HX4.out) HO1.out HO2.out (Nat.le_refl _) (thenB_ HB0.out HX4.out)
 case rest =>
  obtain ⟨v5,v6,hk,hk2,hm1,hm2,hbx⟩:=hcut
  have q1:=hm1
  have q2:=hm2
  obtain ⟨A5,c5,rfl,_⟩:=q1
  obtain ⟨A6,c6,rfl,_⟩:=q2
  have HM1:=hid hm1
  have HM2:=hid hm2
  have HBX:=hid hbx
  have HK:=hid hk
  have HK2:=hid hk2
  clear hk hk2 hm1 hm2 hbx
  go_wp2_with (first|(refine wpl_load rfl 32 (.tmp 1) rfl w.heap.size 0 rfl HK.out (uriA u (.slice A5 u.params.length c5) (.slice A6 u.headers.length c6)).toList rfl _ Tryz.underlying32 rfl (by kernel_rfl) ?_)|(refine wpl_store rfl 32 (.tmp 2) (.tmp 11) rfl (w.heap.size+1) 0 rfl (uriA u (.slice A5 u.params.length c5) (.slice A6 u.headers.length c6)) rfl HK2.out (Nat.le_refl 6) (uriA u (.slice A5 u.params.length c5) (.slice A6 u.headers.length c6)) rfl (by kernel_rfl) (uriA_one rfl rfl) ?_;intro wz hkz hfz))
  refine ret_cell rfl rfl rfl hkz _ Tryz.underlying32 rfl (by kernel_rfl) ⟨_,_,rfl,HM1.out.fr hfz (keepP_blk HK2.out (by decide) (by decide)),HM2.out.fr hfz (keepP_blk HK2.out (by decide) (by decide)),HBX.out.trans (Fr.to_below hfz (by have:=HK.out.lt;omega) (fun k e=>by omega))⟩
end Go.Proofs.YthkadehlclcggaaGreatDoor
