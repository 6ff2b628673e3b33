/- Chapter 19, the document's answer: Trim at a trimmed text, Bare, broken, Quote. Chapter 19, the document's answer: Parts at a text without quotes and angles, open, displa Chapter 19, the document's answer: may, Text, Check of an address. Chapter 19, the document's answer: Word, Text, Check of an address. Chapter 19, the document's answer: Check of an address. -/
import Derived.Test.YthkadehlclcggaaGreatDoorGx51
import Derived.Test.YthkadehlclcggaaGreatDoorGx08
import Derived.Test.YthkadehlclcggaaGreatDoorGx23
import Derived.Test.YthkadehlclcggaaGreatDoorGx17
import Derived.Test.YthkadehlclcggaaGreatDoorGx16
import Derived.Deep.RegionHeld3
namespace Go.Proofs.YthkadehlclcggaaGreatDoor
set_option linter.unusedSimpArgs false
set_option linter.unusedVariables false
open Go.RowKit
open Go.Lib (hid)
theorem cls_no {n:Nat} (h:n≠32):(((n:Nat):Int) == 32)=false:=by simp;omega
set_option maxHeartbeats 2000000 in
theorem qTrim_id {s:ByteArray} {m:Nat} (hm:s.size=m+1) (hl:s.size<=140737488351232) (h1:cls (s[0]'(by omega))≠32) (h2:cls (s[m]'(by omega))≠32) (w:World) :
 Calls Tryz.prog 79 #[.string s] w fun e w'=>e=.returned (.string s)/\w=w':=by
 have hp:0<s.size:=by omega
 have hml:m<s.size:=by omega
 have x1:(0:Int)<s.size:=by omega
 have x2:(s.size:Int)<=140737488351232:=by omega
 have em:(s.size:Int)-1=(m:Int):=by omega
 have HC1:Hid (∀ W,Calls Tryz.prog 107 #[.int .u8 ((s[0]'hp).toNat:Int)] W fun e w'=>e=.returned (.int .i64 (cls (s[0]'hp):Int))/\W=w'):=hid (fun W=>rclass_any _ W)
 have HC2:Hid (∀ W,Calls Tryz.prog 107 #[.int .u8 ((s[m]'hml).toNat:Int)] W fun e w'=>e=.returned (.int .i64 (cls (s[m]'hml):Int))/\W=w'):=hid (fun W=>rclass_any _ W)
 have q1:=cls_no h1
 have q2:=cls_no h2
 have HX:Hid (s.extract 0 s.size=s):=hid (by simp)
 generalize cls (s[0]'hp)=k1 at *
 generalize cls (s[m]'hml)=k2 at *
 clear hm hl h1 h2
 go_enter Tryz.func79,Tryz.ntmps79
 go_wp2
 go_loop [3] (fun v=>v=.int .i64 0) (fun _=>0)
 case atStart=>exact rfl
 case round =>
  subst hrel
  go_wp2_with fail
  refine (HC1.out _).mono ?_
  rintro e w' ⟨rfl,rfl⟩
  go_wp2
  go_loop [4] (fun v=>v=.int .i64 s.size) (fun _=>0)
  case atStart=>exact rfl
  case round =>
   subst hrel
   go_wp2_with fail
   refine (HC2.out _).mono ?_
   rintro e w' ⟨rfl,rfl⟩
   go_wp2
   go_ret
   exact ⟨by first|rfl|(rw [HX.out]),rfl⟩
theorem qTrim_nil (w:World):Calls Tryz.prog 79 #[.string ⟨#[]⟩] w fun e w'=>e=.returned (.string ⟨#[]⟩)/\w=w':=by
 go_enter Tryz.func79,Tryz.ntmps79
 go_wp2
 go_loop [3] (fun v=>v=.int .i64 0) (fun _=>0)
 case atStart=>exact rfl
 case round =>
  subst hrel
  go_wp2
  go_loop [4] (fun v=>v=.int .i64 0) (fun _=>0)
  case atStart=>exact rfl
  case round =>
   subst hrel
   go_wp2
   go_ret
   exact ⟨rfl,rfl⟩
theorem qBroken_any (c:UInt8) (w:World):Calls Tryz.prog 143 #[.int .u8 (c.toNat:Int)] w fun e w'=>e=.returned (.bool (!okQ c))/\w=w':=by
 have HW:=hid (okQ_int c)
 generalize okQ c=b at *
 generalize (c.toNat:Int)=n at *
 rcases HW.out with ⟨h,hb⟩|⟨h,hb⟩|⟨h,hb⟩|⟨h1,h2,h3,hb⟩
 iterate 3
  .subst h hb
   go_enter Tryz.func143,Tryz.ntmps143
   go_wp2
   go_ret
   exact ⟨rfl,rfl⟩
 .subst hb
  go_enter Tryz.func143,Tryz.ntmps143
  go_wp2
  go_ret
  exact ⟨rfl,rfl⟩
theorem qBare_any (c:UInt8) (w:World):Calls Tryz.prog 144 #[.int .u8 (c.toNat:Int)] w fun e w'=>e=.returned (.bool (barB c))/\w=w':=by
 have HW:=hid (bar_ways c)
 have hn:(c.toNat:Int)<256:=by have:=c.toNat_lt;omega
 generalize c.toNat=n at *
 rcases HW.out with ⟨h,hb⟩|⟨h,hb⟩|⟨h,hb⟩|⟨h1,h2,hb⟩|⟨h,hb⟩|⟨h1,h2,h3,h4,hb⟩
 iterate 3
  .subst h
   rw [hb]
   go_enter Tryz.func144,Tryz.ntmps144
   go_wp2
   go_ret
   exact ⟨rfl,rfl⟩
 .rw [hb]
  have a4:((n:Int) == 9)=false:=by simp;omega
  have d1:decide ((32:Int)<=n)=false:=decide_eq_false (by omega)
  have d2:decide ((n:Int)>=32)=false:=decide_eq_false (by omega)
  clear HW hb h2
  go_enter Tryz.func144,Tryz.ntmps144
  go_wp2
  go_ret
  exact ⟨rfl,rfl⟩
 .subst h
  rw [hb]
  go_enter Tryz.func144,Tryz.ntmps144
  go_wp2
  go_ret
  exact ⟨rfl,rfl⟩
 .rw [hb]
  have a0:((n:Int) == 9)=false:=by simp;omega
  have a1:((n:Int) != 34)=true:=by simp;omega
  have a2:((n:Int) != 92)=true:=by simp;omega
  have a3:((n:Int) != 127)=true:=by simp;omega
  have d1:decide ((32:Int)<=n)=true:=decide_eq_true (by omega)
  have d2:decide ((n:Int)>=32)=true:=decide_eq_true (by omega)
  clear HW hb h2 h3 h4
  go_enter Tryz.func144,Tryz.ntmps144
  go_wp2
  go_ret
  exact ⟨rfl,rfl⟩
theorem quoP_succ {s:T} {k:Nat} (hk:k<s.length):quoP (s.take (k+1))=quoP (s.take k)++quo1 s[k]:=by
 unfold quoP
 rw [List.take_succ_eq_append_getElem hk,List.flatMap_append]
 simp
theorem quoP_len (s:T):∀ k,k<=s.length->(quoP (s.take k)).length<=2*k
 | 0,_=>by simp [quoP]
 | k+1,h=>by
   rw [quoP_succ (by omega),List.length_append]
   have:=quoP_len s k (by omega)
   have:=quo1_len s[k]
   omega
structure QuR (s:T) (w:World) (k:Nat) (v:Value) (wr:World):Prop where
 own:wr.ownsRow w.heap.size 5 1 v (quoP (s.take k)).length ((quoP (s.take k)).map B)
 ok:(s.take k).all okQ=true
 be:Below w.heap.size w wr
theorem QuR.next {s:T} {w wr w4:World} {k:Nat} {v v4:Value} {l:List UInt8} (H:QuR s w k v wr) (hk:k<s.length) (ho:okQ s[k]=true) (hl:quo1 s[k]=l)
 (h4:w4.ownsRow w.heap.size 5 1 v4 ((quoP (s.take k)).length+l.length) ((quoP (s.take k)).map B++l.map B)) (hb:Below w.heap.size wr w4):QuR s w (k+1) v4 w4:=by
 refine ⟨?_,?_,H.be.trans hb⟩
 .rw [quoP_succ hk,hl,List.length_append,List.map_append]
  exact h4
 .rw [List.take_succ_eq_append_getElem hk,List.all_append,H.ok]
  simp [ho]
theorem quP_ok {s:T} (h:(s.take s.length).all okQ=true):quoV s=.tuple #[.string ((⟨#[34]⟩++str (quoP (s.take s.length)))++⟨#[34]⟩),.int .i64 0]:=by
 have h9:=quo_ok h
 rw [h9]
 unfold quoTo
 have e:str (34::quoP (s.take s.length)++[34])=(⟨#[34]⟩++str (quoP (s.take s.length)))++⟨#[34]⟩:=by
  apply ba_eq
  simp [str]
 rw [e]
set_option maxRecDepth 100000 in
set_option maxHeartbeats 2000000 in
theorem qQuote_any (s:T) (w:World) (hs:s.length<=1000000000):Calls Tryz.prog 145 #[.string (str s)] w (QuoPost s w):=by
 have hz:(str s).size=s.length:=rfl
 have H0:Hid (QuR s w 0 (.slice none 0 0) w):=hid ⟨⟨by simp [quoP],.inl ⟨rfl,rfl⟩⟩,by simp,Below.refl _ _⟩
 go_enter Tryz.func145,Tryz.ntmps145
 go_wp2
 go_loopw [4,5] (fun v i wr=>∃ k:Nat,k<=s.length/\i=.int .i64 k/\QuR s w k v wr) (fun _ i _=>s.length-(intOf i).toNat)
 case atStart=>exact ⟨0,by omega,rfl,H0.out⟩
 case round =>
  obtain ⟨k,hk,rfl,hR⟩:=hrel
  have HR:=hid hR
  have HO:=hid hR.own
  have hbs:=hR.be.size
  have hlen:=quoP_len s k hk
  clear hR
  by_cases hlt:k<s.length
  .have hlt':k<(str s).size:=hlt
   have hn:((str s)[k].toNat:Int)<256:=by have:=(str s)[k].toNat_lt;omega
   have HBR:Hid (∀ W,Calls Tryz.prog 143 #[.int .u8 ((str s)[k].toNat:Int)] W fun e w'=>e=.returned (.bool (!okQ (str s)[k]))/\W=w'):=hid (fun W=>qBroken_any _ W)
   have HBA:Hid (∀ W,Calls Tryz.prog 144 #[.int .u8 ((str s)[k].toNat:Int)] W fun e w'=>e=.returned (.bool (barB (str s)[k]))/\W=w'):=hid (fun W=>qBare_any _ W)
   have HBAD:Hid (okQ (str s)[k]=false->quoV s=.tuple #[.string ⟨#[]⟩,.int .i64 11]):=hid (fun h=>quo_bad hlt h)
   cases hb:okQ (str s)[k] with
   | false =>
     have HX:=hid (HBAD.out hb)
     have HB:=hid HR.out.be
     rw [hb] at HBR
     clear hb hn
     go_wp2_with fail
     refine (HBR.out _).mono ?_
     rintro e w' ⟨rfl,rfl⟩
     go_wp2
     go_ret2
     exact ⟨HX.out▸rfl,HB.out⟩
   | true =>
     have HN:Hid (∀ (l:List UInt8) (v4:Value) (w4:World),quo1 (str s)[k]=l->w4.ownsRow w.heap.size 5 1 v4 ((quoP (s.take k)).length+l.length) ((quoP (s.take k)).map B++l.map B)->Below w.heap.size wr w4->QuR s w (k+1) v4 w4):=hid (fun l v4 w4 a b c=>HR.out.next hlt hb a b c)
     rw [hb] at HBR
     clear hb
     cases hbar:barB (str s)[k] with
     | true =>
       have HQ1:Hid (quo1 (str s)[k]=[(str s)[k]]):=hid (by unfold quo1;rw [if_pos hbar])
       rw [hbar] at HBA
       clear hbar
       go_wp2_with fail
       refine (HBR.out _).mono ?_
       rintro e w' ⟨rfl,rfl⟩
       go_wp2_with fail
       refine (HBA.out _).mono ?_
       rintro e w' ⟨rfl,rfl⟩
       go_wp2_with (at_builtin;go_must (refine wpList_app1' rfl (.tmp 24) (.tmp 28) 59 rfl w.heap.size 5 1 1 _ Tryz.underlying59 e5i rfl (by omega) _ _ _ rfl HO.out [B (str s)[k]] _ rfl (by first|rfl|(simp;done)) rfl (by simp [B,Value.oneCell']) (by unfold maxLen;omega) (by omega) (by omega) ?_);intro v4 w4 hown4 hb4 hg4 hat4)
       have HX:=hid (HN.out [(str s)[k]] v4 w4 HQ1.out (by simpa using hown4) hb4)
       clear hown4 hb4 hg4 hat4
       go_roundw
       case rel=>exact ⟨k+1,by omega,by go_num,HX.out⟩
       case measure=>simp [intOf] <;> omega
     | false =>
       have HQ1:Hid (quo1 (str s)[k]=[92,(str s)[k]]):=hid (by unfold quo1;rw [if_neg (by rw [hbar];decide)])
       rw [hbar] at HBA
       clear hbar
       go_wp2_with fail
       refine (HBR.out _).mono ?_
       rintro e w' ⟨rfl,rfl⟩
       go_wp2_with fail
       refine (HBA.out _).mono ?_
       rintro e w' ⟨rfl,rfl⟩
       go_wp2_with (first|(at_builtin;(refine wpList_app1' rfl (.tmp 21) (.tmp 22) 59 rfl w.heap.size 5 1 1 _ Tryz.underlying59 e5i rfl (by omega) _ _ _ rfl HO.out [B 92] _ rfl (by first|rfl|(simp;done)) rfl (by simp [B,Value.oneCell']) (by unfold maxLen;omega) (by omega) (by omega) ?_);intro v3 w3 hown3 hb3 hg3 hat3;have HO3:=hid hown3;have HB3:=hid hb3;have hs3:=hb3.size;clear hown3 hb3 hg3 hat3)|(at_builtin;go_must (refine wpList_app1' rfl (.tmp 24) (.tmp 28) 59 rfl w.heap.size 5 1 1 _ Tryz.underlying59 e5i rfl (by omega) _ _ _ rfl HO3.out [B (str s)[k]] _ rfl (by first|rfl|(simp;done)) rfl (by simp [B,Value.oneCell']) (by unfold maxLen;omega) (by omega) (by omega) ?_);intro v4 w4 hown4 hb4 hg4 hat4))
       have HX:=hid (HN.out [92,(str s)[k]] v4 w4 HQ1.out (by simpa using hown4) (HB3.out.trans hb4))
       clear hown4 hb4 hg4 hat4
       go_roundw
       case rel=>exact ⟨k+1,by omega,by go_num,HX.out⟩
       case measure=>simp [intOf] <;> omega
  .obtain rfl:k=s.length:=by omega
   have HB:=hid HR.out.be
   have HE:=hid (quP_ok HR.out.ok)
   have hcv:=run_string_own (P:=Tryz.prog) 59 9 5 Tryz.underlying59 Tryz.underlying5 Tryz.underlying9 HO.out
   have hpl:(str (quoP (s.take s.length))).size=(quoP (s.take s.length)).length:=rfl
   have h1:∀ W:World,(Op.stringOp .add ⟨#[34]⟩ (str (quoP (s.take s.length)))).run Tryz.prog W=.ok (.string (⟨#[34]⟩++str (quoP (s.take s.length)))) W:=fun W=>run_string_add_sum (P:=Tryz.prog) (w:=W) _ _ (by show 1+_<=_;rw [hpl];omega)
   have h2:∀ W:World,(Op.stringOp .add (⟨#[34]⟩++str (quoP (s.take s.length))) ⟨#[34]⟩).run Tryz.prog W=.ok (.string ((⟨#[34]⟩++str (quoP (s.take s.length)))++⟨#[34]⟩)) W:=fun W=>run_string_add_sum (P:=Tryz.prog) (w:=W) _ _ (by rw [ByteArray.size_append,hpl];show 1+_+1<=_;omega)
   clear hpl hlen
   generalize str (quoP (s.take s.length))=z at *
   generalize hz1:(⟨#[34]⟩:ByteArray)++z=z1 at *
   generalize hz2:z1++(⟨#[34]⟩:ByteArray)=z2 at *
   clear hz1 hz2
   go_wp2
   go_ret2
   exact ⟨HE.out▸rfl,HB.out⟩
theorem split_pre (c:UInt8):∀ (a r:T),c∉a->splitT c (a++c::r)=a::splitT c r
 | [],r,_=>by
   show splitT c (c::r)=_
   conv=>lhs;unfold splitT
   rw [if_pos rfl]
 | x::a,r,h=>by
   have h1:x≠c:=fun e=>h (by simp [e])
   have h2:c∉a:=fun e=>h (by simp [e])
   show splitT c (x::(a++c::r))=_
   conv=>lhs;unfold splitT
   rw [if_neg h1,split_pre c a r h2]
theorem split_one (c:UInt8):∀ a:T,c∉a->splitT c a=[a]
 | [],_=>by unfold splitT;rfl
 | x::a,h=>by
   have h1:x≠c:=fun e=>h (by simp [e])
   have h2:c∉a:=fun e=>h (by simp [e])
   unfold splitT
   rw [if_neg h1,split_one c a h2]
def PlnT (s:T):Prop:=∀ c∈s,c≠34/\c≠60/\c≠62
structure PtRel (s:T) (w:World) (k:Nat) (vo vb:Value) (wr:World):Prop where
 ex:∃ (done:List T) (cur:T),splitT 59 s=done++splitT 59 (cur++s.drop k)/\(59:UInt8)∉cur/\done.length+cur.length<=k/\wr.ownsRow w.heap.size 9 1 vo done.length (done.map SC1)/\wr.ownsRow w.heap.size 5 1 vb cur.length (cur.map B)
 be:Below w.heap.size w wr
def PtPost (s:T) (w:World) (e:Ending) (w':World):Prop:=∃ v,e=.returned v/\w'.ownsRow w.heap.size 9 1 v (splitT 59 s).length ((splitT 59 s).map SC1)/\Below w.heap.size w w'
theorem own_apart {w:World} {b1 b2:Nat} {e1 e2:TypeId} {z1 z2 n1 n2:Nat} {v1 v2:Value} {x1 x2:List Value} (h1:w.ownsRow b1 e1 z1 v1 n1 x1) (h2:w.ownsRow b2 e2 z2 v2 n2 x2) (hne:e1≠e2) {k:Nat} (h:v1.ownBlock=some k):¬v2.ownBlock=some k:=fun h'=>by
 rcases h1.2 with ⟨rfl,_⟩|⟨g,cap,cur,rfl,_,hh,_⟩
 .cases h
 .rcases h2.2 with ⟨rfl,_⟩|⟨g',cap',cur',rfl,_,hh',_⟩
  .cases h'
  .have e1:g=k:=by simpa [Value.ownBlock] using h
   have e2:g'=k:=by simpa [Value.ownBlock] using h'
   subst e1
   subst e2
   rw [hh] at hh'
   injection hh' with hh'
   injection hh' with _ hh'
   exact hne hh'
theorem byte_is {c:UInt8} {n:Nat} (h:c.toNat=n) (hn:n<256):c=UInt8.ofNat n:=by
 apply UInt8.toNat_inj.1
 rw [h,UInt8.toNat_ofNat_of_lt' hn]
set_option maxRecDepth 100000 in
set_option maxHeartbeats 4000000 in
theorem qParts_any (s:T) (w:World) (hp:PlnT s) (hs:s.length<=2000000):Calls Tryz.prog 82 #[.string (str s),.int .u8 59] w (PtPost s w):=by
 have hz:(str s).size=s.length:=rfl
 have H0:Hid (PtRel s w 0 (.slice none 0 0) (.slice none 0 0) w):=hid ⟨⟨[],[],by simp,by simp,by simp,⟨rfl,.inl ⟨rfl,rfl⟩⟩,⟨rfl,.inl ⟨rfl,rfl⟩⟩⟩,Below.refl _ _⟩
 have HPL:=hid hp
 clear hp
 go_enter Tryz.func82,Tryz.ntmps82
 go_wp2
 go_loopw [5,6,7,8,9] (fun vo vb q a i wr=>q=.bool false/\a=.bool false/\∃ k:Nat,k<=s.length/\i=.int .i64 k/\PtRel s w k vo vb wr) (fun _ _ _ _ i _=>s.length-(intOf i).toNat)
 case atStart=>exact ⟨rfl,rfl,0,by omega,rfl,H0.out⟩
 case round =>
  obtain ⟨rfl,rfl,k,hk,rfl,hR⟩:=hrel
  have hbs:=hR.be.size
  have HB:=hid hR.be
  obtain ⟨done,cur,hsp,hnc,hlen,ho1,ho2⟩:=hR.ex
  have HSP:=hid hsp
  have HNC:=hid hnc
  have HO1:=hid ho1
  have HO2:=hid ho2
  have hcv:=run_string_own (P:=Tryz.prog) 59 9 5 Tryz.underlying59 Tryz.underlying5 Tryz.underlying9 ho2
  have hdl:done.length<=2000000:=by omega
  have hcl:cur.length<=2000000:=by omega
  clear hR hsp hnc ho1 ho2
  by_cases hlt:k<s.length
  .have hlt':k<(str s).size:=hlt
   have hn:((str s)[k].toNat:Int)<256:=by have:=(str s)[k].toNat_lt;omega
   have hix:(str s)[k]=s[k]:=rfl
   obtain ⟨a1,a2,a3⟩:=HPL.out s[k] (List.getElem_mem hlt)
   have HDR:Hid (s.drop k=s[k]::s.drop (k+1)):=hid (List.drop_eq_getElem_cons hlt)
   have HC:=hid hcv
   clear hcv
   by_cases hc:s[k]=59
   .have HN:Hid (∀ v4 w4,w4.ownsRow w.heap.size 9 1 v4 (done.length+1) (done.map SC1++[.string (str cur)])->Below w.heap.size wr w4->PtRel s w (k+1) v4 (.slice none 0 0) w4):=hid (fun v4 w4 a b=>by
     refine ⟨⟨done++[cur],[],?_,by simp,by simp;omega,by rw [List.length_append,List.map_append];exact a,⟨rfl,.inl ⟨rfl,rfl⟩⟩⟩,HB.out.trans b⟩
     rw [HSP.out,HDR.out,hc,split_pre 59 cur _ HNC.out]
     simp)
    have hcn:((str s)[k].toNat:Int)=59:=by rw [hix,hc];rfl
    have HCN:=hid hcn
    have hcv:=HC.out
    clear hc a1 a2 a3 hn hix
    go_wp2_with (at_builtin;go_must (refine wpList_app1' rfl (.tmp 65) (.tmp 68) 35 rfl w.heap.size 9 1 16 _ Tryz.underlying35 e9i rfl (by omega) u5 done.length (done.map SC1) rfl HO1.out [.string (str cur)] _ rfl (by first|rfl|(simp;done)) rfl (by simp [Value.oneCell']) (by unfold maxLen;omega) (by omega) (by omega) ?_);intro v4 w4 hown4 hb4 hg4 hat4)
    have HX:=hid (HN.out v4 w4 hown4 hb4)
    clear hown4 hb4 hg4 hat4
    go_roundw
    case rel=>exact ⟨rfl,rfl,k+1,by omega,by go_num,HX.out⟩
    case measure=>simp [intOf] <;> omega
   .have HN:Hid (∀ v4 w4,w4.ownsRow w.heap.size 5 1 v4 (cur.length+1) (cur.map B++[B s[k]])->Below w.heap.size wr w4->wr.grownBy w4 u6.ownBlock->PtRel s w (k+1) u5 v4 w4):=hid (fun v4 w4 a b g=>by
     refine ⟨⟨done,cur++[s[k]],?_,?_,by simp;omega,own_fr HO1.out (Fr.of_grown (F:=fun k=>u6.ownBlock=some k) g (fun k e=>e)) (fun k hk=>own_apart HO1.out HO2.out (by decide) hk),by rw [List.length_append,List.map_append];exact a⟩,HB.out.trans b⟩
     .rw [HSP.out,HDR.out]
      simp
     .intro hm
      rcases List.mem_append.1 hm with r|r
      .exact HNC.out r
      .simp at r
       exact hc r.symm)
    have t1:s[k].toNat≠59:=fun h=>hc (byte_is h (by decide))
    have t2:s[k].toNat≠34:=fun h=>a1 (byte_is h (by decide))
    have t3:s[k].toNat≠60:=fun h=>a2 (byte_is h (by decide))
    have t4:s[k].toNat≠62:=fun h=>a3 (byte_is h (by decide))
    have q1:(((str s)[k].toNat:Int) == 59)=false:=by rw [hix];simp;omega
    have q2:(((str s)[k].toNat:Int) == 34)=false:=by rw [hix];simp;omega
    have q3:(((str s)[k].toNat:Int) == 60)=false:=by rw [hix];simp;omega
    have q4:(((str s)[k].toNat:Int) == 62)=false:=by rw [hix];simp;omega
    clear hc a1 a2 a3 t1 t2 t3 t4 hix
    go_wp2_with (at_builtin;go_must (refine wpList_app1' rfl (.tmp 86) (.tmp 88) 59 rfl w.heap.size 5 1 1 _ Tryz.underlying59 e5i rfl (by omega) u6 cur.length (cur.map B) rfl HO2.out [B (str s)[k]] _ rfl (by first|rfl|(simp;done)) rfl (by simp [B,Value.oneCell']) (by unfold maxLen;omega) (by omega) (by omega) ?_);intro v4 w4 hown4 hb4 hg4 hat4)
    have HX:=hid (HN.out v4 w4 hown4 hb4 hg4)
    clear hown4 hb4 hg4 hat4
    go_roundw
    case rel=>exact ⟨rfl,rfl,k+1,by omega,by go_num,HX.out⟩
    case measure=>simp [intOf] <;> omega
  .obtain rfl:k=s.length:=by omega
   have HE:Hid (splitT 59 s=done++[cur]):=hid (by rw [HSP.out,List.drop_length,List.append_nil,split_one 59 cur HNC.out])
   go_wp2_with (at_builtin;go_must (refine wpList_app1' rfl (.tmp 90) (.tmp 93) 35 rfl w.heap.size 9 1 16 _ Tryz.underlying35 e9i rfl (by omega) u5 done.length (done.map SC1) rfl HO1.out [.string (str cur)] _ rfl (by first|rfl|(simp;done)) rfl (by simp [Value.oneCell']) (by unfold maxLen;omega) (by omega) (by omega) ?_);intro v4 w4 hown4 hb4 hg4 hat4)
   have HX:Hid (PtPost s w (.returned v4) w4):=hid ⟨v4,rfl,by rw [HE.out,List.length_append,List.map_append];exact hown4,HB.out.trans hb4⟩
   clear hown4 hb4 hg4 hat4
   go_ret
   exact HX.out
set_option maxRecDepth 100000 in
theorem qOpen_any {s:ByteArray} (h:0<s.size) (hs:s.size<=2000000) (h0:(s[0]'h).toNat=60) (w:World):Calls Tryz.prog 80 #[.string s] w fun e w'=>e=.returned (.int .i64 0)/\w=w':=by
 have x1:(0:Int)<s.size:=by omega
 have e0:((s[0]'h).toNat:Int)=60:=by rw [h0];rfl
 clear h0
 go_enter Tryz.func80,Tryz.ntmps80
 go_wp2
 go_loop [3,4] (fun q i=>q=.bool false/\i=.int .i64 0) (fun _ _=>0)
 case atStart=>exact ⟨rfl,rfl⟩
 case round =>
  obtain ⟨rfl,rfl⟩:=hrel
  go_wp2
  exact bodyPost_ret (v:=.int .i64 0) (by simp [results,Tryz.results80,go_sem]) rfl ⟨rfl,rfl⟩
set_option maxRecDepth 100000 in
theorem qGlue_nil (w:World) (z:ByteArray):Calls Tryz.prog 113 #[.slice none 0 0,.string z] w fun e w'=>e=.returned (.string ⟨#[]⟩)/\w=w':=by
 have ho:w.ownsRow 0 5 1 (.slice none 0 0) ([]:T).length (([]:T).map B):=⟨rfl,.inl ⟨rfl,rfl⟩⟩
 have hcv:=run_string_own (P:=Tryz.prog) 59 9 5 Tryz.underlying59 Tryz.underlying5 Tryz.underlying9 ho
 clear ho
 go_enter Tryz.func113,Tryz.ntmps113
 go_wp2
 go_loop [5,6] (fun v i=>v=.slice none 0 0/\i=.int .i64 0) (fun _ _=>0)
 case atStart=>exact ⟨rfl,rfl⟩
 case round =>
  obtain ⟨rfl,rfl⟩:=hrel
  go_wp2
  go_ret
  exact ⟨rfl,rfl⟩
set_option maxRecDepth 100000 in
set_option maxHeartbeats 2000000 in
theorem qDisplay_nil (w:World):Calls Tryz.prog 81 #[.string ⟨#[]⟩] w fun e w'=>e=.returned (.tuple #[.string ⟨#[]⟩,.bool true])/\w=w':=by
 have HT:Hid (∀ W,Calls Tryz.prog 79 #[.string ⟨#[]⟩] W fun e w'=>e=.returned (.string ⟨#[]⟩)/\W=w'):=hid (fun W=>qTrim_nil W)
 have HG:Hid (∀ W z,Calls Tryz.prog 113 #[.slice none 0 0,.string z] W fun e w'=>e=.returned (.string ⟨#[]⟩)/\W=w'):=hid (fun W z=>qGlue_nil W z)
 go_enter Tryz.func81,Tryz.ntmps81
 go_wp2_with fail
 refine (HT.out _).mono ?_
 rintro e w' ⟨rfl,rfl⟩
 go_wp2_with fail
 go_loop [6,7,8] (fun l v i=>l=.slice none 0 0/\v=.string ⟨#[]⟩/\i=.int .i64 0) (fun _ _ _=>0)
 case atStart=>exact ⟨rfl,rfl,rfl⟩
 case round =>
  obtain ⟨rfl,rfl,rfl⟩:=hrel
  go_wp2_with fail
  refine (HG.out _ _).mono ?_
  rintro e w' ⟨rfl,rfl⟩
  go_wp2
  go_ret2
  exact ⟨rfl,rfl⟩
theorem may_ways (l:List Par) (p:Par):(tokB p.name=false/\badP l p=true)\/(tokB p.name=true/\(findP p.name l).isSome=true/\badP l p=true) \/
 (tokB p.name=true/\(findP p.name l).isSome=false/\64<p.value.length/\badP l p=true)\/(tokB p.name=true/\(findP p.name l).isSome=false/\p.value.length<=64/\quoN p.value=11/\badP l p=true) \/
 (tokB p.name=true/\(findP p.name l).isSome=false/\p.value.length<=64/\quoN p.value=0/\p.has=false/\p.value≠[]/\badP l p=true) \/
 (tokB p.name=true/\(findP p.name l).isSome=false/\p.value.length<=64/\quoN p.value=0/\p.has=true/\badP l p=false)\/(tokB p.name=true/\(findP p.name l).isSome=false/\p.value.length<=64/\quoN p.value=0/\p.has=false/\p.value=[]/\badP l p=false):=by
 have hq:(quoN p.value=0/\quoB p.value=true)\/(quoN p.value=11/\quoB p.value=false):=by
  unfold quoN
  cases h:quoB p.value
  .exact .inr ⟨rfl,rfl⟩
  .exact .inl ⟨rfl,rfl⟩
 rcases bad_ways l p with h|h|h|⟨h1,h2,h3,h4,h5,h⟩|⟨h1,h2,h3,h4,h⟩|⟨h1,h2,h3,h4,h5,h⟩
 .exact .inl h
 .exact .inr (.inl h)
 .exact .inr (.inr (.inl h))
 .rcases hq with ⟨q,_⟩|⟨q,_⟩
  .exact .inr (.inr (.inr (.inr (.inl ⟨h1,h2,h3,q,h4,h5,h⟩))))
  .exact .inr (.inr (.inr (.inl ⟨h1,h2,h3,q,h⟩)))
 .rcases hq with ⟨q,q2⟩|⟨q,q2⟩
  .exact .inr (.inr (.inr (.inr (.inr (.inl ⟨h1,h2,h3,q,h4,by rw [h,q2];rfl⟩)))))
  .exact .inr (.inr (.inr (.inl ⟨h1,h2,h3,q,by rw [h,q2];rfl⟩)))
 .rcases hq with ⟨q,q2⟩|⟨q,q2⟩
  .exact .inr (.inr (.inr (.inr (.inr (.inr ⟨h1,h2,h3,q,h4,h5,by rw [h,q2];rfl⟩)))))
  .exact .inr (.inr (.inr (.inl ⟨h1,h2,h3,q,by rw [h,q2];rfl⟩)))
theorem place_sign {n:T} {l:List Par} {z:Int} (h:PlaceIs n l z):((findP n l).isSome=true/\0<=z)\/((findP n l).isSome=false/\z=-1):=by
 rcases h with ⟨rfl,h⟩|⟨k,hk,rfl,h⟩
 .exact .inr ⟨by rw [h];rfl,rfl⟩
 .exact .inl ⟨by rw [h];rfl,by omega⟩
set_option maxRecDepth 100000 in
set_option maxHeartbeats 4000000 in
theorem qMay_any {l:List Par} {p:Par} {A:Option Addr} {c B:Nat} {w:World} (hB:B<=w.heap.size) (hr:RdB w B 3 l.length A (rows parC l)) (hl:l.length<=maxLen) (hs:∀ q∈l,ParZ q) (hp:ParZ p) :
 Calls Tryz.prog 115 #[.slice A l.length c,.agg #[.string (str p.name),.string (str p.value),.bool p.has]] w (BlPost (!badP l p) w):=by
 obtain ⟨w0,hw0⟩:∃ w0,w.alloc (.cells #[.string (str p.name),.string (str p.value),.bool p.has] 95)=w0:=⟨_,rfl⟩
 have hb0:Below w.heap.size w w0:=hw0▸(Below.refl _ _).alloc (Nat.le_refl _) _
 have hk0:Blk w0 w.heap.size 95 #[.string (str p.name),.string (str p.value),.bool p.has]:=hw0▸Blk.new w _ _
 have HQ:Hid (∀ W,Calls Tryz.prog 145 #[.string (str p.value)] W (QuoPost p.value W)):=hid (fun W=>qQuote_any p.value W hp.v)
 have HTK:Hid (∀ W,Calls Tryz.prog 130 #[.string (str p.name)] W fun e w'=>e=.returned (.bool (tokB p.name))/\W=w'):=hid (fun W=>rtoken_any p.name W (by have:=hp.n;omega))
 have HPL:Hid (∀ W,Below w0.heap.size w0 W->Calls Tryz.prog 99 #[.slice A l.length c,.string (str p.name)] W (PlacePost p.name l W)):=hid (fun W hW=>Place_any (Nat.le_trans hB (Nat.le_trans hb0.size hW.size)) (hr.below ((hb0.mono hB).trans (hW.mono (Nat.le_trans hB hb0.size)))) hl (fun q hq=>(hs q hq).s) (by have:=hp.n;omega))
 obtain ⟨z,hq,hzl⟩:=quoV_is p.value
 have HW:=hid (may_ways l p)
 have HSG:Hid (∀ z,PlaceIs p.name l z->((findP p.name l).isSome=true/\0<=z)\/((findP p.name l).isSome=false/\z=-1)):=hid (fun z h=>place_sign h)
 have HB0:=hid hb0
 have HK0:Hid (∀ W,Below w0.heap.size w0 W->W.cell? ⟨w.heap.size,0,none⟩=some (.string (str p.name))/\W.cell? ⟨w.heap.size,1,none⟩=some (.string (str p.value))/\W.cell? ⟨w.heap.size,2,none⟩=some (.bool p.has)):=hid (fun W h=>by
  have kk:=hk0.fr (Fr.of_below (F:=fun _=>False) h) (fun h=>h)
  exact ⟨kk.cell 0,kk.cell 1,kk.cell 2⟩)
 unfold QuoPost at HQ
 rw [hq] at HQ
 have hvl:(str p.value).size=p.value.length:=rfl
 unfold BlPost
 generalize (findP p.name l).isSome=fnd at *
 generalize badP l p=R at *
 generalize quoN p.value=qn at *
 clear hr hs hp hb0 hq hzl hB hl
 have c1:=hk0.cell 1
 clear hk0
 go_enter Tryz.func115,Tryz.ntmps115
 go_upto_region 1 with (fail)
 try rw [hw0]
 clear hw0
 go_wp2_with fail
 refine (HQ.out _).mono ?_
 rintro e w1 ⟨rfl,hb1⟩
 have HB1:=hid hb1
 clear c1 hb1
 obtain ⟨c0,c1,c2⟩:=HK0.out _ HB1.out
 have HBB:=hid (HB0.out.trans (HB1.out.mono HB0.out.size))
 go_wp2_with fail
 refine (HTK.out _).mono ?_
 rintro e w2 ⟨rfl,rfl⟩
 rcases HW.out with ⟨h1,hR⟩|⟨h1,h2,hR⟩|⟨h1,h2,h3,hR⟩|⟨h1,h2,h3,h4,hR⟩|⟨h1,h2,h3,h4,h5,h6,hR⟩|⟨h1,h2,h3,h4,h5,hR⟩|⟨h1,h2,h3,h4,h5,h6,hR⟩
 .rw [h1]
  subst hR
  clear h1
  go_wp2
  go_ret
  exact ⟨rfl,HBB.out⟩
 .rw [h1]
  subst hR h2
  clear h1
  go_wp2_with fail
  refine (HPL.out _ HB1.out).mono ?_
  rintro e w3 ⟨z3,rfl,hpl,hb3⟩
  have hsg:=HSG.out z3 hpl
  have HB3:=hid (HBB.out.trans (hb3.mono HBB.out.size))
  have HB13:=hid (thenB_ HB1.out hb3)
  clear hpl hb3 c0 c1 c2
  obtain ⟨c0,c1,c2⟩:=HK0.out _ HB13.out
  have hz3:0<=z3:=by
   rcases hsg with ⟨_,h⟩|⟨h,_⟩
   .exact h
   .cases h
  have hd3:decide (z3<0)=false:=decide_eq_false (by omega)
  clear hsg
  go_wp2
  go_ret
  exact ⟨rfl,HB3.out⟩
 .rw [h1]
  subst hR h2
  have q1:¬(p.value.length:Int)<=64:=by omega
  have d1:decide ((p.value.length:Int)<=64)=false:=decide_eq_false q1
  clear h1 h3
  go_wp2_with fail
  refine (HPL.out _ HB1.out).mono ?_
  rintro e w3 ⟨z3,rfl,hpl,hb3⟩
  have hsg:=HSG.out z3 hpl
  have HB3:=hid (HBB.out.trans (hb3.mono HBB.out.size))
  have HB13:=hid (thenB_ HB1.out hb3)
  clear hpl hb3 c0 c1 c2
  obtain ⟨c0,c1,c2⟩:=HK0.out _ HB13.out
  obtain rfl:z3=-1:=by
   rcases hsg with ⟨h,_⟩|⟨_,h⟩
   .cases h
   .exact h
  clear hsg
  go_wp2
  go_ret
  exact ⟨rfl,HB3.out⟩
 .rw [h1]
  subst hR h2
  have q1:(p.value.length:Int)<=64:=by omega
  have d1:decide ((p.value.length:Int)<=64)=true:=decide_eq_true q1
  subst h4
  clear h1 h3
  go_wp2_with fail
  refine (HPL.out _ HB1.out).mono ?_
  rintro e w3 ⟨z3,rfl,hpl,hb3⟩
  have hsg:=HSG.out z3 hpl
  have HB3:=hid (HBB.out.trans (hb3.mono HBB.out.size))
  have HB13:=hid (thenB_ HB1.out hb3)
  clear hpl hb3 c0 c1 c2
  obtain ⟨c0,c1,c2⟩:=HK0.out _ HB13.out
  obtain rfl:z3=-1:=by
   rcases hsg with ⟨h,_⟩|⟨_,h⟩
   .cases h
   .exact h
  clear hsg
  go_wp2
  go_ret
  exact ⟨rfl,HB3.out⟩
 .rw [h1]
  subst hR h2
  have q1:(p.value.length:Int)<=64:=by omega
  have d1:decide ((p.value.length:Int)<=64)=true:=decide_eq_true q1
  subst h4
  have q5:=emp_not h6
  have HH5:=hid h5
  clear h1 h3 h5 h6
  go_wp2_with fail
  refine (HPL.out _ HB1.out).mono ?_
  rintro e w3 ⟨z3,rfl,hpl,hb3⟩
  have hsg:=HSG.out z3 hpl
  have HB3:=hid (HBB.out.trans (hb3.mono HBB.out.size))
  have HB13:=hid (thenB_ HB1.out hb3)
  clear hpl hb3 c0 c1 c2
  obtain ⟨c0,c1,c2⟩:=HK0.out _ HB13.out
  obtain rfl:z3=-1:=by
   rcases hsg with ⟨h,_⟩|⟨_,h⟩
   .cases h
   .exact h
  clear hsg
  rw [HH5.out] at c2
  go_wp2
  go_ret
  exact ⟨rfl,HB3.out⟩
 .rw [h1]
  subst hR h2
  have q1:(p.value.length:Int)<=64:=by omega
  have d1:decide ((p.value.length:Int)<=64)=true:=decide_eq_true q1
  subst h4
  have HH5:=hid h5
  clear h1 h3 h5
  go_wp2_with fail
  refine (HPL.out _ HB1.out).mono ?_
  rintro e w3 ⟨z3,rfl,hpl,hb3⟩
  have hsg:=HSG.out z3 hpl
  have HB3:=hid (HBB.out.trans (hb3.mono HBB.out.size))
  have HB13:=hid (thenB_ HB1.out hb3)
  clear hpl hb3 c0 c1 c2
  obtain ⟨c0,c1,c2⟩:=HK0.out _ HB13.out
  obtain rfl:z3=-1:=by
   rcases hsg with ⟨h,_⟩|⟨_,h⟩
   .cases h
   .exact h
  clear hsg
  rw [HH5.out] at c2
  go_wp2
  go_ret
  exact ⟨rfl,HB3.out⟩
 .rw [h1]
  subst hR h2
  have q1:(p.value.length:Int)<=64:=by omega
  have d1:decide ((p.value.length:Int)<=64)=true:=decide_eq_true q1
  subst h4
  have q5:=emp_is h6
  have HH5:=hid h5
  clear h1 h3 h5 h6
  go_wp2_with fail
  refine (HPL.out _ HB1.out).mono ?_
  rintro e w3 ⟨z3,rfl,hpl,hb3⟩
  have hsg:=HSG.out z3 hpl
  have HB3:=hid (HBB.out.trans (hb3.mono HBB.out.size))
  have HB13:=hid (thenB_ HB1.out hb3)
  clear hpl hb3 c0 c1 c2
  obtain ⟨c0,c1,c2⟩:=HK0.out _ HB13.out
  obtain rfl:z3=-1:=by
   rcases hsg with ⟨h,_⟩|⟨_,h⟩
   .cases h
   .exact h
  clear hsg
  rw [HH5.out] at c2
  go_wp2
  go_ret
  exact ⟨rfl,HB3.out⟩
theorem word_or (s:T):wordB s=(tokB s || hostB (low s)):=by
 unfold wordB
 congr 1
 have hl:(low s).length=s.length:=by unfold low;simp
 cases h:hostB (low s)
 .simp
 .have h9:=h
  unfold hostB at h9
  simp only [Bool.and_eq_true,decide_eq_true_eq] at h9
  have h1:s.length<=64:=by have:=h9.1.1.2;omega
  have h2:s≠[]:=fun e=>h9.1.1.1 (by rw [e];rfl)
  simp [h1,h2]
set_option maxHeartbeats 2000000 in
theorem qWord_any (s:T) (w:World) (hs:s.length<=140737488351232):Calls Tryz.prog 114 #[.string (str s)] w (BlPost (wordB s) w):=by
 have hz:(str s).size=s.length:=rfl
 have HTK:Hid (∀ W,Calls Tryz.prog 130 #[.string (str s)] W fun e w'=>e=.returned (.bool (tokB s))/\W=w'):=hid (fun W=>rtoken_any s W (by omega))
 have HL:Hid (∀ W,Calls Tryz.prog 71 #[.string (str s)] W (LowPost (str s) W)):=hid (fun W=>rLower_any (str s) W hs)
 have HO:Hid (∀ W,Calls Tryz.prog 109 #[.string (lowS (str s))] W fun e w'=>e=.returned (.bool (hostB (low s)))/\Below W.heap.size W w'):=hid (fun W=>rHost_any (lowS (str s)) W (by
  have:(lowS (str s)).size=s.length:=by show (low s).length=_;unfold low;simp
  omega))
 have HX:=hid (word_or s)
 unfold BlPost
 rw [HX.out]
 clear HX hz hs
 generalize hostB (low s)=R at *
 generalize tokB s=tk at *
 cases tk with
 | true =>
   go_enter Tryz.func114,Tryz.ntmps114
   go_wp2_with fail
   refine (HTK.out _).mono ?_
   rintro e w1 ⟨rfl,rfl⟩
   go_wp2
   go_ret
   exact ⟨rfl,Below.refl _ _⟩
 | false =>
   go_enter Tryz.func114,Tryz.ntmps114
   go_wp2_with fail
   refine (HTK.out _).mono ?_
   rintro e w1 ⟨rfl,rfl⟩
   go_wp2_with fail
   refine (HL.out _).mono ?_
   rintro e w1 ⟨rfl,hb1⟩
   have HB1:=hid hb1
   clear hb1
   go_wp2_with fail
   refine (HO.out _).mono ?_
   rintro e w2 ⟨rfl,hb2⟩
   have HB2:=hid (HB1.out.trans (hb2.mono HB1.out.size))
   clear hb2
   go_wp2
   go_ret
   exact ⟨rfl,HB2.out⟩
set_option maxRecDepth 100000 in
set_option maxHeartbeats 4000000 in
theorem qText_any {l:List Par} {A:Option Addr} {c B:Nat} {w:World} (hB:B<=w.heap.size) (hr:RdB w B 3 l.length A (rows parC l)) (hl:l.length<=c) (hs:∀ q∈l,ParZ q) :
 Calls Tryz.prog 153 #[.slice A l.length c] w (TxPost l w):=by
 by_cases h16:16<l.length
 .have HX:=hid (textE_many h16)
  have q1:(16:Int)<l.length:=by omega
  have d1:decide ((16:Int)<l.length)=true:=decide_eq_true q1
  clear hr hl hs h16
  go_enter Tryz.func153,Tryz.ntmps153
  go_wp2
  go_ret2
  exact ⟨⟨#[]⟩,HX.out.symm▸rfl,Below.refl _ _⟩
 .have q1:¬(16:Int)<l.length:=by omega
  have d1:decide ((16:Int)<l.length)=false:=decide_eq_false q1
  have H16:=hid h16
  have HR:=hid hr
  have HS:=hid hs
  have HLC:=hid hl
  clear hr hs h16 hl
  go_enter Tryz.func153,Tryz.ntmps153
  go_wp2
  clear q1 d1
  go_loopw [4,5] (fun v i wr=>∃ k:Nat,k<=l.length/\i=.int .i64 k/\TxRel l w k v wr) (fun _ i _=>l.length-(intOf i).toNat)
  case atStart=>exact ⟨0,by omega,rfl,⟨⟨⟨#[]⟩,rfl,Nat.zero_le _⟩,rfl,Below.refl _ _⟩⟩
  case round =>
   obtain ⟨k,hk,rfl,⟨z,rfl,hz⟩,hnb,hb⟩:=hrel
   have HNB:=hid hnb
   have HB:=hid hb
   have hsz:=hb.size
   clear hnb
   have hk16:k<=16:=by have:=H16.out;omega
   by_cases hlt:k<l.length
   .have hps:=HS.out _ (List.getElem_mem hlt)
    obtain ⟨gb,off,rfl,hgb,_,_,_⟩:=PrmB.at_ (HR.out.below (hb.mono hB)) hlt
    have x0:(0:Int)<=k:=by omega
    have x1:(k:Int)<l.length:=by omega
    have x2:(k:Int)<=c:=by have:=HLC.out;omega
    have x3:k<=c:=by have:=HLC.out;omega
    have hlk:(l.take k).length=k:=by rw [List.length_take];omega
    have HMY:Hid (∀ W,Below wr.heap.size wr W->Calls Tryz.prog 115 #[.slice (some ⟨gb,off,none⟩) k c,.agg #[.string (str l[k].name),.string (str l[k].value),.bool l[k].has]] W (BlPost (!badP (l.take k) l[k]) W)):=hid (fun W hW=>by
     have h9:=qMay_any (l:=l.take k) (p:=l[k]) (c:=c) (w:=W) (Nat.le_trans hB (Nat.le_trans hsz hW.size)) ((HR.out.below ((hb.trans (hW.mono hsz)) |>.mono hB)).take3 hk) (by unfold maxLen;omega) (fun q hq=>HS.out q (List.mem_of_mem_take hq)) hps
     rw [hlk] at h9
     exact h9)
    have HK0:Hid (∀ W,Below wr.heap.size wr W->W.cell? ⟨gb,off+k*3,none⟩=some (.string (str l[k].name))/\W.cell? ⟨gb,off+k*3+1,none⟩=some (.string (str l[k].value))/\W.cell? ⟨gb,off+k*3+2,none⟩=some (.bool l[k].has)):=hid (fun W h=>by
     obtain ⟨gb',off',e,_,a,b,d⟩:=PrmB.at_ (HR.out.below ((hb.trans (h.mono hsz)).mono hB)) hlt
     injection e with e
     injection e with e1 e2
     subst e1 e2
     exact ⟨a,b,d⟩)
    have HBW:Hid (∀ W,Below wr.heap.size wr W->Below w.heap.size w W):=hid (fun W h=>hb.trans (h.mono hsz))
    have HXN:Hid (badP (l.take k) l[k]=false->badAt [] l=badAt (l.take (k+1)) (l.drop (k+1))):=hid (badAt_next HNB.out hlt)
    have HXH:Hid (badP (l.take k) l[k]=true->badAt [] l=true):=hid (badAt_hit HNB.out hlt)
    have HNO:Hid (badP (l.take k) l[k]=false->(str l[k].name).size<=64/\(str l[k].value).size<=64):=hid bad_no
    have HWD:Hid (∀ W,Calls Tryz.prog 114 #[.string (str l[k].value)] W (BlPost (wordB l[k].value) W)):=hid (fun W=>qWord_any l[k].value W (by have:=hps.v;omega))
    have HQU:Hid (∀ W,Calls Tryz.prog 145 #[.string (str l[k].value)] W (QuoPost l[k].value W)):=hid (fun W=>qQuote_any l[k].value W hps.v)
    obtain ⟨zq,hzq,hzl⟩:=quoV_is l[k].value
    unfold QuoPost at HQU
    rw [hzq] at HQU
    have HZL:Hid (zq.size<=2*(str l[k].value).size+2):=hid hzl
    clear hb hzq hzl hps hgb hlk
    generalize str l[k].name=nm at *
    generalize wordB l[k].value=wd at *
    generalize str l[k].value=vl at *
    generalize quoN l[k].value=qn at *
    generalize badP (l.take k) l[k]=bd at *
    generalize l[k].has=hs at *
    obtain ⟨c0,c1,c2⟩:=HK0.out _ (Below.refl _ _)
    have HX0:Hid (Below wr.heap.size wr wr.drew):=hid (Below.refl _ _).drew
    go_upto_region 7 with (fail)
    go_region_held3 (fun w'=>w'.cell? ⟨gb,off+k*3,none⟩=some (.string nm)/\w'.cell? ⟨gb,off+k*3+1,none⟩=some (.string vl)/\w'.cell? ⟨gb,off+k*3+2,none⟩=some (.bool hs)) (first|exact HK0.out _ HB1.out|exact HK0.out _ (Below.refl _ _)|exact HK0.out _ (Below.refl _ _).drew) (first|(go_at_call 115;refine (HMY.out _ HX0.out).mono ?_;rintro e w1 ⟨rfl,hb1⟩;have HB1:=hid (thenB_ HX0.out hb1);clear hb1))
    all_goals
     clear c0 c1 c2 HMY
     obtain ⟨c0,c1,c2⟩:=HK0.out _ HB1.out
     have HBB:=hid (HBW.out _ HB1.out)
     cases bd with
     | true =>
       have HX:Hid (textE l=34):=hid (textE_bad H16.out (HXH.out rfl))
       go_wp2
       go_ret2
       exact ⟨⟨#[]⟩,HX.out.symm▸rfl,HBB.out⟩
     | false =>
       have HX:=hid (HXN.out rfl)
       obtain ⟨hn64,hv64⟩:=HNO.out rfl
       have ha1:=fun W=>add_b (a:=z) (b:=⟨#[59]⟩) (by show z.size+1<=_;omega) W
       have ha2:=fun W=>add_b (a:=z++⟨#[59]⟩) (b:=nm) (by rw [size_add];show z.size+1+nm.size<=_;omega) W
       have hz2:((z++⟨#[59]⟩)++nm).size<=300*k+65:=by rw [size_add,size_add];show z.size+1+nm.size<=_;omega
       generalize hz11:z++(⟨#[59]⟩:ByteArray)=z11 at *
       generalize hz12:z11++nm=z2 at *
       clear hz11 hz12
       cases hs with
       | false =>
         go_wp2
         go_roundw
         case rel=>exact ⟨k+1,by omega,by go_num,⟨⟨z2,rfl,by omega⟩,HX.out,HBB.out⟩⟩
         case measure=>simp [intOf] <;> omega
       | true =>
         have HZL2:=HZL.out
         have hb1:=fun W=>add_b (a:=z2) (b:=⟨#[61]⟩) (by show z2.size+1<=_;omega) W
         have hb2:=fun W=>add_b (a:=z2++⟨#[61]⟩) (b:=vl) (by rw [size_add];show z2.size+1+vl.size<=_;omega) W
         have hq2:=fun W=>add_b (a:=z2++⟨#[61]⟩) (b:=zq) (by rw [size_add];show z2.size+1+zq.size<=_;omega) W
         have hz3:((z2++⟨#[61]⟩)++vl).size<=300*k+200:=by rw [size_add,size_add];show z2.size+1+vl.size<=_;omega
         have hz4:((z2++⟨#[61]⟩)++zq).size<=300*k+200:=by rw [size_add,size_add];show z2.size+1+zq.size<=_;omega
         generalize hz20:z2++(⟨#[61]⟩:ByteArray)=z21 at *
         generalize hz21:z21++vl=z3 at *
         generalize hz22:z21++zq=z4 at *
         clear hz20 hz21 hz22
         go_wp2_with fail
         refine (HWD.out _).mono ?_
         rintro e w2 ⟨rfl,hb⟩
         have HB2:=hid (thenB_ HB1.out hb)
         have HBB2:=hid (HBW.out _ HB2.out)
         clear hb c0 c1 c2
         obtain ⟨c0,c1,c2⟩:=HK0.out _ HB2.out
         cases wd with
         | true =>
           go_wp2
           go_roundw
           case rel=>exact ⟨k+1,by omega,by go_num,⟨⟨z3,rfl,by omega⟩,HX.out,HBB2.out⟩⟩
           case measure=>simp [intOf] <;> omega
         | false =>
           go_wp2_with fail
           refine (HQU.out _).mono ?_
           rintro e w3 ⟨rfl,hb⟩
           have HB3:=hid (HBW.out _ (thenB_ HB2.out hb))
           clear hb
           go_wp2
           go_roundw
           case rel=>exact ⟨k+1,by omega,by go_num,⟨⟨z4,rfl,by omega⟩,HX.out,HB3.out⟩⟩
           case measure=>simp [intOf] <;> omega
   .obtain rfl:k=l.length:=by omega
    have HX:Hid (textE l=0):=hid (textE_ok H16.out (badAt_end HNB.out rfl))
    go_wp2
    go_ret2
    exact ⟨z,HX.out.symm▸rfl,HB.out⟩
set_option maxRecDepth 100000 in
set_option maxHeartbeats 4000000 in
theorem qCheck_any {a:AddrP} {vp vh va:Value} {B:Nat} {w:World} (hB:B<=w.heap.size) (h:AdB w B a vp vh va) (hz:AdZ a) :
 Calls Tryz.prog 131 #[.agg (addrA a vp vh va)] w (AckPost a w):=by
 obtain ⟨w0,hw0⟩:∃ w0,w.alloc (.cells (addrA a vp vh va) 34)=w0:=⟨_,rfl⟩
 have hb0:Below w.heap.size w w0:=hw0▸(Below.refl _ _).alloc (Nat.le_refl _) _
 have hk0:Blk w0 w.heap.size 34 (addrA a vp vh va):=hw0▸Blk.new w _ _
 have HQ:Hid (∀ W,Calls Tryz.prog 145 #[.string (str a.display)] W (QuoPost a.display W)):=hid (fun W=>qQuote_any a.display W hz.d)
 have HC:Hid (∀ W,Below w0.heap.size w0 W->Calls Tryz.prog 78 #[uriV a.uri vp vh] W (CheckPost a.uri W)):=hid (fun W hW=>rCheck_any (Nat.le_trans hB (Nat.le_trans hb0.size hW.size)) (h.p.prm.below ((hb0.mono hB).trans (hW.mono (Nat.le_trans hB hb0.size)))) (h.h.prm.below ((hb0.mono hB).trans (hW.mono (Nat.le_trans hB hb0.size)))) hz.u)
 obtain ⟨A,c,rfl,hlc,_,hra⟩:=h.a
 have HT:Hid (∀ W,Below w0.heap.size w0 W->Calls Tryz.prog 153 #[.slice A a.params.length c] W (TxPost a.params W)):=hid (fun W hW=>qText_any (Nat.le_trans hB (Nat.le_trans hb0.size hW.size)) (hra.below ((hb0.mono hB).trans (hW.mono (Nat.le_trans hB hb0.size)))) hlc hz.p)
 obtain ⟨z,hq,_⟩:=quoV_is a.display
 have HW:=hid (addr_ways a)
 have HB0:=hid hb0
 have HK0:Hid (∀ W,Below w0.heap.size w0 W->Blk W w.heap.size 34 (addrA a vp vh (.slice A a.params.length c))):=hid (fun W hW=>hk0.fr (Fr.of_below (F:=fun _=>False) hW) (fun h=>h))
 unfold QuoPost at HQ
 rw [hq] at HQ
 unfold uriV CheckPost at HC
 unfold TxPost at HT
 unfold AckPost addrA
 unfold addrA at HK0 hw0 hk0
 have hdl:(str a.display).size=a.display.length:=rfl
 have HDL:=hid hdl
 generalize quoN a.display=qn at *
 generalize addrE a=R at *
 generalize checkE a.uri=ce at *
 generalize textE a.params=te at *
 have c0:=hk0.cell 0
 clear hk0 h hra hlc hz hB hb0 hq
 go_enter Tryz.func131,Tryz.ntmps131
 go_upto_region 1 with (fail)
 try rw [hw0]
 clear hw0
 go_wp2_with fail
 refine (HQ.out _).mono ?_
 rintro e w1 ⟨rfl,hb1⟩
 have HB1:=hid hb1
 clear hb1 c0
 have hk1:=HK0.out _ HB1.out
 have c0:=hk1.cell 0
 have c1:=hk1.cell 1
 have c2:=hk1.cell 2
 have c3:=hk1.cell 3
 have c4:=hk1.cell 4
 have c5:=hk1.cell 5
 have c6:=hk1.cell 6
 clear hk1
 have HBB:=hid (HB0.out.trans (HB1.out.mono HB0.out.size))
 rcases HW.out with ⟨h1,hR⟩|⟨h1,h2,hR⟩|⟨h1,h2,h3,hR⟩|⟨h1,h2,h3,hR⟩
 .subst h1 hR
  go_wp2
  all_goals
   go_ret
   exact ⟨rfl,HBB.out⟩
 .have q1:(64:Int)<a.display.length:=by omega
  have d1:decide ((64:Int)<a.display.length)=true:=decide_eq_true q1
  subst h1 hR
  clear h2
  go_wp2
  go_ret
  exact ⟨rfl,HBB.out⟩
 .have q1:¬(64:Int)<a.display.length:=by omega
  have d1:decide ((64:Int)<a.display.length)=false:=decide_eq_false q1
  have d2:(ce != 0)=true:=by simpa using h3
  subst h1 hR
  clear h2 h3
  go_wp2_with fail
  refine (HC.out _ HB1.out).mono ?_
  rintro e w2 ⟨rfl,hb2⟩
  have HB2:=hid (thenB_ HB1.out hb2)
  clear hb2 c0 c1 c2 c3 c4 c5 c6
  have hk2:=HK0.out _ HB2.out
  have c1:=hk2.cell 1
  have c2:=hk2.cell 2
  have c3:=hk2.cell 3
  have c4:=hk2.cell 4
  have c5:=hk2.cell 5
  have c6:=hk2.cell 6
  clear hk2
  go_wp2_with fail
  refine (HC.out _ HB2.out).mono ?_
  rintro e w3 ⟨rfl,hb3⟩
  have HB3:=hid (HB0.out.trans ((thenB_ HB2.out hb3).mono HB0.out.size))
  clear hb3
  go_wp2
  go_ret
  exact ⟨rfl,HB3.out⟩
 .have q1:¬(64:Int)<a.display.length:=by omega
  have d1:decide ((64:Int)<a.display.length)=false:=decide_eq_false q1
  subst h1 h3 hR
  clear h2
  go_wp2_with fail
  refine (HC.out _ HB1.out).mono ?_
  rintro e w2 ⟨rfl,hb2⟩
  have HB2:=hid (thenB_ HB1.out hb2)
  clear hb2 c0 c1 c2 c3 c4 c5 c6
  have hk2:=HK0.out _ HB2.out
  have c7:=hk2.cell 7
  clear hk2
  go_wp2_with fail
  refine (HT.out _ HB2.out).mono ?_
  rintro e w3 ⟨z3,rfl,hb3⟩
  have HB3:=hid (HB0.out.trans ((thenB_ HB2.out hb3).mono HB0.out.size))
  clear hb3
  go_wp2
  go_ret
  exact ⟨rfl,HB3.out⟩
end Go.Proofs.YthkadehlclcggaaGreatDoor
