/- Chapters 16, 19: tokens, set-ups, seconds. -/
import Derived.Test.YthkadehlclcggaaGreatDoorGx03
import Derived.Test.YthkadehlclcggaaGreatDoorGx06
import Derived.Test.YthkadehlclcggaaGreatDoorGx02
import Derived.BigQuiet
namespace Go.Proofs.YthkadehlclcggaaGreatDoor
set_option linter.unusedSimpArgs false
set_option linter.unusedVariables false
open Go.RowKit
open Go.Lib (hid)
theorem tst8 (c:UInt8):tstB 8 c=tok c:=by
 have:=all_u8 (p:=fun c=>tstB 8 c == tok c) (by decide +kernel) c
 exact eq_of_beq this
theorem all8 (s:T):allB (tstB 8) (str s)=s.all tok:=by
 have:(tstB 8)=tok:=funext tst8
 unfold allB
 rw [this]
 rfl
theorem tokB_no1 {s:T} (h:s=[]):tokB s=false:=by subst h;rfl
theorem tokB_no2 {s:T} (h:64<s.length):tokB s=false:=by
 unfold tokB
 rw [decide_eq_false (p:=s.length<=64) (by omega)]
 simp
theorem tokB_is {s:T} (h1:s≠[]) (h2:s.length<=64):tokB s=s.all tok:=by
 have:1<=s.length:=by cases s with
  | nil=>exact absurd rfl h1
  | cons a t=>simp
 unfold tokB
 rw [decide_eq_true this,decide_eq_true h2]
 simp
theorem size_nil {s:T}:(str s).toList.isEmpty=decide (s=[]):=by
 rw [Lib.toList_data]
 cases s <;> rfl
theorem token_any (s:T) (w:World) (hs:s.length<=9223372036854775807):Calls Tryz.prog 63 #[.string (str s)] w fun e w'=>e=.returned (.bool (tokB s))/\w=w':=by
 have HA:Hid (∀ W,Calls Tryz.prog 101 #[.string (str s),.int .i64 8] W fun e w'=>e=.returned (.bool (s.all tok))/\W=w'):=hid (fun W=>by
  have h:=all_any (str s) 8 W hs
  rw [all8] at h
  exact h)
 have hz:(str s).size=s.length:=rfl
 by_cases h1:s=[]
 .rw [tokB_no1 h1]
  subst h1
  have q0:(str []).toList=[]:=by rw [Lib.toList_data];rfl
  clear HA
  go_enter Tryz.func63,Tryz.ntmps63
  go_wp2
  go_ret
  exact ⟨rfl,rfl⟩
 .have q0:(str s).toList.isEmpty=false:=by rw [size_nil];exact decide_eq_false h1
  by_cases h2:s.length<=64
  .rw [tokB_is h1 h2]
   have q1:(s.length:Int)<=64:=by omega
   generalize s.all tok=R at *
   clear h1 h2
   go_enter Tryz.func63,Tryz.ntmps63
   go_wp2_with fail
   refine (HA.out _).mono ?_
   rintro e w1 ⟨rfl,rfl⟩
   go_wp2
   go_ret
   exact ⟨rfl,rfl⟩
  .rw [tokB_no2 (by omega)]
   have q1:¬(s.length:Int)<=64:=by omega
   clear h1 h2 HA
   go_enter Tryz.func63,Tryz.ntmps63
   go_wp2
   go_ret
   exact ⟨rfl,rfl⟩
theorem rtoken_any (s:T) (w:World) (hs:s.length<=9223372036854775807):Calls Tryz.prog 130 #[.string (str s)] w fun e w'=>e=.returned (.bool (tokB s))/\w=w':=by
 have HA:Hid (∀ W,Calls Tryz.prog 142 #[.string (str s),.int .i64 8] W fun e w'=>e=.returned (.bool (s.all tok))/\W=w'):=hid (fun W=>by
  have h:=rall_any (str s) 8 W hs
  rw [all8] at h
  exact h)
 have hz:(str s).size=s.length:=rfl
 by_cases h1:s=[]
 .rw [tokB_no1 h1]
  subst h1
  clear HA
  go_enter Tryz.func130,Tryz.ntmps130
  go_wp2
  go_ret
  exact ⟨rfl,rfl⟩
 .have q0:(1:Int)<=s.length:=by cases s with
   | nil=>exact absurd rfl h1
   | cons a t=>simp;omega
  by_cases h2:s.length<=64
  .rw [tokB_is h1 h2]
   have q1:(s.length:Int)<=64:=by omega
   generalize s.all tok=R at *
   clear h1 h2
   go_enter Tryz.func130,Tryz.ntmps130
   go_wp2_with fail
   refine (HA.out _).mono ?_
   rintro e w1 ⟨rfl,rfl⟩
   go_wp2
   go_ret
   exact ⟨rfl,rfl⟩
  .rw [tokB_no2 (by omega)]
   have q1:¬(s.length:Int)<=64:=by omega
   clear h1 h2 HA
   go_enter Tryz.func130,Tryz.ntmps130
   go_wp2
   go_ret
   exact ⟨rfl,rfl⟩
theorem conf_box {c:Conf} {w w0:World} (h:w.alloc (.cells #[.string (str c.host),.int .i64 c.calls,.int .i64 c.pubs,.int .i64 c.subs,.int .i64 c.least,.int .i64 c.most,.int .i64 c.usual] 26)=w0) :
 Below w.heap.size w w0/\Blk w0 w.heap.size 26 #[.string (str c.host),.int .i64 c.calls,.int .i64 c.pubs,.int .i64 c.subs,.int .i64 c.least,.int .i64 c.most,.int .i64 c.usual]:=by
 subst h
 exact ⟨(Below.refl _ _).alloc (Nat.le_refl _) _,Blk.new w _ _⟩
theorem right_ways (c:Conf):(c.pubs<1/\rightB c=false)\/(1<=c.pubs/\200<c.pubs/\rightB c=false)\/(1<=c.pubs/\c.pubs<=200/\c.subs<1/\rightB c=false)\/(1<=c.pubs/\c.pubs<=200/\1<=c.subs/\200<c.subs/\rightB c=false) \/
 (1<=c.pubs/\c.pubs<=200/\1<=c.subs/\c.subs<=200/\c.calls<1/\rightB c=false)\/(1<=c.pubs/\c.pubs<=200/\1<=c.subs/\c.subs<=200/\1<=c.calls/\200<c.calls/\rightB c=false) \/
 ((1<=c.pubs/\c.pubs<=200/\1<=c.subs/\c.subs<=200/\1<=c.calls/\c.calls<=200)/\((c.least<1/\rightB c=false)\/(1<=c.least/\c.usual<c.least/\rightB c=false)\/(1<=c.least/\c.least<=c.usual/\c.most<c.usual/\rightB c=false)\/(1<=c.least/\c.least<=c.usual/\c.usual<=c.most/\2147483647<c.most/\rightB c=false) \/
   (1<=c.least/\c.least<=c.usual/\c.usual<=c.most/\c.most<=2147483647/\rightB c=true))):=by
 have hf:¬(1<=c.pubs/\c.pubs<=200/\1<=c.subs/\c.subs<=200/\1<=c.calls/\c.calls<=200/\1<=c.least/\c.least<=c.usual/\c.usual<=c.most/\c.most<=2147483647)->rightB c=false:=fun h=>by
  rw [Bool.eq_false_iff]
  intro q
  unfold rightB at q
  simp only [Bool.and_eq_true,decide_eq_true_eq] at q
  exact h ⟨q.1.1.1.1.1.1.1.1.1,q.1.1.1.1.1.1.1.1.2,q.1.1.1.1.1.1.1.2,q.1.1.1.1.1.1.2,q.1.1.1.1.1.2,q.1.1.1.1.2,q.1.1.1.2,q.1.1.2,q.1.2,q.2⟩
 have ht:(1<=c.pubs/\c.pubs<=200/\1<=c.subs/\c.subs<=200/\1<=c.calls/\c.calls<=200/\1<=c.least/\c.least<=c.usual/\c.usual<=c.most/\c.most<=2147483647)->rightB c=true:=fun h=>by
  obtain ⟨h1,h2,h3,h4,h5,h6,h7,h8,h9,h10⟩:=h
  unfold rightB
  simp [h1,h2,h3,h4,h5,h6,h7,h8,h9,h10]
 cases hr:rightB c with
 | true =>
   have:¬¬(1<=c.pubs/\c.pubs<=200/\1<=c.subs/\c.subs<=200/\1<=c.calls/\c.calls<=200/\1<=c.least/\c.least<=c.usual/\c.usual<=c.most/\c.most<=2147483647):=fun q=>by rw [hf q] at hr;cases hr
   simp only [and_true,and_false,or_false,false_or,reduceCtorEq]
   omega
 | false =>
   have:¬(1<=c.pubs/\c.pubs<=200/\1<=c.subs/\c.subs<=200/\1<=c.calls/\c.calls<=200/\1<=c.least/\c.least<=c.usual/\c.usual<=c.most/\c.most<=2147483647):=fun q=>by rw [ht q] at hr;cases hr
   simp only [and_true,and_false,or_false,false_or,reduceCtorEq]
   omega
set_option maxHeartbeats 8000000 in
theorem right_any (c:Conf) (w:World):Calls Tryz.prog 61 #[.agg #[.string (str c.host),.int .i64 c.calls,.int .i64 c.pubs,.int .i64 c.subs,.int .i64 c.least,.int .i64 c.most,.int .i64 c.usual]] w fun e w'=>e=.returned (.bool (rightB c))/\Below w.heap.size w w':=by
 obtain ⟨w0,hw0⟩:∃ w0,w.alloc (.cells #[.string (str c.host),.int .i64 c.calls,.int .i64 c.pubs,.int .i64 c.subs,.int .i64 c.least,.int .i64 c.most,.int .i64 c.usual] 26)=w0:=⟨_,rfl⟩
 obtain ⟨hb,hk⟩:=conf_box hw0
 have HB:=hid hb
 have c0:=hk.cell 0
 have c1:=hk.cell 1
 have c2:=hk.cell 2
 have c3:=hk.cell 3
 have c4:=hk.cell 4
 have c5:=hk.cell 5
 have c6:=hk.cell 6
 have HW:=hid (right_ways c)
 generalize rightB c=R at *
 generalize c.pubs=x1 at *
 generalize c.subs=x2 at *
 generalize c.calls=x3 at *
 generalize c.least=x4 at *
 generalize c.usual=x5 at *
 generalize c.most=x6 at *
 clear hb hk
 rcases HW.out with ⟨h1,rfl⟩|⟨h1,h2,rfl⟩|⟨h1,h2,h3,rfl⟩|⟨h1,h2,h3,h4,rfl⟩|⟨h1,h2,h3,h4,h5,rfl⟩|⟨h1,h2,h3,h4,h5,h6,rfl⟩|⟨⟨h1,h2,h3,h4,h5,h6⟩,⟨g1,rfl⟩|⟨g1,g2,rfl⟩|⟨g1,g2,g3,rfl⟩|⟨g1,g2,g3,g4,rfl⟩|⟨g1,g2,g3,g4,rfl⟩⟩
 all_goals
  clear HW
  go_enter Tryz.func61,Tryz.ntmps61
  go_wp2
  go_ret
  first
  | exact ⟨rfl,HB.out⟩
  | (refine ⟨?_,HB.out⟩;show Ending.returned (.bool (decide (x6<=2147483647)))=_;rw [decide_eq_false (by omega)])
theorem below_drewN {B:Nat} {a w:World} (h:Below B a w) (n:Nat):Below B a (w.drewN n):=⟨h.os,h.tape,h.output,h.size,h.block⟩
def secV (c:Conf) (a:Int):Value:=.tuple #[.int .i64 (secN c a),.bool (secK c a)]
theorem sec_ways (c:Conf) (a:Int):(a<0/\secV c a=.tuple #[.int .i64 c.usual,.bool true])\/(0<=a/\c.most<a/\secV c a=.tuple #[.int .i64 c.most,.bool true])\/(0<=a/\a<=c.most/\a=0/\secV c a=.tuple #[.int .i64 a,.bool true]) \/
 (0<=a/\a<=c.most/\a≠0/\c.least<=a/\secV c a=.tuple #[.int .i64 a,.bool true])\/(0<=a/\a<=c.most/\a≠0/\a<c.least/\secV c a=.tuple #[.int .i64 a,.bool false]):=by
 unfold secV secN secK
 by_cases h0:a<0
 .left;simp [h0]
 .by_cases h1:c.most<a
  .right;left;simp [h0,h1];omega
  .by_cases h2:a=0
   .right;right;left;simp [h0,h1,h2];omega
   .by_cases h3:c.least<=a
    .right;right;right;left;simp [h0,h1,h2,h3];omega
    .right;right;right;right;simp [h0,h1,h2,h3];omega
set_option maxHeartbeats 4000000 in
theorem seconds_any (c:Conf) (a:Int) (w:World):Calls Tryz.prog 36 #[.agg #[.string (str c.host),.int .i64 c.calls,.int .i64 c.pubs,.int .i64 c.subs,.int .i64 c.least,.int .i64 c.most,.int .i64 c.usual],.int .i64 a] w fun e w'=>e=.returned (secV c a)/\Below w.heap.size w w':=by
 obtain ⟨w0,hw0⟩:∃ w0,w.alloc (.cells #[.string (str c.host),.int .i64 c.calls,.int .i64 c.pubs,.int .i64 c.subs,.int .i64 c.least,.int .i64 c.most,.int .i64 c.usual] 26)=w0:=⟨_,rfl⟩
 obtain ⟨hb,hk⟩:=conf_box hw0
 have HB:=hid hb
 have c4:=hk.cell 4
 have c5:=hk.cell 5
 have c6:=hk.cell 6
 have HW:=hid (sec_ways c a)
 generalize secV c a=R at *
 generalize c.least=x4 at *
 generalize c.usual=x5 at *
 generalize c.most=x6 at *
 clear hb hk
 rcases HW.out with ⟨h1,rfl⟩|⟨h1,h2,rfl⟩|⟨h1,h2,rfl,rfl⟩|⟨h1,h2,h3,h4,rfl⟩|⟨h1,h2,h3,h4,rfl⟩
 all_goals
  clear HW
  go_enter Tryz.func36,Tryz.ntmps36
  first
  | (go_wp2;go_ret2;exact ⟨rfl,HB.out⟩)
  | (have hd:decide ((0:Int)=0)=true:=rfl
     have hd2:((0:Int) == 0)=true:=rfl
     go_wp2
     go_quiet (fail)
     go_wp2
     go_ret2
     exact ⟨rfl,below_drewN HB.out _⟩)
  | (have hd:decide (a=0)=false:=decide_eq_false h3
     have hd2:(a == 0)=false:=by simpa using h3
     go_wp2
     go_quiet (fail)
     go_wp2
     go_ret2
     exact ⟨rfl,below_drewN HB.out _⟩)
  | (have hd:decide (a=0)=false:=decide_eq_false h3
     have hd2:(a == 0)=false:=by simpa using h3
     go_wp2
     go_quiet (fail)
     go_wp2
     go_ret2
     refine ⟨?_,below_drewN HB.out _⟩
     first
     | (show Ending.returned (.tuple #[.int .i64 a,.bool (decide (x4<=a))])=_;rw [decide_eq_false (by omega)])
     | (simp only [Act.put,List.getElem_toArray,List.getElem_cons_zero,List.getElem_cons_succ,Array.getD_eq_getD_getElem?];simp;omega)
     | (show Ending.returned (.tuple #[.int .i64 a,.bool (decide (a>=x4))])=_;rw [decide_eq_false (by omega)])
     | (show Ending.returned (.tuple #[.int .i64 a,.bool (decide (x4<=a))])=_;rw [decide_eq_true (by omega)]))
set_option maxHeartbeats 4000000 in
theorem rseconds_any (c:Conf) (a:Int) (w:World):Calls Tryz.prog 18 #[.agg #[.string (str c.host),.int .i64 c.calls,.int .i64 c.pubs,.int .i64 c.subs,.int .i64 c.least,.int .i64 c.most,.int .i64 c.usual],.int .i64 a] w fun e w'=>e=.returned (secV c a)/\Below w.heap.size w w':=by
 obtain ⟨w0,hw0⟩:∃ w0,w.alloc (.cells #[.string (str c.host),.int .i64 c.calls,.int .i64 c.pubs,.int .i64 c.subs,.int .i64 c.least,.int .i64 c.most,.int .i64 c.usual] 26)=w0:=⟨_,rfl⟩
 obtain ⟨hb,hk⟩:=conf_box hw0
 have HB:=hid hb
 have c4:=hk.cell 4
 have c5:=hk.cell 5
 have c6:=hk.cell 6
 have HW:=hid (sec_ways c a)
 generalize secV c a=R at *
 generalize c.least=x4 at *
 generalize c.usual=x5 at *
 generalize c.most=x6 at *
 clear hb hk
 rcases HW.out with ⟨h1,rfl⟩|⟨h1,h2,rfl⟩|⟨h1,h2,rfl,rfl⟩|⟨h1,h2,h3,h4,rfl⟩|⟨h1,h2,h3,h4,rfl⟩
 all_goals
  clear HW
  go_enter Tryz.func18,Tryz.ntmps18
  first
  | (go_wp2;go_ret2;exact ⟨rfl,HB.out⟩)
  | (have hd:decide ((0:Int)=0)=true:=rfl
     have hd2:((0:Int) == 0)=true:=rfl
     go_wp2
     go_quiet (fail)
     go_wp2
     go_ret2
     exact ⟨rfl,below_drewN HB.out _⟩)
  | (have hd:decide (a=0)=false:=decide_eq_false h3
     have hd2:(a == 0)=false:=by simpa using h3
     go_wp2
     go_quiet (fail)
     go_wp2
     go_ret2
     exact ⟨rfl,below_drewN HB.out _⟩)
  | (have hd:decide (a=0)=false:=decide_eq_false h3
     have hd2:(a == 0)=false:=by simpa using h3
     go_wp2
     go_quiet (fail)
     go_wp2
     go_ret2
     refine ⟨?_,below_drewN HB.out _⟩
     first
     | (show Ending.returned (.tuple #[.int .i64 a,.bool (decide (x4<=a))])=_;rw [decide_eq_false (by omega)])
     | (simp only [Act.put,List.getElem_toArray,List.getElem_cons_zero,List.getElem_cons_succ,Array.getD_eq_getD_getElem?];simp;omega)
     | (show Ending.returned (.tuple #[.int .i64 a,.bool (decide (a>=x4))])=_;rw [decide_eq_false (by omega)])
     | (show Ending.returned (.tuple #[.int .i64 a,.bool (decide (x4<=a))])=_;rw [decide_eq_true (by omega)]))
end Go.Proofs.YthkadehlclcggaaGreatDoor
