/- Chapter 16 in plain Lean: documents; which may be. Chapter 16 in plain Lean: what Do and Expire do to the list. -/
import Derived.Test.YthkadehlclcggaaGreatDoorGx02
import Derived.Lib.SlTrimSet
import Derived.Test.YthkadehlclcggaaGreatDoorGx12
import Derived.Test.YthkadehlclcggaaGreatDoorGx13
import Derived.Lib.SlicesCompact
namespace Go.Proofs.YthkadehlclcggaaGreatDoor
set_option linter.unusedSimpArgs false
set_option linter.unusedVariables false
open Go.RowKit
def noteC (s:T):List Value:=[.string (str s)]
structure Conf where
 host:T
 calls:Int
 pubs:Int
 subs:Int
 least:Int
 most:Int
 usual:Int
def rightB (c:Conf):Bool:=decide (1<=c.pubs)&&decide (c.pubs<=200)&&decide (1<=c.subs)&&decide (c.subs<=200)&&decide (1<=c.calls)&&decide (c.calls<=200)&&decide (1<=c.least)&&decide (c.least<=c.usual)&&decide (c.usual<=c.most)&&decide (c.most<=2147483647)
def secN (c:Conf) (a:Int):Int:=if a<0 then c.usual else if c.most<a then c.most else a
def secK (c:Conf) (a:Int):Bool:=decide (a<0) || decide (c.most<a) || decide (a=0) || decide (c.least<=a)
def tokB (s:T):Bool:=decide (1<=s.length)&&decide (s.length<=64)&&s.all tok
theorem due_parts {l:List TM} (hs:l.Pairwise ah) (now:Int):rDueA l now=l.filter (fun t=>decide (t.1<=now))/\rDueB l now=l.filter (fun t=>decide (now<t.1)):=by
 induction l with
 | nil=>exact ⟨rfl,rfl⟩
 | cons t r ih =>
   rw [List.pairwise_cons] at hs
   have ih:=ih hs.2
   unfold rDueA rDueB at *
   by_cases h:t.1<=now
   .rw [List.takeWhile_cons_of_pos (by simpa using h),List.dropWhile_cons_of_pos (by simpa using h),List.filter_cons_of_pos (by simpa using h),List.filter_cons_of_neg (by simp;omega),ih.1,ih.2]
    exact ⟨rfl,rfl⟩
   .have hr:∀ s∈r,now<s.1:=fun s hs'=>by have:=hs.1 s hs';unfold ah at this;omega
    rw [List.takeWhile_cons_of_neg (by simpa using h),List.dropWhile_cons_of_neg (by simpa using h),List.filter_cons_of_neg (by simpa using h),List.filter_cons_of_pos (by simp;omega)]
    constructor
    .rw [List.filter_eq_nil_iff.2 (fun s hs'=>by have:=hr s hs';simp;omega)]
    .rw [List.filter_eq_self.2 (fun s hs'=>by have:=hr s hs';simp;omega)]
section
variable {c:Conf} {last now:Int}

theorem sec_lo (H:rightB c=true) (a:Int):0<=secN c a/\secN c a<=2147483647:=by
 unfold rightB at H
 simp only [Bool.and_eq_true,decide_eq_true_eq] at H
 unfold secN
 split
 .omega
 .split <;> omega
end
end Go.Proofs.YthkadehlclcggaaGreatDoor
