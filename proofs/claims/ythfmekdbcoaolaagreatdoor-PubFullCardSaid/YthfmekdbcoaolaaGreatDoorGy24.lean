/- Chapter 4: same.Host, rosterref04.Host. -/
import Derived.Test.YthfmekdbcoaolaaGreatDoorGy23
namespace Go.Proofs.YthfmekdbcoaolaaGreatDoor
set_option linter.unusedSimpArgs false
set_option linter.unusedVariables false
open Go.RowKit
open Go.Lib (hid)
def sipC (s:T):T:=sipT++58::s
theorem add_sip (s:T) (h:s.length<=99999990) (W:World):(Op.stringOp .add ⟨#[115,105,112,58]⟩ (str s)).run Tryz.prog W=.ok (.string (str (sipC s))) W:=add_str [115,105,112,58] s (by simp;omega) W
theorem host_err {s:T} {u:Uri} {er:Int} (h:parseE (sipC s)=(u,er)) (he:er≠0):hostE s=([],er):=by
 unfold hostE;unfold sipC at h;simp only [h];rw [if_pos he]
theorem host_no {s q:T} {u:Uri} {f:Int} (h:parseE (sipC s)=(u,0)) (hw:whoE u=(q,f)) (hn:f≠0\/q≠s):hostE s=([],31):=by
 unfold hostE;unfold sipC at h;simp only [h,hw];rw [if_neg (by simp),if_pos hn]
theorem host_ok {s:T} {u:Uri} (h:parseE (sipC s)=(u,0)) (hw:whoE u=(s,0)):hostE s=(u.host,0):=by
 unfold hostE;unfold sipC at h;simp only [h,hw];rw [if_neg (by simp),if_neg (by simp)]
def hostV (s:T):Value:=.tuple #[.string (str (hostE s).1),.int .i64 (hostE s).2]
theorem hostV_is {s:T} {r:T × Int} (h:hostE s=r):hostV s=.tuple #[.string (str r.1),.int .i64 r.2]:=by unfold hostV;rw [h]
def HostPost (s:T) (w:World) (e:Ending) (w':World):Prop:=e=.returned (hostV s)/\Below w.heap.size w w'
theorem rwho_call {u:Uri} {r:T × Int} (h:whoE u=r) (k:checkE u=0) {W:World} {A1 A2:Option Addr} {c1 c2:Nat} (h1:RdB W W.heap.size 3 u.params.length A1 (rows parC u.params)) (h2:RdB W W.heap.size 3 u.headers.length A2 (rows parC u.headers)) :
 Calls Tryz.prog 90 #[.agg #[.string (str u.scheme),.string (str u.user),.string (str u.host),.int .i64 u.port,.slice A1 u.params.length c1,.slice A2 u.headers.length c2]] W (fun e w'=>e=.returned (.tuple #[.string (str r.1),.int .i64 r.2])/\Below W.heap.size W w'):=by
 have:=rWho_any (u:=u) (vp:=.slice A1 u.params.length c1) (vh:=.slice A2 u.headers.length c2) (w:=W) (Nat.le_refl _) ⟨_,_,rfl,h1⟩ ⟨_,_,rfl,h2⟩ (uriS_ok k)
 unfold WhoPost at this
 rw [whoV_is h] at this
 exact this
set_option maxRecDepth 100000 in
set_option maxHeartbeats 4000000 in
theorem sHost_any {s:T} {w:World} (hs:s.length<=99999990):Calls Tryz.prog 63 #[.string (str s)] w (HostPost s w):=by
 have ha:=fun W=>add_sip s hs W
 obtain ⟨u,er,hr⟩:∃ u er,parseE (sipC s)=(u,er):=⟨_,_,rfl⟩
 obtain ⟨q,f,hw⟩:∃ q f,whoE u=(q,f):=⟨_,_,rfl⟩
 have HW:=hid (fun W=>parse_is (s:=str (sipC s)) hr (by show (sipC s).length<=_;simp [sipC,sipT];omega) W)
 have HER:Hid (er≠0->hostV s=.tuple #[.string ⟨#[]⟩,.int .i64 er]):=hid (fun he=>hostV_is (host_err hr he))
 have HNO:Hid (er=0->(f≠0\/q≠s)->hostV s=.tuple #[.string ⟨#[]⟩,.int .i64 31]):=hid (fun he hn=>hostV_is (host_no (u:=u) (he▸hr) hw hn))
 have HOK:Hid (er=0->f=0->q=s->hostV s=.tuple #[.string (str u.host),.int .i64 0]):=hid (fun he h1 h2=>hostV_is (host_ok (u:=u) (he▸hr) (by rw [hw,h1,h2])))
 have HWC:Hid (er=0->∀ (W:World) (A1 A2:Option Addr) (c1 c2:Nat),RdB W W.heap.size 3 u.params.length A1 (rows parC u.params)->RdB W W.heap.size 3 u.headers.length A2 (rows parC u.headers)->Calls Tryz.prog 95 #[.agg #[.string (str u.scheme),.string (str u.user),.string (str u.host),.int .i64 u.port,.slice A1 u.params.length c1,.slice A2 u.headers.length c2]] W (fun e w'=>e=.returned (.tuple #[.string (str q),.int .i64 f])/\Below W.heap.size W w')):=hid (fun he W A1 A2 c1 c2 h1 h2=>who_call hw ((parse_ok hr).elim (fun q=>q.2) (fun q=>absurd he q.1)) h1 h2)
 unfold HostPost
 generalize hostV s=VV at *
 generalize sipC s=S at *
 clear hr hw
 go_enter Tryz.func63,Tryz.ntmps63
 go_wp2_with fail
 refine (HW.out _).mono ?_
 rintro e w1 ⟨Ap,cp,Ah,ch,rfl,hp,hh,hb⟩
 have HB1:=hid hb
 have HP:=hid hp
 have HH:=hid hh
 clear hb hp hh ha
 have HBX:Hid (∀ o,Below w.heap.size w (w1.alloc o)):=hid (fun o=>thenB HB1.out ((Below.refl _ _).alloc (Nat.le_refl _) o))
 by_cases he:er=0
 .replace HNO:=hid (HNO.out he)
  replace HOK:=hid (HOK.out he)
  replace HWC:=hid (HWC.out he)
  subst he
  go_wp2_with fail
  obtain ⟨w2,hw2⟩:∃ w2,w1.alloc (.cells #[.string (str u.scheme),.string (str u.user),.string (str u.host),.int .i64 u.port,.slice Ap u.params.length cp,.slice Ah u.headers.length ch] 155)=w2:=⟨_,rfl⟩
  obtain ⟨hb2,hc⟩:=uri_box hw2
  have HB2:=hid (thenB HB1.out hb2)
  have HP2:=hid (RdB.on HP.out hb2)
  have HH2:=hid (RdB.on HH.out hb2)
  have HC:=hid hc
  rw [hw2]
  clear hw2 hb2 hc HP HH
  refine (HWC.out _ _ _ _ _ HP2.out HH2.out).mono ?_
  rintro e w3 ⟨rfl,hb3⟩
  have HB3:=hid (thenB HB2.out hb3)
  obtain ⟨c0,c1,c2,c3,c4,c5⟩:=HC.out w3 hb3
  clear hb3
  by_cases hf:f=0
  .by_cases hq:q=s
   .have HX:=hid (HOK.out hf hq)
    subst hf
    subst hq
    have q1:((str q).toList == (str q).toList)=true:=beq_self_eq_true _
    go_wp2
    go_ret2
    exact ⟨congrArg Ending.returned HX.out.symm,HB3.out⟩
   .have HX:=hid (HNO.out (.inr hq))
    have q1:=str_neb hq
    have q2:=str_ne hq
    clear hq
    subst hf
    go_wp2
    go_ret2
    exact ⟨congrArg Ending.returned HX.out.symm,HB3.out⟩
  .have HX:=hid (HNO.out (.inl hf))
   have q1:(f != 0)=true:=by simpa using hf
   clear hf
   go_wp2
   go_ret2
   exact ⟨congrArg Ending.returned HX.out.symm,HB3.out⟩
 .have HX:=hid (HER.out he)
  have q1:(er != 0)=true:=by simpa using he
  clear he
  go_wp2
  go_ret2
  exact ⟨congrArg Ending.returned HX.out.symm,HBX.out _⟩
set_option maxRecDepth 100000 in
set_option maxHeartbeats 4000000 in
theorem srHost_any {s:T} {w:World} (hs:s.length<=99999990):Calls Tryz.prog 59 #[.string (str s)] w (HostPost s w):=by
 have ha:=fun W=>add_sip s hs W
 obtain ⟨u,er,hr⟩:∃ u er,parseE (sipC s)=(u,er):=⟨_,_,rfl⟩
 obtain ⟨q,f,hw⟩:∃ q f,whoE u=(q,f):=⟨_,_,rfl⟩
 have HW:=hid (fun W=>rparse_is (s:=str (sipC s)) hr (by show (sipC s).length<=_;simp [sipC,sipT];omega) W)
 have HER:Hid (er≠0->hostV s=.tuple #[.string ⟨#[]⟩,.int .i64 er]):=hid (fun he=>hostV_is (host_err hr he))
 have HNO:Hid (er=0->(f≠0\/q≠s)->hostV s=.tuple #[.string ⟨#[]⟩,.int .i64 31]):=hid (fun he hn=>hostV_is (host_no (u:=u) (he▸hr) hw hn))
 have HOK:Hid (er=0->f=0->q=s->hostV s=.tuple #[.string (str u.host),.int .i64 0]):=hid (fun he h1 h2=>hostV_is (host_ok (u:=u) (he▸hr) (by rw [hw,h1,h2])))
 have HWC:Hid (er=0->∀ (W:World) (A1 A2:Option Addr) (c1 c2:Nat),RdB W W.heap.size 3 u.params.length A1 (rows parC u.params)->RdB W W.heap.size 3 u.headers.length A2 (rows parC u.headers)->Calls Tryz.prog 90 #[.agg #[.string (str u.scheme),.string (str u.user),.string (str u.host),.int .i64 u.port,.slice A1 u.params.length c1,.slice A2 u.headers.length c2]] W (fun e w'=>e=.returned (.tuple #[.string (str q),.int .i64 f])/\Below W.heap.size W w')):=hid (fun he W A1 A2 c1 c2 h1 h2=>rwho_call hw ((parse_ok hr).elim (fun q=>q.2) (fun q=>absurd he q.1)) h1 h2)
 unfold HostPost
 generalize hostV s=VV at *
 generalize sipC s=S at *
 clear hr hw
 go_enter Tryz.func59,Tryz.ntmps59
 go_wp2_with fail
 refine (HW.out _).mono ?_
 rintro e w1 ⟨Ap,cp,Ah,ch,rfl,hp,hh,hb⟩
 have HB1:=hid hb
 have HP:=hid hp
 have HH:=hid hh
 clear hb hp hh ha
 have HBX:Hid (∀ o,Below w.heap.size w (w1.alloc o)):=hid (fun o=>thenB HB1.out ((Below.refl _ _).alloc (Nat.le_refl _) o))
 by_cases he:er=0
 .replace HNO:=hid (HNO.out he)
  replace HOK:=hid (HOK.out he)
  replace HWC:=hid (HWC.out he)
  subst he
  go_wp2_with fail
  obtain ⟨w2,hw2⟩:∃ w2,w1.alloc (.cells #[.string (str u.scheme),.string (str u.user),.string (str u.host),.int .i64 u.port,.slice Ap u.params.length cp,.slice Ah u.headers.length ch] 155)=w2:=⟨_,rfl⟩
  obtain ⟨hb2,hc⟩:=uri_box hw2
  have HB2:=hid (thenB HB1.out hb2)
  have HP2:=hid (RdB.on HP.out hb2)
  have HH2:=hid (RdB.on HH.out hb2)
  have HC:=hid hc
  rw [hw2]
  clear hw2 hb2 hc HP HH
  refine (HWC.out _ _ _ _ _ HP2.out HH2.out).mono ?_
  rintro e w3 ⟨rfl,hb3⟩
  have HB3:=hid (thenB HB2.out hb3)
  obtain ⟨c0,c1,c2,c3,c4,c5⟩:=HC.out w3 hb3
  clear hb3
  by_cases hf:f=0
  .by_cases hq:q=s
   .have HX:=hid (HOK.out hf hq)
    subst hf
    subst hq
    have q1:((str q).toList == (str q).toList)=true:=beq_self_eq_true _
    go_wp2
    go_ret2
    exact ⟨congrArg Ending.returned HX.out.symm,HB3.out⟩
   .have HX:=hid (HNO.out (.inr hq))
    have q1:=str_neb hq
    have q2:=str_ne hq
    clear hq
    subst hf
    go_wp2
    go_ret2
    exact ⟨congrArg Ending.returned HX.out.symm,HB3.out⟩
  .have HX:=hid (HNO.out (.inl hf))
   have q1:(f != 0)=true:=by simpa using hf
   clear hf
   go_wp2
   go_ret2
   exact ⟨congrArg Ending.returned HX.out.symm,HB3.out⟩
 .have HX:=hid (HER.out he)
  have q1:(er != 0)=true:=by simpa using he
  clear he
  go_wp2
  go_ret2
  exact ⟨congrArg Ending.returned HX.out.symm,HBX.out _⟩
end Go.Proofs.YthfmekdbcoaolaaGreatDoor
