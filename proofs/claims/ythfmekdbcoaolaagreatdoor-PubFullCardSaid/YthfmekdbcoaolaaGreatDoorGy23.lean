/- Chapter 4: same.Equal. Chapter 4: same.Who, rosterref04.Who. Chapter 4: rosterlaw04.read, awake. -/
import Derived.Test.YthfmekdbcoaolaaGreatDoorGy22
import Derived.Test.YthfmekdbcoaolaaGreatDoorGy02
import Derived.Deep.RegionHeld3
import Derived.Deep.QuietTactic
import Derived.BigQuiet
import Derived.Test.YthfmekdbcoaolaaGreatDoorGy21
namespace Go.Proofs.YthfmekdbcoaolaaGreatDoor
set_option linter.unusedSimpArgs false
set_option linter.unusedVariables false
open Go.RowKit
open Go.Lib (hid)
theorem two_box {a b:Array Value} {t:TypeId} {w w0:World} (h:(w.alloc (.cells a t)).alloc (.cells b t)=w0) :
 Below w.heap.size w w0/\w0.heap.size=w.heap.size+2/\(∀ W,Below w0.heap.size w0 W->Blk W w.heap.size t a)/\(∀ W,Below w0.heap.size w0 W->Blk W (w.heap.size+1) t b):=by
 subst h
 refine ⟨((Below.refl _ _).alloc (Nat.le_refl _) _).alloc (by simp) _,by simp,fun W h=>?_,fun W h=>?_⟩
 .exact ((Blk.new w t a).alloc _).fr (Fr.of_below (F:=fun _=>False) h) (fun h=>h)
 .exact (Blk.new' (w.alloc (.cells a t)) t b (by simp)).fr (Fr.of_below (F:=fun _=>False) h) (fun h=>h)
theorem str_ne {a b:T} (h:a≠b):¬(str a).toList=(str b).toList:=fun e=>h (str_inj ((tol_eq _ _).1 e))
theorem str_neb {a b:T} (h:a≠b):((str a).toList == (str b).toList)=false:=by rw [strv_dec,decide_eq_false h]
theorem who_no1 {u:Uri} (h:checkE u≠0):whoE u=([],checkE u):=if_pos h
theorem who_no2 {u:Uri} (h:checkE u=0) (h2:u.user=[]):whoE u=([],31):=by unfold whoE;rw [if_neg (by simpa using h),if_pos h2]
theorem who_ok {u:Uri} (h:checkE u=0) (h2:u.user≠[]):whoE u=(nameT u,0):=by unfold whoE;rw [if_neg (by simpa using h),if_neg h2]
def whoV (u:Uri):Value:=.tuple #[.string (str (whoE u).1),.int .i64 (whoE u).2]
def WhoPost (u:Uri) (w:World) (e:Ending) (w':World):Prop:=e=.returned (whoV u)/\Below w.heap.size w w'
theorem whoV_is {u:Uri} {r:T × Int} (h:whoE u=r):whoV u=.tuple #[.string (str r.1),.int .i64 r.2]:=by unfold whoV;rw [h]
theorem trim_sip (n:T):(⟨(Lib.trimPrefix (str (sipT++58::n)).data.toList (⟨#[115,105,112,58]⟩:ByteArray).data.toList).toArray⟩:ByteArray)=str n:=by
 have:Lib.trimPrefix (str (sipT++58::n)).data.toList (⟨#[115,105,112,58]⟩:ByteArray).data.toList=n:=by
  show Lib.trimPrefix ([115,105,112,58]++n) [115,105,112,58]=n
  unfold Lib.trimPrefix
  rw [if_pos (by simp [Lib.hasPrefix])]
  rfl
 rw [this]
 rfl
theorem uriS_who {u:Uri} (h:UriS u):UriS (whoU u):=⟨by simp [whoU,sipT],h.user,h.host,by simp [whoU],by simp [whoU],by simp [whoU],by simp [whoU],by simp [whoU]⟩
set_option maxRecDepth 100000 in
set_option maxHeartbeats 4000000 in
theorem Who_any {u:Uri} {vp vh:Value} {B:Nat} {w:World} (hB:B<=w.heap.size) (hp:PrmB w B vp u.params) (hh:PrmB w B vh u.headers) (hs:UriS u) :
 Calls Tryz.prog 95 #[uriV u vp vh] w (WhoPost u w):=by
 obtain ⟨Ap,cp,rfl,hp⟩:=hp
 obtain ⟨Ah,ch,rfl,hh⟩:=hh
 unfold uriV
 obtain ⟨w0,hw0⟩:∃ w0,w.alloc (.cells #[.string (str u.scheme),.string (str u.user),.string (str u.host),.int .i64 u.port,.slice Ap u.params.length cp,.slice Ah u.headers.length ch] 155)=w0:=⟨_,rfl⟩
 obtain ⟨hb0,hc⟩:=uri_box hw0
 have HB0:=hid hb0
 have HC:=hid hc
 have HP:Hid (∀ W,Below w0.heap.size w0 W->PrmB W B (.slice Ap u.params.length cp) u.params):=hid (fun W h=>⟨Ap,cp,rfl,(hp.below (hb0.mono hB)).below (h.mono (Nat.le_trans hB hb0.size))⟩)
 have HH:Hid (∀ W,Below w0.heap.size w0 W->PrmB W B (.slice Ah u.headers.length ch) u.headers):=hid (fun W h=>⟨Ah,ch,rfl,(hh.below (hb0.mono hB)).below (h.mono (Nat.le_trans hB hb0.size))⟩)
 have HSZ:Hid (∀ W,Below w0.heap.size w0 W->B<=W.heap.size):=hid (fun W h=>Nat.le_trans hB (Nat.le_trans hb0.size h.size))
 have HCK:Hid (∀ W,Below w0.heap.size w0 W->Calls Tryz.prog 128 #[.agg #[.string (str u.scheme),.string (str u.user),.string (str u.host),.int .i64 u.port,.slice Ap u.params.length cp,.slice Ah u.headers.length ch]] W (fun e w'=>e=.returned (.int .i64 (checkE u))/\Below W.heap.size W w')):=hid (fun W h=>Check_any (u:=u) (HSZ.out W h) (HP.out W h) (HH.out W h) hs)
 have HPR:Hid (∀ W,Calls Tryz.prog 129 #[.agg #[.string ⟨#[115,105,112]⟩,.string (str u.user),.string (str u.host),.int .i64 0,.slice none 0 0,.slice none 0 0]] W (fun e w'=>e=.returned (printV (whoU u))/\Below W.heap.size W w')):=hid (fun W=>Print_any (u:=whoU u) (vp:=.slice none 0 0) (vh:=.slice none 0 0) (Nat.le_refl _) (PrmB.nil _ _) (PrmB.nil _ _) (uriS_who hs))
 obtain ⟨S,E,hV,hVok,hVno⟩:=printV_form (whoU u)
 rw [hV] at HPR
 clear hV hVno hs hp hh hb0 hc
 have HNO:=hid (fun h=>whoV_is (who_no1 (u:=u) h))
 have HN2:=hid (fun h h2=>whoV_is (who_no2 (u:=u) h h2))
 have HOK:=hid (fun h h2=>whoV_is (who_ok (u:=u) h h2))
 have HVK:Hid (checkE u=0->u.user≠[]->S=str (sipT++58::nameT u)/\E=0):=hid (fun h h2=>by
  obtain ⟨h3,h4⟩:=hVok (who_check h)
  exact ⟨by rw [h3,who_print h2],h4⟩)
 have HTR:=hid (trim_sip (nameT u))
 clear hVok
 generalize nameT u=NM at *
 unfold WhoPost
 generalize whoV u=VV at *
 obtain ⟨c0,c1,c2,c3,c4,c5⟩:=HC.out w0 (Below.refl _ _)
 go_enter Tryz.func95,Tryz.ntmps95
 go_wp2_with fail
 refine (HPR.out w0).mono ?_
 rintro e w1 ⟨rfl,hb1⟩
 have HB1:=hid hb1
 clear hb1 c0 c1 c2 c3 c4 c5
 obtain ⟨c0,c1,c2,c3,c4,c5⟩:=HC.out w1 HB1.out
 go_wp2_with fail
 refine (HCK.out w1 HB1.out).mono ?_
 rintro e w2 ⟨rfl,hb2⟩
 have HB2:=hid (thenB HB1.out hb2)
 clear hb2 c0 c1 c2 c3 c4 c5
 obtain ⟨c0,c1,c2,c3,c4,c5⟩:=HC.out w2 HB2.out
 by_cases hck:checkE u=0
 .have HN2:=hid (HN2.out hck)
  have HOK:=hid (HOK.out hck)
  have HVK:=hid (HVK.out hck)
  have qe:(checkE u != 0)=false:=by rw [hck];rfl
  clear hck
  by_cases hu:u.user=[]
  .have HX:=hid (HN2.out hu)
   have qn:(str u.user).toList.isEmpty=true:=by rw [hu,Lib.toList_data];rfl
   clear hu
   go_wp2
   go_ret2
   exact ⟨by rw [HX.out];rfl,thenB HB0.out HB2.out⟩
  .have HX:=hid (HOK.out hu)
   obtain ⟨rfl,rfl⟩:=HVK.out hu
   have qn:(str u.user).toList.isEmpty=false:=emp_no (fun q=>hu (str_inj q))
   clear hu
   go_wp2_with fail
   refine (Tryz.strings_TrimPrefix _ _ w2).mono ?_
   rintro e w3 ⟨rfl,rfl⟩
   rw [HTR.out]
   go_wp2
   go_ret2
   exact ⟨by rw [HX.out];rfl,thenB HB0.out HB2.out⟩
 .have HX:=hid (HNO.out hck)
  have qe:(checkE u != 0)=true:=by simpa using hck
  clear hck
  go_wp2_with fail
  refine (HCK.out w2 HB2.out).mono ?_
  rintro e w3 ⟨rfl,hb3⟩
  have HB3:=hid (thenB HB2.out hb3)
  clear hb3
  go_wp2
  go_ret2
  exact ⟨by rw [HX.out];rfl,thenB HB0.out HB3.out⟩
set_option maxRecDepth 100000 in
set_option maxHeartbeats 4000000 in
theorem rWho_any {u:Uri} {vp vh:Value} {B:Nat} {w:World} (hB:B<=w.heap.size) (hp:PrmB w B vp u.params) (hh:PrmB w B vh u.headers) (hs:UriS u) :
 Calls Tryz.prog 90 #[uriV u vp vh] w (WhoPost u w):=by
 obtain ⟨Ap,cp,rfl,hp⟩:=hp
 obtain ⟨Ah,ch,rfl,hh⟩:=hh
 unfold uriV
 obtain ⟨w0,hw0⟩:∃ w0,w.alloc (.cells #[.string (str u.scheme),.string (str u.user),.string (str u.host),.int .i64 u.port,.slice Ap u.params.length cp,.slice Ah u.headers.length ch] 155)=w0:=⟨_,rfl⟩
 obtain ⟨hb0,hc⟩:=uri_box hw0
 have HB0:=hid hb0
 have HC:=hid hc
 have HP:Hid (∀ W,Below w0.heap.size w0 W->PrmB W B (.slice Ap u.params.length cp) u.params):=hid (fun W h=>⟨Ap,cp,rfl,(hp.below (hb0.mono hB)).below (h.mono (Nat.le_trans hB hb0.size))⟩)
 have HH:Hid (∀ W,Below w0.heap.size w0 W->PrmB W B (.slice Ah u.headers.length ch) u.headers):=hid (fun W h=>⟨Ah,ch,rfl,(hh.below (hb0.mono hB)).below (h.mono (Nat.le_trans hB hb0.size))⟩)
 have HSZ:Hid (∀ W,Below w0.heap.size w0 W->B<=W.heap.size):=hid (fun W h=>Nat.le_trans hB (Nat.le_trans hb0.size h.size))
 have HCK:Hid (∀ W,Below w0.heap.size w0 W->Calls Tryz.prog 119 #[.agg #[.string (str u.scheme),.string (str u.user),.string (str u.host),.int .i64 u.port,.slice Ap u.params.length cp,.slice Ah u.headers.length ch]] W (fun e w'=>e=.returned (.int .i64 (checkE u))/\Below W.heap.size W w')):=hid (fun W h=>rCheck_any (u:=u) (HSZ.out W h) (HP.out W h) (HH.out W h) hs)
 clear hp hh hb0 hc
 have HNO:=hid (fun h=>whoV_is (who_no1 (u:=u) h))
 have HN2:=hid (fun h h2=>whoV_is (who_no2 (u:=u) h h2))
 have HOK:=hid (fun h h2=>whoV_is (who_ok (u:=u) h h2))
 unfold WhoPost
 generalize whoV u=VV at *
 obtain ⟨c0,c1,c2,c3,c4,c5⟩:=HC.out w0 (Below.refl _ _)
 go_enter Tryz.func90,Tryz.ntmps90
 go_wp2_with fail
 refine (HCK.out w0 (Below.refl _ _)).mono ?_
 rintro e w2 ⟨rfl,hb2⟩
 have HB2:=hid hb2
 clear hb2 c0 c1 c2 c3 c4 c5
 obtain ⟨c0,c1,c2,c3,c4,c5⟩:=HC.out w2 HB2.out
 by_cases hck:checkE u=0
 .have HN2:=hid (HN2.out hck)
  have HOK:=hid (HOK.out hck)
  have qe:(checkE u != 0)=false:=by rw [hck];rfl
  obtain ⟨_,h2,h3,_⟩:=check_parts hck
  have h3l:=host_len h3
  clear h3
  clear hck hs
  have hesc:=esc_len users u.user
  have HES:Hid (∀ w,Calls Tryz.prog 120 #[.string (str u.user),.string ⟨#[38,61,43,36,44,59,63,47]⟩] w fun e w'=>e=.returned (.string (str (esc users u.user)))/\Below w.heap.size w w'):=hid (fun w=>rEscape_any (str u.user) ⟨#[38,61,43,36,44,59,63,47]⟩ w (by show u.user.length<=_;omega) (by show 8<=_;omega))
  have ha1:=fun W=>addS 64 (esc users u.user) (by omega) W
  have x1:=snocT_len (esc users u.user) 64
  have ha2:=fun W=>addA (snocT (esc users u.user) 64) u.host (by omega) W
  have HNM:Hid (appT (snocT (esc users u.user) 64) u.host=nameT u):=hid (by unfold appT snocT nameT;simp)
  generalize esc users u.user=EU at *
  clear hesc x1 h2 h3l
  by_cases hu:u.user=[]
  .have HX:=hid (HN2.out hu)
   have qn:(str u.user).toList.isEmpty=true:=by rw [hu,Lib.toList_data];rfl
   clear hu
   go_wp2
   go_ret2
   exact ⟨by rw [HX.out];rfl,thenB HB0.out HB2.out⟩
  .have HX:=hid (HOK.out hu)
   have qn:(str u.user).toList.isEmpty=false:=emp_no (fun q=>hu (str_inj q))
   clear hu
   go_wp2_with fail
   clear c0 c1 c2 c3 c4 c5
   have HC2:Hid (∀ W,Below w0.heap.size w0 W->W.cell? ⟨w.heap.size,1,none⟩=some (.string (str u.user))/\W.cell? ⟨w.heap.size,2,none⟩=some (.string (str u.host))):=hid (fun W h=>⟨(HC.out W h).2.1,(HC.out W h).2.2.1⟩)
   go_region_held3 (fun w'=>w'.cell? ⟨w.heap.size,1,none⟩=some (.string (str u.user))/\w'.cell? ⟨w.heap.size,2,none⟩=some (.string (str u.host)))
    (first|exact HC2.out _ HB2.out|exact HC2.out _ HB2.out.drew|exact HC2.out _ HX3.out)
    (first|(go_at_call 120;(with_reducible refine (HES.out _).mono ?_);rintro e w3 ⟨rfl,hb3⟩;have HX3:=hid (thenB HB2.out.drew hb3);clear hb3))
   all_goals
    go_wp2
    go_ret2
    exact ⟨by rw [HX.out,<-HNM.out];rfl,thenB HB0.out HX3.out⟩
 .have HX:=hid (HNO.out hck)
  have qe:(checkE u != 0)=true:=by simpa using hck
  clear hck
  go_wp2_with fail
  refine (HCK.out w2 HB2.out).mono ?_
  rintro e w3 ⟨rfl,hb3⟩
  have HB3:=hid (thenB HB2.out hb3)
  clear hb3
  go_wp2
  go_ret2
  exact ⟨by rw [HX.out];rfl,thenB HB0.out HB3.out⟩
theorem who_call {u:Uri} {r:T × Int} (h:whoE u=r) (k:checkE u=0) {W:World} {A1 A2:Option Addr} {c1 c2:Nat} (h1:RdB W W.heap.size 3 u.params.length A1 (rows parC u.params)) (h2:RdB W W.heap.size 3 u.headers.length A2 (rows parC u.headers)) :
 Calls Tryz.prog 95 #[.agg #[.string (str u.scheme),.string (str u.user),.string (str u.host),.int .i64 u.port,.slice A1 u.params.length c1,.slice A2 u.headers.length c2]] W (fun e w'=>e=.returned (.tuple #[.string (str r.1),.int .i64 r.2])/\Below W.heap.size W w'):=by
 have:=Who_any (u:=u) (vp:=.slice A1 u.params.length c1) (vh:=.slice A2 u.headers.length c2) (w:=W) (Nat.le_refl _) ⟨_,_,rfl,h1⟩ ⟨_,_,rfl,h2⟩ (uriS_ok k)
 unfold WhoPost at this
 rw [whoV_is h] at this
 exact this
end Go.Proofs.YthfmekdbcoaolaaGreatDoor
