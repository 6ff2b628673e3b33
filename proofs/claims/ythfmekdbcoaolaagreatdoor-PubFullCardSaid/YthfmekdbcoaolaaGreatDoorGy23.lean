/- Chapter 4: same.find, Value, grave; rosterref04.Place, Value, grave. Chapter 4: same.agree, within. Chapter 4: same.Equal. Chapter 4: rosterref04.Place, Value, half. Chapter 4: rosterref04.Equal. Chapter 4: same.Who, rosterref04.Who. Chapter 4: rosterlaw04.read, awake. -/
import Derived.Test.YthfmekdbcoaolaaGreatDoorGy22
import Derived.Test.YthfmekdbcoaolaaGreatDoorGy02
import Derived.Deep.RegionHeld3
import Derived.Deep.QuietTactic
import Derived.BigQuiet
import Derived.Test.YthfmekdbcoaolaaGreatDoorGy21
namespace Go.Proofs.YthfmekdbcoaolaaGreatDoor
set_option linter.unusedSimpArgs false
set_option linter.unusedVariables false
open Go.RowKit
def findV (o : Option Par) : Value := match o with
  | some p => .tuple #[.agg #[.string (str p.name), .string (str p.value), .bool p.has], .bool true]
  | none => .tuple #[.agg #[.string ⟨#[]⟩, .string ⟨#[]⟩, .bool false], .bool false]
theorem find_hit {n : T} {l : List Par} {j : Nat} (h : findP n l = findP n (l.drop j)) (hj : j < l.length) (e : low l[j].name = low n) : findP n l = some l[j] := by
  rw [h, List.drop_eq_getElem_cons hj]
  exact if_pos e
theorem find_next {n : T} {l : List Par} {j : Nat} (h : findP n l = findP n (l.drop j)) (hj : j < l.length) (e : low l[j].name ≠ low n) : findP n l = findP n (l.drop (j + 1)) := by
  rw [h, List.drop_eq_getElem_cons hj]
  exact if_neg e
theorem find_end {n : T} {l : List Par} {j : Nat} (h : findP n l = findP n (l.drop j)) (hj : j = l.length) : findP n l = none := by
  rw [h, List.drop_eq_nil_of_le (by omega)]
  rfl
theorem Blk.triple {wr : World} {g : Nat} {t : TypeId} {a0 a1 a2 : Value} (h : Blk wr g t #[a0, a1, a2]) (x0 x1 x2 : Value) : Blk (((wr.setCell ⟨g, 0, none⟩ x0).setCell ⟨g, 1, none⟩ x1).setCell ⟨g, 2, none⟩ x2) g t #[x0, x1, x2] := ((h.set_ 0 x0).set_ 1 x1).set_ 2 x2
theorem below_triple {B g : Nat} {w wr : World} (h : Below B w wr) (hg : B ≤ g) (x0 x1 x2 : Value) : Below B w (((wr.setCell ⟨g, 0, none⟩ x0).setCell ⟨g, 1, none⟩ x1).setCell ⟨g, 2, none⟩ x2) :=
  ((h.setCell (p := ⟨g, 0, none⟩) hg _).setCell (p := ⟨g, 1, none⟩) hg _).setCell (p := ⟨g, 2, none⟩) hg _
theorem triple_cells {wr : World} {g : Nat} {t : TypeId} {a0 a1 a2 : Value} (h : Blk wr g t #[a0, a1, a2]) (x0 x1 x2 : Value) :
    (((wr.setCell ⟨g, 0, none⟩ x0).setCell ⟨g, 1, none⟩ x1).setCell ⟨g, 2, none⟩ x2).cell? ⟨g, 0, none⟩ = some x0 ∧ (((wr.setCell ⟨g, 0, none⟩ x0).setCell ⟨g, 1, none⟩ x1).setCell ⟨g, 2, none⟩ x2).cell? ⟨g, 1, none⟩ = some x1 ∧ (((wr.setCell ⟨g, 0, none⟩ x0).setCell ⟨g, 1, none⟩ x1).setCell ⟨g, 2, none⟩ x2).cell? ⟨g, 2, none⟩ = some x2 :=
  ⟨(h.triple x0 x1 x2).cell 0, (h.triple x0 x1 x2).cell 1, (h.triple x0 x1 x2).cell 2⟩
def valueV (o : Option Par) : Value := match o with
  | some p => .tuple #[.string (str p.value), .bool true]
  | none => .tuple #[.string ⟨#[]⟩, .bool false]
theorem grave_or (n : T) : graveB n = (((str (low n)).toList == [117, 115, 101, 114]) || ((str (low n)).toList == [116, 116, 108]) || ((str (low n)).toList == [109, 101, 116, 104, 111, 100]) || ((str (low n)).toList == [109, 97, 100, 100, 114])) := by
  have d : ∀ l : T, ((str (low n)).toList == l) = true ↔ low n = l := fun l => by
    rw [lit_eq]
    exact ⟨of_decide_eq_true, fun h => decide_eq_true h⟩
  rw [Bool.eq_iff_iff]
  simp only [Bool.or_eq_true, d]
  unfold graveB graves
  simp [or_assoc]
end Go.Proofs.YthfmekdbcoaolaaGreatDoor
namespace Go.Proofs.YthfmekdbcoaolaaGreatDoor
set_option linter.unusedSimpArgs false
set_option linter.unusedVariables false
open Go.RowKit
def AllQ (f : Par → Bool) (l : List Par) (j : Nat) : Prop := (l.take j).all f = true
theorem allq_step {f : Par → Bool} {l : List Par} {j : Nat} (h : AllQ f l j) (hj : j < l.length) (a : f l[j] = true) : AllQ f l (j + 1) := by
  unfold AllQ at *
  rw [List.take_succ_eq_append_getElem hj, List.all_append, h]
  simp [a]
theorem allq_no {f : Par → Bool} {l : List Par} {j : Nat} (hj : j < l.length) (a : f l[j] = false) : l.all f = false := List.all_eq_false.2 ⟨l[j], List.getElem_mem hj, by rw [a]; simp⟩
theorem allq_end {f : Par → Bool} {l : List Par} {j : Nat} (h : AllQ f l j) (hj : j = l.length) : l.all f = true := by unfold AllQ at h; rwa [List.take_of_length_le (by omega)] at h
theorem agree_none {b : List Par} {p : Par} (h : findP p.name b = none) : agree1 b p = !graveB p.name := by unfold agree1; rw [h]
theorem agree_some {b : List Par} {p q : Par} (h : findP p.name b = some q) : agree1 b p = (decide (q.has = p.has) && decide (low q.value = low p.value)) := by unfold agree1; rw [h]
theorem within_none {b : List Par} {p : Par} (h : findP p.name b = none) : within1 b p = false := by unfold within1; rw [h]
theorem within_some {b : List Par} {p q : Par} (h : findP p.name b = some q) : within1 b p = decide (q.value = p.value) := by unfold within1; rw [h]
end Go.Proofs.YthfmekdbcoaolaaGreatDoor
namespace Go.Proofs.YthfmekdbcoaolaaGreatDoor
set_option linter.unusedSimpArgs false
set_option linter.unusedVariables false
open Go.RowKit
theorem two_box {a b : Array Value} {t : TypeId} {w w0 : World} (h : (w.alloc (.cells a t)).alloc (.cells b t) = w0) :
    Below w.heap.size w w0 ∧ w0.heap.size = w.heap.size + 2 ∧ (∀ W, Below w0.heap.size w0 W → Blk W w.heap.size t a) ∧ (∀ W, Below w0.heap.size w0 W → Blk W (w.heap.size + 1) t b) := by
  subst h
  refine ⟨((Below.refl _ _).alloc (Nat.le_refl _) _).alloc (by simp) _, by simp, fun W h => ?_, fun W h => ?_⟩
  · exact ((Blk.new w t a).alloc _).fr (Fr.of_below (F := fun _ => False) h) (fun h => h)
  · exact (Blk.new' (w.alloc (.cells a t)) t b (by simp)).fr (Fr.of_below (F := fun _ => False) h) (fun h => h)
theorem str_ne {a b : T} (h : a ≠ b) : ¬ (str a).toList = (str b).toList := fun e => h (str_inj ((tol_eq _ _).1 e))
theorem str_neb {a b : T} (h : a ≠ b) : ((str a).toList == (str b).toList) = false := by rw [strv_dec, decide_eq_false h]
theorem str_eqt {a b : T} (h : a = b) : (str a).toList = (str b).toList := by rw [h]
theorem eq_no1 {a b : Uri} (h : checkE a ≠ 0) : equalB a b = false := by unfold equalB; rw [decide_eq_false h]; rfl
theorem eq_no2 {a b : Uri} (h : checkE b ≠ 0) : equalB a b = false := by unfold equalB; rw [decide_eq_false h, Bool.and_false]; rfl
theorem eq_no3 {a b : Uri} (h : ¬ (a.scheme = b.scheme ∧ a.user = b.user ∧ a.host = b.host ∧ a.port = b.port)) : equalB a b = false := by
  have : headB a b = false := by
    unfold headB
    by_cases h1 : a.scheme = b.scheme <;> by_cases h2 : a.user = b.user <;> by_cases h3 : a.host = b.host <;> by_cases h4 : a.port = b.port <;> simp [h1, h2, h3, h4]
    exact h ⟨h1, h2, h3, h4⟩
  unfold equalB
  rw [this, Bool.and_false]
  rfl
theorem eq_is {a b : Uri} (h1 : checkE a = 0) (h2 : checkE b = 0) (h3 : a.scheme = b.scheme) (h4 : a.user = b.user) (h5 : a.host = b.host) (h6 : a.port = b.port) : equalB a b = (a.params.all (agree1 b.params) && b.params.all (agree1 a.params) && a.headers.all (within1 b.headers) && b.headers.all (within1 a.headers)) := by
  unfold equalB headB
  rw [decide_eq_true h1, decide_eq_true h2, decide_eq_true h3, decide_eq_true h4, decide_eq_true h5, decide_eq_true h6]
  rfl
end Go.Proofs.YthfmekdbcoaolaaGreatDoor
namespace Go.Proofs.YthfmekdbcoaolaaGreatDoor
set_option linter.unusedSimpArgs false
set_option linter.unusedVariables false
open Go.RowKit
/-- where the first of a name stands -/
def PlaceIs (n : T) (l : List Par) (z : Int) : Prop := (z = -1 ∧ findP n l = none) ∨ ∃ k, ∃ h : k < l.length, z = (k : Int) ∧ findP n l = some l[k]
def PlacePost (n : T) (l : List Par) (w : World) (e : Ending) (w' : World) : Prop := ∃ z, e = .returned (.int .i64 z) ∧ PlaceIs n l z ∧ Below w.heap.size w w'
def halfB (a b : Uri) : Bool := a.params.all (agree1 b.params) && a.headers.all (within1 b.headers)
theorem half_no1 {a b : Uri} (h : a.params.all (agree1 b.params) = false) : halfB a b = false := by unfold halfB; rw [h]; rfl
theorem half_no2 {a b : Uri} (h : a.headers.all (within1 b.headers) = false) : halfB a b = false := by unfold halfB; rw [h, Bool.and_false]
theorem half_yes {a b : Uri} (h : a.params.all (agree1 b.params) = true) (h2 : a.headers.all (within1 b.headers) = true) : halfB a b = true := by unfold halfB; rw [h, h2]; rfl
end Go.Proofs.YthfmekdbcoaolaaGreatDoor
namespace Go.Proofs.YthfmekdbcoaolaaGreatDoor
set_option linter.unusedSimpArgs false
set_option linter.unusedVariables false
open Go.RowKit
theorem halves (a b : Uri) : (a.params.all (agree1 b.params) && b.params.all (agree1 a.params) && a.headers.all (within1 b.headers) && b.headers.all (within1 a.headers)) = (halfB a b && halfB b a) := by
  unfold halfB
  generalize a.params.all (agree1 b.params) = x
  generalize b.params.all (agree1 a.params) = y
  generalize a.headers.all (within1 b.headers) = z
  generalize b.headers.all (within1 a.headers) = t
  cases x <;> cases y <;> cases z <;> cases t <;> rfl
end Go.Proofs.YthfmekdbcoaolaaGreatDoor
namespace Go.Proofs.YthfmekdbcoaolaaGreatDoor
set_option linter.unusedSimpArgs false
set_option linter.unusedVariables false
open Go.RowKit
theorem who_no1 {u : Uri} (h : checkE u ≠ 0) : whoE u = ([], checkE u) := if_pos h
theorem who_no2 {u : Uri} (h : checkE u = 0) (h2 : u.user = []) : whoE u = ([], 31) := by unfold whoE; rw [if_neg (by simpa using h), if_pos h2]
theorem who_ok {u : Uri} (h : checkE u = 0) (h2 : u.user ≠ []) : whoE u = (nameT u, 0) := by unfold whoE; rw [if_neg (by simpa using h), if_neg h2]
def whoV (u : Uri) : Value := .tuple #[.string (str (whoE u).1), .int .i64 (whoE u).2]
def WhoPost (u : Uri) (w : World) (e : Ending) (w' : World) : Prop := e = .returned (whoV u) ∧ Below w.heap.size w w'
theorem whoV_is {u : Uri} {r : T × Int} (h : whoE u = r) : whoV u = .tuple #[.string (str r.1), .int .i64 r.2] := by unfold whoV; rw [h]
theorem trim_sip (n : T) : (⟨(Lib.trimPrefix (str (sipT ++ 58 :: n)).data.toList (⟨#[115, 105, 112, 58]⟩ : ByteArray).data.toList).toArray⟩ : ByteArray) = str n := by
  have : Lib.trimPrefix (str (sipT ++ 58 :: n)).data.toList (⟨#[115, 105, 112, 58]⟩ : ByteArray).data.toList = n := by
    show Lib.trimPrefix ([115, 105, 112, 58] ++ n) [115, 105, 112, 58] = n
    unfold Lib.trimPrefix
    rw [if_pos (by simp [Lib.hasPrefix])]
    rfl
  rw [this]
  rfl
theorem uriS_who {u : Uri} (h : UriS u) : UriS (whoU u) := ⟨by simp [whoU, sipT], h.user, h.host, by simp [whoU], by simp [whoU], by simp [whoU], by simp [whoU], by simp [whoU]⟩
set_option maxRecDepth 100000 in
set_option maxHeartbeats 4000000 in
theorem Who_any {u : Uri} {vp vh : Value} {B : Nat} {w : World} (hB : B ≤ w.heap.size) (hp : PrmB w B vp u.params) (hh : PrmB w B vh u.headers) (hs : UriS u) :
    Calls Tryz.prog 95 #[uriV u vp vh] w (WhoPost u w) := by
  obtain ⟨Ap, cp, rfl, hp⟩ := hp
  obtain ⟨Ah, ch, rfl, hh⟩ := hh
  unfold uriV
  obtain ⟨w0, hw0⟩ : ∃ w0, w.alloc (.cells #[.string (str u.scheme), .string (str u.user), .string (str u.host), .int .i64 u.port, .slice Ap u.params.length cp, .slice Ah u.headers.length ch] 155) = w0 := ⟨_, rfl⟩
  obtain ⟨hb0, hc⟩ := uri_box hw0
  have HB0 := Lib.hid hb0
  have HC := Lib.hid hc
  have HP : Hid (∀ W, Below w0.heap.size w0 W → PrmB W B (.slice Ap u.params.length cp) u.params) := Lib.hid (fun W h => ⟨Ap, cp, rfl, (hp.below (hb0.mono hB)).below (h.mono (Nat.le_trans hB hb0.size))⟩)
  have HH : Hid (∀ W, Below w0.heap.size w0 W → PrmB W B (.slice Ah u.headers.length ch) u.headers) := Lib.hid (fun W h => ⟨Ah, ch, rfl, (hh.below (hb0.mono hB)).below (h.mono (Nat.le_trans hB hb0.size))⟩)
  have HSZ : Hid (∀ W, Below w0.heap.size w0 W → B ≤ W.heap.size) := Lib.hid (fun W h => Nat.le_trans hB (Nat.le_trans hb0.size h.size))
  have HCK : Hid (∀ W, Below w0.heap.size w0 W → Calls Tryz.prog 128 #[.agg #[.string (str u.scheme), .string (str u.user), .string (str u.host), .int .i64 u.port, .slice Ap u.params.length cp, .slice Ah u.headers.length ch]] W (fun e w' => e = .returned (.int .i64 (checkE u)) ∧ Below W.heap.size W w')) := Lib.hid (fun W h => Check_any (u := u) (HSZ.out W h) (HP.out W h) (HH.out W h) hs)
  have HPR : Hid (∀ W, Calls Tryz.prog 129 #[.agg #[.string ⟨#[115, 105, 112]⟩, .string (str u.user), .string (str u.host), .int .i64 0, .slice none 0 0, .slice none 0 0]] W (fun e w' => e = .returned (printV (whoU u)) ∧ Below W.heap.size W w')) := Lib.hid (fun W => Print_any (u := whoU u) (vp := .slice none 0 0) (vh := .slice none 0 0) (Nat.le_refl _) (PrmB.nil _ _) (PrmB.nil _ _) (uriS_who hs))
  obtain ⟨S, E, hV, hVok, hVno⟩ := printV_form (whoU u)
  rw [hV] at HPR
  clear hV hVno hs hp hh hb0 hc
  have HNO := Lib.hid (fun h => whoV_is (who_no1 (u := u) h))
  have HN2 := Lib.hid (fun h h2 => whoV_is (who_no2 (u := u) h h2))
  have HOK := Lib.hid (fun h h2 => whoV_is (who_ok (u := u) h h2))
  have HVK : Hid (checkE u = 0 → u.user ≠ [] → S = str (sipT ++ 58 :: nameT u) ∧ E = 0) := Lib.hid (fun h h2 => by
    obtain ⟨h3, h4⟩ := hVok (who_check h)
    exact ⟨by rw [h3, who_print h2], h4⟩)
  have HTR := Lib.hid (trim_sip (nameT u))
  clear hVok
  generalize nameT u = NM at *
  unfold WhoPost
  generalize whoV u = VV at *
  obtain ⟨c0, c1, c2, c3, c4, c5⟩ := HC.out w0 (Below.refl _ _)
  go_enter Tryz.func95, Tryz.ntmps95
  go_wp2_with fail
  refine (HPR.out w0).mono ?_
  rintro e w1 ⟨rfl, hb1⟩
  have HB1 := Lib.hid hb1
  clear hb1 c0 c1 c2 c3 c4 c5
  obtain ⟨c0, c1, c2, c3, c4, c5⟩ := HC.out w1 HB1.out
  go_wp2_with fail
  refine (HCK.out w1 HB1.out).mono ?_
  rintro e w2 ⟨rfl, hb2⟩
  have HB2 := Lib.hid (thenB HB1.out hb2)
  clear hb2 c0 c1 c2 c3 c4 c5
  obtain ⟨c0, c1, c2, c3, c4, c5⟩ := HC.out w2 HB2.out
  by_cases hck : checkE u = 0
  · have HN2 := Lib.hid (HN2.out hck)
    have HOK := Lib.hid (HOK.out hck)
    have HVK := Lib.hid (HVK.out hck)
    have qe : (checkE u != 0) = false := by rw [hck]; rfl
    clear hck
    by_cases hu : u.user = []
    · have HX := Lib.hid (HN2.out hu)
      have qn : (str u.user).toList.isEmpty = true := by rw [hu, Lib.toList_data]; rfl
      clear hu
      go_wp2
      go_ret2
      exact ⟨by rw [HX.out]; rfl, thenB HB0.out HB2.out⟩
    · have HX := Lib.hid (HOK.out hu)
      obtain ⟨rfl, rfl⟩ := HVK.out hu
      have qn : (str u.user).toList.isEmpty = false := emp_no (fun q => hu (str_inj q))
      clear hu
      go_wp2_with fail
      refine (Tryz.strings_TrimPrefix _ _ w2).mono ?_
      rintro e w3 ⟨rfl, rfl⟩
      rw [HTR.out]
      go_wp2
      go_ret2
      exact ⟨by rw [HX.out]; rfl, thenB HB0.out HB2.out⟩
  · have HX := Lib.hid (HNO.out hck)
    have qe : (checkE u != 0) = true := by simpa using hck
    clear hck
    go_wp2_with fail
    refine (HCK.out w2 HB2.out).mono ?_
    rintro e w3 ⟨rfl, hb3⟩
    have HB3 := Lib.hid (thenB HB2.out hb3)
    clear hb3
    go_wp2
    go_ret2
    exact ⟨by rw [HX.out]; rfl, thenB HB0.out HB3.out⟩
set_option maxRecDepth 100000 in
set_option maxHeartbeats 4000000 in
theorem rWho_any {u : Uri} {vp vh : Value} {B : Nat} {w : World} (hB : B ≤ w.heap.size) (hp : PrmB w B vp u.params) (hh : PrmB w B vh u.headers) (hs : UriS u) :
    Calls Tryz.prog 90 #[uriV u vp vh] w (WhoPost u w) := by
  obtain ⟨Ap, cp, rfl, hp⟩ := hp
  obtain ⟨Ah, ch, rfl, hh⟩ := hh
  unfold uriV
  obtain ⟨w0, hw0⟩ : ∃ w0, w.alloc (.cells #[.string (str u.scheme), .string (str u.user), .string (str u.host), .int .i64 u.port, .slice Ap u.params.length cp, .slice Ah u.headers.length ch] 155) = w0 := ⟨_, rfl⟩
  obtain ⟨hb0, hc⟩ := uri_box hw0
  have HB0 := Lib.hid hb0
  have HC := Lib.hid hc
  have HP : Hid (∀ W, Below w0.heap.size w0 W → PrmB W B (.slice Ap u.params.length cp) u.params) := Lib.hid (fun W h => ⟨Ap, cp, rfl, (hp.below (hb0.mono hB)).below (h.mono (Nat.le_trans hB hb0.size))⟩)
  have HH : Hid (∀ W, Below w0.heap.size w0 W → PrmB W B (.slice Ah u.headers.length ch) u.headers) := Lib.hid (fun W h => ⟨Ah, ch, rfl, (hh.below (hb0.mono hB)).below (h.mono (Nat.le_trans hB hb0.size))⟩)
  have HSZ : Hid (∀ W, Below w0.heap.size w0 W → B ≤ W.heap.size) := Lib.hid (fun W h => Nat.le_trans hB (Nat.le_trans hb0.size h.size))
  have HCK : Hid (∀ W, Below w0.heap.size w0 W → Calls Tryz.prog 119 #[.agg #[.string (str u.scheme), .string (str u.user), .string (str u.host), .int .i64 u.port, .slice Ap u.params.length cp, .slice Ah u.headers.length ch]] W (fun e w' => e = .returned (.int .i64 (checkE u)) ∧ Below W.heap.size W w')) := Lib.hid (fun W h => rCheck_any (u := u) (HSZ.out W h) (HP.out W h) (HH.out W h) hs)
  clear hp hh hb0 hc
  have HNO := Lib.hid (fun h => whoV_is (who_no1 (u := u) h))
  have HN2 := Lib.hid (fun h h2 => whoV_is (who_no2 (u := u) h h2))
  have HOK := Lib.hid (fun h h2 => whoV_is (who_ok (u := u) h h2))
  unfold WhoPost
  generalize whoV u = VV at *
  obtain ⟨c0, c1, c2, c3, c4, c5⟩ := HC.out w0 (Below.refl _ _)
  go_enter Tryz.func90, Tryz.ntmps90
  go_wp2_with fail
  refine (HCK.out w0 (Below.refl _ _)).mono ?_
  rintro e w2 ⟨rfl, hb2⟩
  have HB2 := Lib.hid hb2
  clear hb2 c0 c1 c2 c3 c4 c5
  obtain ⟨c0, c1, c2, c3, c4, c5⟩ := HC.out w2 HB2.out
  by_cases hck : checkE u = 0
  · have HN2 := Lib.hid (HN2.out hck)
    have HOK := Lib.hid (HOK.out hck)
    have qe : (checkE u != 0) = false := by rw [hck]; rfl
    obtain ⟨_, h2, h3, _⟩ := check_parts hck
    have h3l := host_len h3
    clear h3
    clear hck hs
    have hesc := esc_len users u.user
    have HES : Hid (∀ w, Calls Tryz.prog 120 #[.string (str u.user), .string ⟨#[38, 61, 43, 36, 44, 59, 63, 47]⟩] w fun e w' => e = .returned (.string (str (esc users u.user))) ∧ Below w.heap.size w w') := Lib.hid (fun w => rEscape_any (str u.user) ⟨#[38, 61, 43, 36, 44, 59, 63, 47]⟩ w (by show u.user.length ≤ _; omega) (by show 8 ≤ _; omega))
    have ha1 := fun W => addS 64 (esc users u.user) (by omega) W
    have x1 := snocT_len (esc users u.user) 64
    have ha2 := fun W => addA (snocT (esc users u.user) 64) u.host (by omega) W
    have HNM : Hid (appT (snocT (esc users u.user) 64) u.host = nameT u) := Lib.hid (by unfold appT snocT nameT; simp)
    generalize esc users u.user = EU at *
    clear hesc x1 h2 h3l
    by_cases hu : u.user = []
    · have HX := Lib.hid (HN2.out hu)
      have qn : (str u.user).toList.isEmpty = true := by rw [hu, Lib.toList_data]; rfl
      clear hu
      go_wp2
      go_ret2
      exact ⟨by rw [HX.out]; rfl, thenB HB0.out HB2.out⟩
    · have HX := Lib.hid (HOK.out hu)
      have qn : (str u.user).toList.isEmpty = false := emp_no (fun q => hu (str_inj q))
      clear hu
      go_wp2_with fail
      clear c0 c1 c2 c3 c4 c5
      have HC2 : Hid (∀ W, Below w0.heap.size w0 W → W.cell? ⟨w.heap.size, 1, none⟩ = some (.string (str u.user)) ∧ W.cell? ⟨w.heap.size, 2, none⟩ = some (.string (str u.host))) := Lib.hid (fun W h => ⟨(HC.out W h).2.1, (HC.out W h).2.2.1⟩)
      go_region_held3 (fun w' => w'.cell? ⟨w.heap.size, 1, none⟩ = some (.string (str u.user)) ∧ w'.cell? ⟨w.heap.size, 2, none⟩ = some (.string (str u.host)))
        (first | exact HC2.out _ HB2.out | exact HC2.out _ HB2.out.drew | exact HC2.out _ HX3.out)
        (first | (go_at_call 120; (with_reducible refine (HES.out _).mono ?_); rintro e w3 ⟨rfl, hb3⟩; have HX3 := Lib.hid (thenB HB2.out.drew hb3); clear hb3))
      all_goals
        go_wp2
        go_ret2
        exact ⟨by rw [HX.out, ← HNM.out]; rfl, thenB HB0.out HX3.out⟩
  · have HX := Lib.hid (HNO.out hck)
    have qe : (checkE u != 0) = true := by simpa using hck
    clear hck
    go_wp2_with fail
    refine (HCK.out w2 HB2.out).mono ?_
    rintro e w3 ⟨rfl, hb3⟩
    have HB3 := Lib.hid (thenB HB2.out hb3)
    clear hb3
    go_wp2
    go_ret2
    exact ⟨by rw [HX.out]; rfl, thenB HB0.out HB3.out⟩
end Go.Proofs.YthfmekdbcoaolaaGreatDoor
namespace Go.Proofs.YthfmekdbcoaolaaGreatDoor
set_option linter.unusedSimpArgs false
set_option linter.unusedVariables false
open Go.RowKit
/-- a row of parameters lies in no block of an empty URI -/
theorem RdB.not_zero {w : World} {g B : Nat} {A : Option Addr} {ps : List Par} (hk : Blk w g 155 #[.string ⟨#[]⟩, .string ⟨#[]⟩, .string ⟨#[]⟩, .int .i64 0, .slice none 0 0, .slice none 0 0]) (h : RdB w B 3 ps.length A (rows parC ps)) (x0 x1 x2 x3 x4 x5 : Value) :
    RdB (six w g x0 x1 x2 x3 x4 x5) B 3 ps.length A (rows parC ps) :=
  ⟨h.1, fun hn => by
    obtain ⟨gb, off, e, hlt, hc⟩ := h.2 hn
    have hr := rows_at parC_len hn (j := 2) (by omega)
    rw [show 0 * 3 + 2 = 2 by omega] at hr
    have h2 := hc 2 (.bool ps[0].has) hr
    have hne : gb ≠ g := by
      rintro rfl
      rw [hk.cell (off + 2)] at h2
      match off, h2 with
      | 0, h2 => cases h2
      | 1, h2 => cases h2
      | 2, h2 => cases h2
      | 3, h2 => cases h2
      | n + 4, h2 => rw [Array.getElem?_eq_none (by simp)] at h2; cases h2
    refine ⟨gb, off, e, hlt, fun j u hu => ?_⟩
    have ho : ∀ (W : World) (i : Nat) (x : Value), (W.setCell ⟨g, i, none⟩ x).cell? ⟨gb, off + j, none⟩ = W.cell? ⟨gb, off + j, none⟩ := fun W i x => World.cell?_setCell_other (w := W) (a := ⟨g, i, none⟩) (b := ⟨gb, off + j, none⟩) (v := x) (by intro q; injection q with q _ _; exact hne q.symm)
    unfold six
    rw [ho, ho, ho, ho, ho, ho]
    exact hc j u hu⟩
theorem who_call {u : Uri} {r : T × Int} (h : whoE u = r) (k : checkE u = 0) {W : World} {A1 A2 : Option Addr} {c1 c2 : Nat} (h1 : RdB W W.heap.size 3 u.params.length A1 (rows parC u.params)) (h2 : RdB W W.heap.size 3 u.headers.length A2 (rows parC u.headers)) :
    Calls Tryz.prog 95 #[.agg #[.string (str u.scheme), .string (str u.user), .string (str u.host), .int .i64 u.port, .slice A1 u.params.length c1, .slice A2 u.headers.length c2]] W (fun e w' => e = .returned (.tuple #[.string (str r.1), .int .i64 r.2]) ∧ Below W.heap.size W w') := by
  have := Who_any (u := u) (vp := .slice A1 u.params.length c1) (vh := .slice A2 u.headers.length c2) (w := W) (Nat.le_refl _) ⟨_, _, rfl, h1⟩ ⟨_, _, rfl, h2⟩ (uriS_ok k)
  unfold WhoPost at this
  rw [whoV_is h] at this
  exact this
def tx0 : T := [115, 105, 112, 115, 58, 97, 37, 50, 48, 98, 64, 99, 58, 49, 59, 120]
def tx1 : T := [115, 105, 112, 58, 97, 64, 98, 59, 120, 61, 49]
def tx2 : T := [115, 105, 112, 58, 97, 64, 98]
def tx3 : T := [115, 105, 112, 58, 97, 64, 98, 59, 117, 115, 101, 114, 61, 105, 112]
def tx4 : T := [115, 105, 112, 58, 97, 64, 98, 58, 53, 48, 54, 48]
theorem aw04 : ∃ u0 u1 u2 u3 u4 : Uri, (parseE tx0 = (u0, 0) ∧ parseE tx1 = (u1, 0) ∧ parseE tx2 = (u2, 0) ∧ parseE tx3 = (u3, 0) ∧ parseE tx4 = (u4, 0)) ∧ (checkE u0 = 0 ∧ checkE u1 = 0 ∧ checkE u2 = 0 ∧ checkE u3 = 0 ∧ checkE u4 = 0) ∧ equalB u1 u2 = true ∧ equalB u3 u2 = false ∧ equalB u2 u4 = false ∧ whoE u0 = ([97, 37, 50, 48, 98, 64, 99], 0) :=
  ⟨(parseE tx0).1, (parseE tx1).1, (parseE tx2).1, (parseE tx3).1, (parseE tx4).1, ⟨by decide +kernel, by decide +kernel, by decide +kernel, by decide +kernel, by decide +kernel⟩, ⟨by decide +kernel, by decide +kernel, by decide +kernel, by decide +kernel, by decide +kernel⟩, by decide +kernel, by decide +kernel, by decide +kernel, by decide +kernel⟩
end Go.Proofs.YthfmekdbcoaolaaGreatDoor
