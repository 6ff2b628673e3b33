/- Chapter 4: rosterlaw04.SameOwn. -/
import Derived.Test.YtpnchfigehgkgaaDoorGw
namespace Go.Proofs.YtpnchfigehgkgaaDoor
set_option linter.unusedSimpArgs false
set_option linter.unusedVariables false
open Go.RowKit
def presT : T := [112, 114, 101, 115]
def bareW (a : Uri) : Uri := ⟨presT, a.user, a.host, 0, [], []⟩
theorem who_cases (u : Uri) : (∃ E, E ≠ 0 ∧ whoE u = ([], E)) ∨ (checkE u = 0 ∧ u.user ≠ [] ∧ whoE u = (nameT u, 0)) := by
  by_cases h : checkE u = 0
  · by_cases h2 : u.user = []
    · exact .inl ⟨31, by simp, who_no2 h h2⟩
    · exact .inr ⟨h, h2, who_ok h h2⟩
  · exact .inl ⟨_, h, who_no1 h⟩
theorem bare_check {u : Uri} (h : checkE u = 0) : checkE (bareW u) = 0 := by
  obtain ⟨h1, h2, h3, h4, h5, h6, h7, h8⟩ := check_parts h
  unfold checkE bareW
  rw [if_neg (show ¬ schemeB presT = false by decide), if_neg (by simpa using h2), if_neg (by simp [h3]), if_neg (by simp), if_neg (show ¬ listB [] = false by decide), if_neg (show ¬ listB [] = false by decide), if_neg (show ¬ ([] : List Par).all (·.has) = false by decide)]
theorem bare_who {u : Uri} (h : checkE u = 0) (h2 : u.user ≠ []) : whoE (bareW u) = (nameT u, 0) := who_ok (u := bareW u) (bare_check h) h2
theorem name_len {u : Uri} (h : checkE u = 0) : (nameT u).length ≤ 1000 := by
  obtain ⟨h1, h2, h3, h4, h5, h6, h7, h8⟩ := check_parts h
  have h3l := host_len h3
  have := esc_len users u.user
  unfold nameT
  simp only [List.length_append, List.length_cons]
  omega
set_option maxRecDepth 100000 in
set_option maxHeartbeats 8000000 in
theorem sameOwn_any {a b : Uri} {vp vh vp2 vh2 : Value} {w : World} (hp : PrmB w w.heap.size vp a.params) (hh : PrmB w w.heap.size vh a.headers) (hp2 : PrmB w w.heap.size vp2 b.params) (hh2 : PrmB w w.heap.size vh2 b.headers) (sa : UriS a) (sb : UriS b) : Calls Tryd.prog 15 #[uriV a vp vh, uriV b vp2 vh2] w (TruePost w) := by
  obtain ⟨A1, c1, rfl, hp⟩ := hp
  obtain ⟨A2, c2, rfl, hh⟩ := hh
  obtain ⟨A3, c3, rfl, hp2⟩ := hp2
  obtain ⟨A4, c4, rfl, hh2⟩ := hh2
  unfold uriV
  obtain ⟨w0, hw0⟩ : ∃ w0, (w.alloc (.cells #[.string (str a.scheme), .string (str a.user), .string (str a.host), .int .i64 a.port, .slice A1 a.params.length c1, .slice A2 a.headers.length c2] 24)).alloc (.cells #[.string (str b.scheme), .string (str b.user), .string (str b.host), .int .i64 b.port, .slice A3 b.params.length c3, .slice A4 b.headers.length c4] 24) = w0 := ⟨_, rfl⟩
  obtain ⟨hb0, hs0, hka, hkb⟩ := two_box hw0
  have HB0 := Lib.hid hb0
  have HC : Hid (∀ W, Below w0.heap.size w0 W → W.cell? ⟨w.heap.size, 0, none⟩ = some (.string (str a.scheme)) ∧ W.cell? ⟨w.heap.size, 1, none⟩ = some (.string (str a.user)) ∧ W.cell? ⟨w.heap.size, 2, none⟩ = some (.string (str a.host)) ∧ W.cell? ⟨w.heap.size, 3, none⟩ = some (.int .i64 a.port) ∧ W.cell? ⟨w.heap.size, 4, none⟩ = some (.slice A1 a.params.length c1) ∧ W.cell? ⟨w.heap.size, 5, none⟩ = some (.slice A2 a.headers.length c2) ∧ W.cell? ⟨w.heap.size + 1, 0, none⟩ = some (.string (str b.scheme)) ∧ W.cell? ⟨w.heap.size + 1, 1, none⟩ = some (.string (str b.user)) ∧ W.cell? ⟨w.heap.size + 1, 2, none⟩ = some (.string (str b.host)) ∧ W.cell? ⟨w.heap.size + 1, 3, none⟩ = some (.int .i64 b.port) ∧ W.cell? ⟨w.heap.size + 1, 4, none⟩ = some (.slice A3 b.params.length c3) ∧ W.cell? ⟨w.heap.size + 1, 5, none⟩ = some (.slice A4 b.headers.length c4)) := Lib.hid (fun W h => ⟨(hka W h).cell 0, (hka W h).cell 1, (hka W h).cell 2, (hka W h).cell 3, (hka W h).cell 4, (hka W h).cell 5, (hkb W h).cell 0, (hkb W h).cell 1, (hkb W h).cell 2, (hkb W h).cell 3, (hkb W h).cell 4, (hkb W h).cell 5⟩)
  have HSZ : Hid (∀ W, Below w0.heap.size w0 W → w.heap.size ≤ W.heap.size) := Lib.hid (fun W h => Nat.le_trans hb0.size h.size)
  have HP1 : Hid (∀ W, Below w0.heap.size w0 W → RdB W w.heap.size 3 a.params.length A1 (rows parC a.params)) := Lib.hid (fun W h => (hp.below hb0).below (h.mono hb0.size))
  have HUA : Hid (∀ W, Below w0.heap.size w0 W → UriB W w.heap.size (.agg #[.string (str a.scheme), .string (str a.user), .string (str a.host), .int .i64 a.port, .slice A1 a.params.length c1, .slice A2 a.headers.length c2]) a) := Lib.hid (fun W h => UriB.of ((hp.below hb0).below (h.mono hb0.size)) ((hh.below hb0).below (h.mono hb0.size)))
  have HUB : Hid (∀ W, Below w0.heap.size w0 W → UriB W w.heap.size (.agg #[.string (str b.scheme), .string (str b.user), .string (str b.host), .int .i64 b.port, .slice A3 b.params.length c3, .slice A4 b.headers.length c4]) b) := Lib.hid (fun W h => UriB.of ((hp2.below hb0).below (h.mono hb0.size)) ((hh2.below hb0).below (h.mono hb0.size)))
  have HA := Lib.hid awake04
  have HWA : Hid (∀ W, Below w0.heap.size w0 W → Calls Tryd.prog 43 #[.agg #[.string (str a.scheme), .string (str a.user), .string (str a.host), .int .i64 a.port, .slice A1 a.params.length c1, .slice A2 a.headers.length c2]] W (fun e w' => e = .returned (.tuple #[.string (str (whoE a).1), .int .i64 (whoE a).2]) ∧ Below W.heap.size W w')) := Lib.hid (fun W h => by
    obtain ⟨v1, v2, hv, h1, h2⟩ := HUA.out W h
    rw [hv]
    exact Who_any (u := a) (HSZ.out W h) h1 h2 sa)
  have HWB : Hid (∀ W, Below w0.heap.size w0 W → Calls Tryd.prog 43 #[.agg #[.string (str b.scheme), .string (str b.user), .string (str b.host), .int .i64 b.port, .slice A3 b.params.length c3, .slice A4 b.headers.length c4]] W (fun e w' => e = .returned (.tuple #[.string (str (whoE b).1), .int .i64 (whoE b).2]) ∧ Below W.heap.size W w')) := Lib.hid (fun W h => by
    obtain ⟨v1, v2, hv, h1, h2⟩ := HUB.out W h
    rw [hv]
    exact Who_any (u := b) (HSZ.out W h) h1 h2 sb)
  clear hp hh hp2 hh2 hb0 hs0 hka hkb HUA HUB HSZ HP1
  have HB1 : Hid (Below w0.heap.size w0 w0) := Lib.hid (Below.refl _ _)
  have HW0 := Lib.hid hw0
  clear hw0
  have CA := Lib.hid (who_cases a)
  have CB := Lib.hid (who_cases b)
  obtain ⟨x0, x1, x2, x3, x4, x5, y0, y1, y2, y3, y4, y5⟩ := HC.out w0 (Below.refl _ _)
  rcases CA.out with ⟨E, hE, ha⟩ | ⟨ka, ua, ha⟩
  · rw [ha] at HWA
    have qE : (E != 0) = true := by simpa using hE
    have qE2 : (E == 0) = false := by simpa using hE
    have qs : (str ([] : T)).toList.isEmpty = true := by rw [Lib.toList_data]; rfl
    clear ha hE CA CB
    generalize whoE b = ob at *
    obtain ⟨T1, F1⟩ := ob
    simp only at HWA HWB
    go_enter Tryd.func15, Tryd.ntmps15
    go_upto_region 1 with (fail)
    rw [HW0.out]
    go_wp2_with fail
    refine (HWA.out w0 (Below.refl _ _)).mono ?_
    rintro e w1 ⟨rfl, hb⟩
    have HX1 := Lib.hid hb
    clear hb x0 x1 x2 x3 x4 x5 y0 y1 y2 y3 y4 y5
    obtain ⟨x0, x1, x2, x3, x4, x5, y0, y1, y2, y3, y4, y5⟩ := HC.out w1 HX1.out
    go_wp2_with fail
    refine (HWB.out w1 HX1.out).mono ?_
    rintro e w2 ⟨rfl, hb⟩
    have HX2 := Lib.hid (thenB HX1.out hb)
    clear hb x0 x1 x2 x3 x4 x5 y0 y1 y2 y3 y4 y5
    go_wp2_with fail
    refine (HA.out w2).mono ?_
    rintro e w3 ⟨rfl, hb⟩
    have HX3 := Lib.hid (thenB HX2.out hb)
    clear hb
    go_wp2
    go_ret
    exact ⟨rfl, thenB HB0.out HX3.out⟩
  · rw [ha] at HWA
    rcases CB.out with ⟨F, hF, hb'⟩ | ⟨kb, ub, hb'⟩
    · rw [hb'] at HWB
      have qF : (F != 0) = true := by simpa using hF
      clear ha hF CA CB hb' ua
      generalize nameT a = NA at *
      simp only at HWA HWB
      go_enter Tryd.func15, Tryd.ntmps15
      go_upto_region 1 with (fail)
      rw [HW0.out]
      go_wp2_with fail
      refine (HWA.out w0 (Below.refl _ _)).mono ?_
      rintro e w1 ⟨rfl, hb⟩
      have HX1 := Lib.hid hb
      clear hb x0 x1 x2 x3 x4 x5 y0 y1 y2 y3 y4 y5
      obtain ⟨x0, x1, x2, x3, x4, x5, y0, y1, y2, y3, y4, y5⟩ := HC.out w1 HX1.out
      go_wp2_with fail
      refine (HWB.out w1 HX1.out).mono ?_
      rintro e w2 ⟨rfl, hb⟩
      have HX2 := Lib.hid (thenB HX1.out hb)
      clear hb x0 x1 x2 x3 x4 x5 y0 y1 y2 y3 y4 y5
      go_wp2_with fail
      refine (HA.out w2).mono ?_
      rintro e w3 ⟨rfl, hb⟩
      have HX3 := Lib.hid (thenB HX2.out hb)
      clear hb
      go_wp2
      go_ret
      exact ⟨rfl, thenB HB0.out HX3.out⟩
    · rw [hb'] at HWB
      have HIN := Lib.hid (name_inj ka kb ua ub)
      have HHO : Hid (∀ W, Calls Tryd.prog 45 #[.string (str (nameT a))] W (fun e w' => e = .returned (.tuple #[.string (str a.host), .int .i64 0]) ∧ Below W.heap.size W w')) := Lib.hid (fun W => by
        have h := sHost_any (s := nameT a) (w := W) (Nat.le_trans (name_len ka) (by omega))
        unfold HostPost at h
        rw [hostV_is (host_name ka ua)] at h
        exact h)
      have HBW : Hid (∀ W, Calls Tryd.prog 43 #[.agg #[.string ⟨#[112, 114, 101, 115]⟩, .string (str a.user), .string (str a.host), .int .i64 0, .slice none 0 0, .slice none 0 0]] W (fun e w' => e = .returned (.tuple #[.string (str (nameT a)), .int .i64 0]) ∧ Below W.heap.size W w')) := Lib.hid (fun W => by
        have h := Who_any (u := bareW a) (vp := .slice none 0 0) (vh := .slice none 0 0) (w := W) (Nat.le_refl _) (PrmB.nil _ _) (PrmB.nil _ _) (uriS_ok (bare_check ka))
        unfold WhoPost at h
        rw [whoV_is (bare_who ka ua)] at h
        exact h)
      have qN : ((str (nameT a)).toList == (str (nameT a)).toList) = true := beq_self_eq_true _
      have qH : ((str a.host).toList == (str a.host).toList) = true := beq_self_eq_true _
      clear ha CA CB hb' ka kb ub ua
      generalize nameT a = NA at *
      generalize nameT b = NB at *
      simp only at HWA HWB
      go_enter Tryd.func15, Tryd.ntmps15
      go_upto_region 1 with (fail)
      rw [HW0.out]
      go_wp2_with fail
      refine (HWA.out w0 (Below.refl _ _)).mono ?_
      rintro e w1 ⟨rfl, hb⟩
      have HX1 := Lib.hid hb
      clear hb x0 x1 x2 x3 x4 x5 y0 y1 y2 y3 y4 y5
      obtain ⟨x0, x1, x2, x3, x4, x5, y0, y1, y2, y3, y4, y5⟩ := HC.out w1 HX1.out
      go_wp2_with fail
      refine (HWB.out w1 HX1.out).mono ?_
      rintro e w2 ⟨rfl, hb⟩
      have HX2 := Lib.hid (thenB HX1.out hb)
      clear hb x0 x1 x2 x3 x4 x5 y0 y1 y2 y3 y4 y5
      obtain ⟨x0, x1, x2, x3, x4, x5, y0, y1, y2, y3, y4, y5⟩ := HC.out w2 HX2.out
      go_upto_region 6 with (fail)
      obtain ⟨w3, hw3⟩ : ∃ w3, w2.alloc (.cells #[.string ⟨#[112, 114, 101, 115]⟩, .string (str a.user), .string (str a.host), .int .i64 0, .slice none 0 0, .slice none 0 0] 24) = w3 := ⟨_, rfl⟩
      have HX3 : Hid (Below w0.heap.size w0 w3) := Lib.hid (thenB HX2.out (hw3 ▸ (Below.refl _ _).alloc (Nat.le_refl _) _))
      have hkb : Blk w3 w2.heap.size 24 #[.string ⟨#[112, 114, 101, 115]⟩, .string (str a.user), .string (str a.host), .int .i64 0, .slice none 0 0, .slice none 0 0] := hw3 ▸ Blk.new w2 _ _
      rw [hw3]
      have k0 := hkb.cell 0
      have k1 := hkb.cell 1
      have k2 := hkb.cell 2
      have k3 := hkb.cell 3
      have k4 := hkb.cell 4
      have k5 := hkb.cell 5
      clear hw3 hkb x0 x1 x2 x3 x4 x5 y0 y1 y2 y3 y4 y5
      go_wp2_with fail
      refine (HBW.out w3).mono ?_
      rintro e w4 ⟨rfl, hb⟩
      have HX4 := Lib.hid (thenB HX3.out hb)
      clear hb k0 k1 k2 k3 k4 k5
      go_wp2_with fail
      refine (HHO.out w4).mono ?_
      rintro e w5 ⟨rfl, hb⟩
      have HX5 := Lib.hid (thenB HX4.out hb)
      clear hb
      obtain ⟨x0, x1, x2, x3, x4, x5, y0, y1, y2, y3, y4, y5⟩ := HC.out w5 HX5.out
      by_cases hu : a.user = b.user
      · by_cases hh : a.host = b.host
        · obtain rfl := HIN.out.2 ⟨hu, hh⟩
          have qU : ((str a.user).toList == (str b.user).toList) = true := by rw [hu]; exact beq_self_eq_true _
          have qO : ((str a.host).toList == (str b.host).toList) = true := by rw [hh]; exact beq_self_eq_true _
          clear hu hh HIN
          go_wp2_with fail
          refine (HA.out w5).mono ?_
          rintro e w6 ⟨rfl, hb⟩
          have HX6 := Lib.hid (thenB HX5.out hb)
          clear hb
          go_wp2
          go_ret
          exact ⟨rfl, thenB HB0.out HX6.out⟩
        · have hn : NA ≠ NB := fun e => hh (HIN.out.1 e).2
          have qN1 := str_neb hn
          have qN2 := str_ne hn
          have qO1 := str_neb hh
          have qO2 := str_ne hh
          have qU : ((str a.user).toList == (str b.user).toList) = true := by rw [hu]; exact beq_self_eq_true _
          clear hu hh HIN hn
          go_wp2_with fail
          refine (HA.out w5).mono ?_
          rintro e w6 ⟨rfl, hb⟩
          have HX6 := Lib.hid (thenB HX5.out hb)
          clear hb
          go_wp2
          go_ret
          exact ⟨rfl, thenB HB0.out HX6.out⟩
      · have hn : NA ≠ NB := fun e => hu (HIN.out.1 e).1
        have qN1 := str_neb hn
        have qN2 := str_ne hn
        have qU1 := str_neb hu
        have qU2 := str_ne hu
        clear hu HIN hn
        go_wp2_with fail
        refine (HA.out w5).mono ?_
        rintro e w6 ⟨rfl, hb⟩
        have HX6 := Lib.hid (thenB HX5.out hb)
        clear hb
        go_wp2
        go_ret
        exact ⟨rfl, thenB HB0.out HX6.out⟩
end Go.Proofs.YtpnchfigehgkgaaDoor
