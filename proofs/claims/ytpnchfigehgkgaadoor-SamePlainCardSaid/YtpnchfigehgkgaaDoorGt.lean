/- Chapter 4: rosterlaw04.SamePlain. -/
import Derived.Test.YtpnchfigehgkgaaDoorGs
namespace Go.Proofs.YtpnchfigehgkgaaDoor
set_option linter.unusedSimpArgs false
set_option linter.unusedVariables false
open Go.RowKit
theorem uriS_bareU {u : Uri} (h : UriS u) : UriS (bareU u) := ⟨h.scheme, h.user, h.host, h.port, by simp [bareU], by simp [bareU], by simp [bareU], by simp [bareU]⟩
set_option maxRecDepth 100000 in
set_option maxHeartbeats 8000000 in
theorem samePlain_any {a b : Uri} {vp vh vp2 vh2 : Value} {w : World} (hp : PrmB w w.heap.size vp a.params) (hh : PrmB w w.heap.size vh a.headers) (hp2 : PrmB w w.heap.size vp2 b.params) (hh2 : PrmB w w.heap.size vh2 b.headers) (sa : UriS a) (sb : UriS b) : Calls Tryd.prog 7 #[uriV a vp vh, uriV b vp2 vh2] w (TruePost w) := by
  obtain ⟨A1, c1, rfl, hp⟩ := hp
  obtain ⟨A2, c2, rfl, hh⟩ := hh
  obtain ⟨A3, c3, rfl, hp2⟩ := hp2
  obtain ⟨A4, c4, rfl, hh2⟩ := hh2
  unfold uriV
  obtain ⟨w0, hw0⟩ : ∃ w0, (w.alloc (.cells #[.string (str a.scheme), .string (str a.user), .string (str a.host), .int .i64 a.port, .slice none 0 0, .slice none 0 0] 24)).alloc (.cells #[.string (str b.scheme), .string (str b.user), .string (str b.host), .int .i64 b.port, .slice none 0 0, .slice none 0 0] 24) = w0 := ⟨_, rfl⟩
  obtain ⟨hb0, hs0, hka, hkb⟩ := two_box hw0
  have HB0 := Lib.hid hb0
  have HC : Hid (∀ W, Below w0.heap.size w0 W → W.cell? ⟨w.heap.size, 0, none⟩ = some (.string (str a.scheme)) ∧ W.cell? ⟨w.heap.size, 1, none⟩ = some (.string (str a.user)) ∧ W.cell? ⟨w.heap.size, 2, none⟩ = some (.string (str a.host)) ∧ W.cell? ⟨w.heap.size, 3, none⟩ = some (.int .i64 a.port) ∧ W.cell? ⟨w.heap.size, 4, none⟩ = some (.slice none 0 0) ∧ W.cell? ⟨w.heap.size, 5, none⟩ = some (.slice none 0 0) ∧ W.cell? ⟨w.heap.size + 1, 0, none⟩ = some (.string (str b.scheme)) ∧ W.cell? ⟨w.heap.size + 1, 1, none⟩ = some (.string (str b.user)) ∧ W.cell? ⟨w.heap.size + 1, 2, none⟩ = some (.string (str b.host)) ∧ W.cell? ⟨w.heap.size + 1, 3, none⟩ = some (.int .i64 b.port) ∧ W.cell? ⟨w.heap.size + 1, 4, none⟩ = some (.slice none 0 0) ∧ W.cell? ⟨w.heap.size + 1, 5, none⟩ = some (.slice none 0 0)) := Lib.hid (fun W h => ⟨(hka W h).cell 0, (hka W h).cell 1, (hka W h).cell 2, (hka W h).cell 3, (hka W h).cell 4, (hka W h).cell 5, (hkb W h).cell 0, (hkb W h).cell 1, (hkb W h).cell 2, (hkb W h).cell 3, (hkb W h).cell 4, (hkb W h).cell 5⟩)
  have HA := Lib.hid awake04
  have HPA : Hid (∀ W, Calls Tryd.prog 35 #[.agg #[.string (str a.scheme), .string (str a.user), .string (str a.host), .int .i64 a.port, .slice none 0 0, .slice none 0 0]] W (fun e w' => e = .returned (printV (bareU a)) ∧ Below W.heap.size W w')) := Lib.hid (fun W => Print_any (u := bareU a) (vp := .slice none 0 0) (vh := .slice none 0 0) (Nat.le_refl _) (PrmB.nil _ _) (PrmB.nil _ _) (uriS_bareU sa))
  have HPB : Hid (∀ W, Calls Tryd.prog 35 #[.agg #[.string (str b.scheme), .string (str b.user), .string (str b.host), .int .i64 b.port, .slice none 0 0, .slice none 0 0]] W (fun e w' => e = .returned (printV (bareU b)) ∧ Below W.heap.size W w')) := Lib.hid (fun W => Print_any (u := bareU b) (vp := .slice none 0 0) (vh := .slice none 0 0) (Nat.le_refl _) (PrmB.nil _ _) (PrmB.nil _ _) (uriS_bareU sb))
  have HEQ : Hid (∀ W, Calls Tryd.prog 31 #[.agg #[.string (str a.scheme), .string (str a.user), .string (str a.host), .int .i64 a.port, .slice none 0 0, .slice none 0 0], .agg #[.string (str b.scheme), .string (str b.user), .string (str b.host), .int .i64 b.port, .slice none 0 0, .slice none 0 0]] W (fun e w' => e = .returned (.bool (equalB (bareU a) (bareU b))) ∧ Below W.heap.size W w')) := Lib.hid (fun W => Equal_any (a := bareU a) (b := bareU b) (Nat.le_refl _) ⟨.slice none 0 0, .slice none 0 0, rfl, PrmB.nil _ _, PrmB.nil _ _⟩ ⟨.slice none 0 0, .slice none 0 0, rfl, PrmB.nil _ _, PrmB.nil _ _⟩ (uriS_bareU sa) (uriS_bareU sb))
  have H1 := Lib.hid (fun h => eq_no1 (a := bareU a) (b := bareU b) h)
  have H2 := Lib.hid (fun h => eq_no2 (a := bareU a) (b := bareU b) h)
  have H3 := Lib.hid (fun h k => equal_plain (a := a) (b := b) h k)
  obtain ⟨S1, E1, hV1, hk1, hn1⟩ := printV_form (bareU a)
  obtain ⟨S2, E2, hV2, hk2, hn2⟩ := printV_form (bareU b)
  rw [hV1] at HPA
  rw [hV2] at HPB
  have hE1 : E1 = checkE (bareU a) := by
    by_cases h : checkE (bareU a) = 0
    · rw [(hk1 h).2, h]
    · exact (hn1 h).2
  have hE2 : E2 = checkE (bareU b) := by
    by_cases h : checkE (bareU b) = 0
    · rw [(hk2 h).2, h]
    · exact (hn2 h).2
  have HS : Hid (E1 = 0 → E2 = 0 → (S1.toList == S2.toList) = equalB (bareU a) (bareU b)) := Lib.hid (fun h k => by
    rw [hE1] at h
    rw [hE2] at k
    rw [(hk1 h).1, (hk2 k).1, H3.out h k, strv_dec])
  rw [← hE1] at H1
  rw [← hE2] at H2
  clear H3 hk1 hk2 hn1 hn2 hV1 hV2 hE1 hE2 hp hh hp2 hh2 hb0 hs0 hka hkb sa sb
  generalize equalB (bareU a) (bareU b) = R at *
  have HW0 := Lib.hid hw0
  clear hw0
  go_enter Tryd.func7, Tryd.ntmps7
  go_wp2_with fail
  rw [HW0.out]
  refine (HPA.out w0).mono ?_
  rintro e w1 ⟨rfl, hb1⟩
  have HX1 := Lib.hid hb1
  obtain ⟨x0, x1, x2, x3, x4, x5, y0, y1, y2, y3, y4, y5⟩ := HC.out w1 hb1
  clear hb1
  go_wp2_with fail
  refine (HPB.out w1).mono ?_
  rintro e w2 ⟨rfl, hb2⟩
  have HX2 := Lib.hid (thenB HX1.out hb2)
  clear hb2 x0 x1 x2 x3 x4 x5 y0 y1 y2 y3 y4 y5
  obtain ⟨x0, x1, x2, x3, x4, x5, y0, y1, y2, y3, y4, y5⟩ := HC.out w2 HX2.out
  by_cases h1 : E1 = 0
  · by_cases h2 : E2 = 0
    · have hS := HS.out h1 h2
      have q1 : (E1 != 0) = false := by rw [h1]; rfl
      have q2 : (E2 != 0) = false := by rw [h2]; rfl
      have qR : (R == R) = true := beq_self_eq_true _
      clear h1 h2
      go_wp2_with fail
      refine (HEQ.out w2).mono ?_
      rintro e w3 ⟨rfl, hb3⟩
      have HX3 := Lib.hid (thenB HX2.out hb3)
      clear hb3 x0 x1 x2 x3 x4 x5 y0 y1 y2 y3 y4 y5
      go_wp2_with fail
      refine (HA.out w3).mono ?_
      rintro e w4 ⟨rfl, hb4⟩
      have HX4 := Lib.hid (thenB HX3.out hb4)
      clear hb4
      go_wp2
      go_ret
      exact ⟨rfl, thenB HB0.out HX4.out⟩
    · have hR := H2.out h2
      have q1 : (E1 != 0) = false := by rw [h1]; rfl
      have q2 : (E2 != 0) = true := by simpa using h2
      clear h1 h2
      go_wp2_with fail
      refine (HEQ.out w2).mono ?_
      rintro e w3 ⟨rfl, hb3⟩
      rw [hR]
      have HX3 := Lib.hid (thenB HX2.out hb3)
      clear hb3 x0 x1 x2 x3 x4 x5 y0 y1 y2 y3 y4 y5
      go_wp2_with fail
      refine (HA.out w3).mono ?_
      rintro e w4 ⟨rfl, hb4⟩
      have HX4 := Lib.hid (thenB HX3.out hb4)
      clear hb4
      go_wp2
      go_ret
      exact ⟨rfl, thenB HB0.out HX4.out⟩
  · have hR := H1.out h1
    have q1 : (E1 != 0) = true := by simpa using h1
    clear h1
    skip
    go_wp2_with fail
    refine (HEQ.out w2).mono ?_
    rintro e w3 ⟨rfl, hb3⟩
    rw [hR]
    have HX3 := Lib.hid (thenB HX2.out hb3)
    clear hb3 x0 x1 x2 x3 x4 x5 y0 y1 y2 y3 y4 y5
    go_wp2_with fail
    refine (HA.out w3).mono ?_
    rintro e w4 ⟨rfl, hb4⟩
    have HX4 := Lib.hid (thenB HX3.out hb4)
    clear hb4
    go_wp2
    go_ret
    exact ⟨rfl, thenB HB0.out HX4.out⟩
end Go.Proofs.YtpnchfigehgkgaaDoor
