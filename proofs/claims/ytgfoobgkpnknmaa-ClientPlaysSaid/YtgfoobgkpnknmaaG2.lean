/- The laws of the client: ClientPlays. -/
import Derived.Test.YtgfoobgkpnknmaaG1
import Derived.Test.YtgfoobgkpnknmaaF3
namespace Go.Proofs.Ytgfoobgkpnknmaa
set_option linter.unusedSimpArgs false
set_option linter.unusedVariables false
open Go.RowKit
def PlRel (w : World) (p rb : Nat) (most : Int) (j : Nat) (wr : World) : Prop :=
  ∃ (last : Int) (cs : List CC) (F : Nat → Prop) (A : Option Addr) (c : Nat), Both w p rb most last cs F A c wr ∧ last ≤ j
set_option maxRecDepth 100000 in
set_option maxHeartbeats 8000000 in
theorem law_cplays {w : World} {n c0 : Nat} {A0 : Option Addr} (most : Int) (h : RowC w w.heap.size n A0) (hl : n ≤ 9223372036854775807) :
    Calls Try.prog 11 #[.int .i64 most, .slice A0 n c0] w (LawPost w) := by
  by_cases ha : most < 1 ∨ 200 < most
  · have HN := Lib.hid (cnew_no most w ha)
    rcases ha with ha | ha
    all_goals
      go_enter Try.func11, Try.ntmps11
      go_wp2_with fail
      refine (HN.out).mono ?_
      rintro e w1 ⟨rfl, rfl⟩
      go_wp2_with fail
      refine (cawake_any _).mono ?_
      rintro e w3 ⟨rfl, hb3⟩
      go_wp2
      go_ret
      exact ⟨rfl, hb3⟩
  · have h1 : 1 ≤ most := by omega
    have h2 : most ≤ 200 := by omega
    have HR := Lib.hid h
    clear ha h
    go_enter Try.func11, Try.ntmps11
    go_wp2_with fail
    refine (cnew_any most w h1 h2).mono ?_
    rintro e w1 ⟨p, F, rfl, hC, hb1, hF⟩
    have HST : Hid (PlRel w p w1.heap.size most 0 (w1.alloc (.cells #[.int .i64 most, .int .i64 0, .slice none 0 0] 90))) := Lib.hid
      ⟨0, [], F, none, 0, ⟨Own.below ⟨hC, hb1, hF⟩ ((Below.refl _ _).alloc (Nat.le_refl _) _), Blk.new _ _ _, Rd.nil _ _ _ _, Nat.le_refl _, by unfold maxLen; omega, hb1.size⟩, Int.le_refl _⟩
    clear hC hb1 hF
    go_wp2
    obtain ⟨rb, hrb⟩ : ∃ rb, rb = w1.heap.size := ⟨_, rfl⟩
    rw [← hrb] at HST ⊢
    clear hrb
    go_loopw [8] (fun i wr => ∃ j : Nat, j ≤ n ∧ j ≤ 50 ∧ i = .int .i64 j ∧ PlRel w p rb most j wr) (fun i _ => 50 - (intOf i).toNat)
    case atStart => exact ⟨0, by omega, by omega, rfl, HST.out⟩
    case round =>
      obtain ⟨j, hj, hj5, rfl, last, cs, F, A, c, hB, hlast⟩ := hrel
      by_cases hlt : j < n ∧ j < 50
      · obtain ⟨hlt1, hlt2⟩ := hlt
        obtain ⟨gb, off, rfl, hgb, hc⟩ := (HR.out.below hB.own.be) (by omega)
        obtain ⟨kd, br, st, now, tx, c0, c1, c2, c3, c4⟩ := hc j hlt1
        have HB := Lib.hid hB
        have HD := Lib.hid (does_any (hB.below (below_drewN (Below.refl _ _) 1)) (by omega) kd br st now tx)
        have x0 : (0 : Int) ≤ j := by omega
        have x1 : (j : Int) < n := by omega
        clear hc hB
        go_wp2_with fail
        go_region_with ((first | (go_at_call 43; (refine (HD.out).mono ?_); rintro e w7 ⟨rfl, last7, cs7, F7, A7, c7, hB7, hl7⟩; have k2 := hB7.tb.cell 2; have HLN := Lib.hid (clen_any hB7.own.cl)) | (go_at_call 41; (refine (HLN.out).mono ?_); rintro e w8 ⟨rfl, rfl⟩)))
        all_goals
          have HB7 := Lib.hid hB7
          clear hB7 k2 c0 c1 c2 c3 c4
          go_wp2_with fail
          go_loopw [9] (fun iv wi => ∃ k : Nat, k ≤ 7 ∧ iv = .int .i64 k ∧ Both w p rb most last7 cs7 F7 A7 c7 wi) (fun iv _ => 7 - (intOf iv).toNat)
          case atStart => exact ⟨0, by omega, rfl, HB7.out⟩
          case round =>
            obtain ⟨k, hk, rfl, hBi⟩ := hrel
            have HBi := Lib.hid hBi
            have y0 : (0 : Int) ≤ k := by omega
            by_cases hk6 : k ≤ 6
            · have t0 := hBi.tb.cell 0
              have t1 := hBi.tb.cell 1
              have t2 := hBi.tb.cell 2
              have HBd := Lib.hid (hBi.below (below_drewN (Below.refl _ _) 1))
              have HL1 := Lib.hid (clive_any HBd.out.own.cl k)
              have HRL := Lib.hid (rlive_any (c := c7) HBd.out.rd (by have := HBd.out.own.cl.ok.2.1; omega) most last7 k)
              have y1 : (k : Int) ≤ 6 := by omega
              clear hBi
              go_wp2_with fail
              go_region_with ((first | (go_at_call 44; (with_reducible refine (HL9.out).mono ?_); rintro e wa ⟨rfl, rfl⟩) | (go_at_call 44; (refine (HL1.out).mono ?_); rintro e wa ⟨rfl, rfl⟩) | (go_at_call 45; (refine (HRL.out).mono ?_); rintro e w9 ⟨rfl, hb9⟩; have HB9 := Lib.hid (HBd.out.below hb9); have HL9 := Lib.hid (clive_any HB9.out.own.cl k))))
              all_goals
                clear hb9 t0 t1 t2
                go_wp2
                go_roundw
                case rel => exact ⟨k + 1, by omega, by go_num, HB9.out⟩
                case measure => simp [intOf] <;> omega
            · have HX := Lib.hid (show ∃ j2 : Nat, j2 ≤ n ∧ j2 ≤ 50 ∧ Value.int .i64 ((j : Int) + 1) = .int .i64 j2 ∧ PlRel w p rb most j2 _ from ⟨j + 1, by omega, by omega, by go_num, last7, cs7, F7, A7, c7, hBi, by omega⟩)
              clear hBi
              go_wp2
              go_roundw
              case rel => exact HX.out
              case measure => simp [intOf] <;> omega
      · have hlt2 : n ≤ j ∨ 50 ≤ j := by omega
        have HB := Lib.hid hB
        clear hlt hB
        rcases hlt2 with hlt | hlt
        all_goals
          go_wp2_with fail
          all_goals
            refine (cawake_any _).mono ?_
            rintro e w8 ⟨rfl, hb8⟩
            go_wp2
            go_ret
            exact LawPost.via HB.out.own.be ⟨rfl, hb8⟩
end Go.Proofs.Ytgfoobgkpnknmaa
