/- The laws awake, ClockWaits, ClockLeft: walks. -/
import Derived.Test.YtpmpppfklngbkaaG
import Derived.Test.YtpmpppfklngbkaaB
import Derived.Test.YtpmpppfklngbkaaK
namespace Go.Proofs.Ytpmpppfklngbkaa
open Go.RowKit
set_option maxHeartbeats 1000000 in
theorem awake_any (w : World) : Calls Try.prog 13 #[] w (LawPost w) := by
  have h1 : atI 11 = 315 := by decide
  have h2 : okI 11 = true := by decide
  have h3 : okI 12 = false := by decide
  have h4 : leftI 0 11 = 2 := by decide
  have h5 : str (tagL 1 2) = ⟨#[98, 97, 97, 97, 97, 97, 97, 97, 97, 97, 97, 97, 97, 99, 97, 97, 97, 97, 97, 97, 97, 97]⟩ := by decide
  go_enter Try.func13, Try.ntmps13
  go_wp2_with fail
  refine (at_any _ _ (by omega)).mono ?_; rintro e w' ⟨rfl, rfl⟩
  go_wp2_with fail
  refine (at_any _ _ (by omega)).mono ?_; rintro e w' ⟨rfl, rfl⟩
  go_wp2_with fail
  refine (tag_yes 1 2 _ (by omega) (by omega)).mono ?_; rintro e w' ⟨rfl, hb⟩
  rw [h5]
  go_wp2_with fail
  refine (left_any _ _ _ (by omega) (by omega) (by omega) (by omega)).mono ?_; rintro e w' ⟨rfl, rfl⟩
  go_wp2
  go_ret
  exact ⟨rfl, hb⟩

theorem law_waits (n : Int) (w : World) (h : -9223372036854775808 ≤ n ∧ n ≤ 9223372036854775807) : Calls Try.prog 3 #[.int .i64 n] w (LawPost w) := by
  go_enter Try.func3, Try.ntmps3
  go_wp2_with fail
  refine (at_any _ _ (by omega)).mono ?_; rintro e w' ⟨rfl, rfl⟩
  go_wp2_with fail
  refine (rat_any _ _).mono ?_; rintro e w' ⟨rfl, rfl⟩
  go_wp2_with fail
  refine (waits_any _ _).mono ?_; rintro e w' ⟨rfl, rfl⟩
  go_wp2_with fail
  refine (rwaits_any _ _ (by omega)).mono ?_; rintro e w' ⟨rfl, rfl⟩
  go_wp2_with fail
  refine (awake_any _).mono ?_; rintro e w' ⟨rfl, hb⟩
  go_wp2
  go_ret
  exact ⟨rfl, hb⟩

theorem law_left (a b : Int) (w : World) (ha : -9223372036854775808 ≤ a ∧ a ≤ 9223372036854775807) (hb : -9223372036854775808 ≤ b ∧ b ≤ 9223372036854775807) : Calls Try.prog 4 #[.int .i64 a, .int .i64 b] w (LawPost w) := by
  by_cases hc : a < 0 ∨ 1099511627776 < a ∨ b < 0 ∨ 1099511627776 < b
  · rcases hc with hc | hc | hc | hc
    all_goals
      go_enter Try.func4, Try.ntmps4
      go_wp2_with (go_at_call 13; refine (awake_any _).mono ?_; rintro e w' ⟨rfl, hb⟩)
      all_goals
        go_ret
        exact ⟨rfl, ‹_›⟩
  · have hl : leftI a (a + b) = (if b = 0 then 0 else (b - 1) / 10 + 1) := by unfold leftI; split <;> split <;> omega
    generalize hll : leftI a (a + b) = l at hl
    have HL := Lib.hid hll
    clear hll
    have h1 : b ≤ 10 * l := by rw [hl]; split <;> omega
    have h2 : 0 ≤ l ∧ l ≤ 1099511627776 := by rw [hl]; split <;> omega
    by_cases hb0 : b = 0
    · have h3 : l = 0 := by rw [hl, if_pos hb0]
      subst hb0 h3
      clear hl
      go_enter Try.func4, Try.ntmps4
      go_wp2_with fail
      refine (left_any _ _ _ (by omega) (by omega) (by omega) (by omega)).mono ?_; rintro e w' ⟨rfl, rfl⟩
      rw [show leftI a a = 0 from by simp [leftI]]
      go_wp2_with fail
      refine (awake_any _).mono ?_; rintro e w' ⟨rfl, hb⟩
      go_wp2
      go_ret
      exact ⟨rfl, hb⟩
    · have h3 : 10 * (l - 1) < b := by rw [hl, if_neg hb0]; omega
      have h4 : 1 ≤ l := by rw [hl, if_neg hb0]; omega
      clear hl
      go_enter Try.func4, Try.ntmps4
      go_wp2_with fail
      refine (left_any _ _ _ (by omega) (by omega) (by omega) (by omega)).mono ?_; rintro e w' ⟨rfl, rfl⟩
      rw [HL.out]
      go_wp2_with (go_at_call 13; refine (awake_any _).mono ?_; rintro e w' ⟨rfl, hb⟩)
      go_ret
      exact ⟨rfl, ‹_›⟩
end Go.Proofs.Ytpmpppfklngbkaa
