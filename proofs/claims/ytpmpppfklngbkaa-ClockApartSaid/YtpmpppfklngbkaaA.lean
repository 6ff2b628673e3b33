/- What the clock package answers of ints: contracts, part 1. -/
import Derived.Test.YtpmpppfklngbkaaProg
import Derived.Test.YtpmpppfklngbkaaM
namespace Go.Proofs.Ytpmpppfklngbkaa
open Go.RowKit

def wt (n : Int) : Int := if n < 1 then 0 else if n > 4 then 40 else if n = 1 then 5 else if n = 2 then 10 else if n = 3 then 20 else 40
def cum (j : Nat) : Int := if j = 0 then 0 else if j = 1 then 5 else if j = 2 then 15 else 40 * j - 85
theorem cum_succ (j : Nat) : cum (j + 1) = cum j + wt ((j : Int) + 1) := by unfold cum wt; split <;> split <;> omega
theorem cum_bd (j : Nat) : 0 ≤ cum j ∧ cum j ≤ 40 * j := by unfold cum; omega
theorem cum_lt (j : Nat) (h : j ≤ 10) : cum j < 320 := by unfold cum; omega
theorem cum_ge (j : Nat) (h : 11 ≤ j) : 320 ≤ cum j := by unfold cum; omega
theorem wt_bd (n : Int) : 0 ≤ wt n ∧ wt n ≤ 40 := by unfold wt; omega
def okI (n : Int) : Bool := decide (1 ≤ n ∧ n ≤ 11)
def atI (n : Int) : Int := if 1 ≤ n ∧ n ≤ 11 then cum (n.toNat - 1) else 0

set_option maxHeartbeats 400000 in
theorem waits_any (n : Int) (w : World) :
    Calls Try.prog 11 #[.int .i64 n] w fun e w' => e = .returned (.int .i64 (wt n)) ∧ w = w' := by
  by_cases h1 : n < 1
  · go_enter Try.func11, Try.ntmps11
    go_wp2
    go_ret
    exact ⟨by simp [wt, h1], rfl⟩
  · by_cases h4 : 4 < n
    · go_enter Try.func11, Try.ntmps11
      go_wp2
      go_ret
      exact ⟨by simp [wt, h1, h4], rfl⟩
    · have hn : n = 1 ∨ n = 2 ∨ n = 3 ∨ n = 4 := by omega
      rcases hn with rfl | rfl | rfl | rfl
      all_goals
        go_enter Try.func11, Try.ntmps11
        go_wp2
        go_ret
        exact ⟨by rfl, rfl⟩


set_option maxHeartbeats 400000 in
theorem at_any (n : Int) (w : World) (hb : n ≤ 9223372036854775807) :
    Calls Try.prog 9 #[.int .i64 n] w fun e w' => e = .returned (.tuple #[.int .i64 (atI n), .bool (okI n)]) ∧ w = w' := by
  go_enter Try.func9, Try.ntmps9
  go_wp2
  go_loop [4, 5] (fun t i => ∃ j : Nat, j ≤ 11 ∧ (j = 0 ∨ (j : Int) + 1 ≤ n) ∧ i = .int .i64 (j + 1) ∧ t = .int .i64 (cum j)) (fun _ i => (12 - intOf i).toNat)
  case atStart => exact ⟨0, by omega, by omega, rfl, rfl⟩
  case round =>
    obtain ⟨j, hj, hjn, rfl, rfl⟩ := hrel
    have hcb := cum_bd j
    have hw := wt_bd ((j : Int) + 1)
    by_cases hlt : (j : Int) + 1 < n
    · by_cases hc : j ≤ 10
      · have hcl := cum_lt j hc
        go_wp2_with (go_at_call 11; refine (waits_any _ _).mono ?_; rintro e w' ⟨rfl, rfl⟩)
        go_round
        case rel => exact ⟨j + 1, by omega, by omega, by go_num, int_eq (cum_succ j).symm⟩
        case measure => simp [intOf] <;> omega
      · have hcl := cum_ge j (by omega)
        have hn : n ≥ 12 := by omega
        go_wp2
        go_ret2
        exact ⟨ret_pair (by simp [atI]; omega) (by simp [okI]; omega), rfl⟩
    · by_cases hc : j ≤ 10
      · have hcl := cum_lt j hc
        by_cases hn1 : n < 1
        · go_wp2
          go_ret2
          exact ⟨ret_pair (by simp [atI]; omega) (by simp [okI]; omega), rfl⟩
        · have hnj : n = j + 1 := by omega
          have hjj : n.toNat - 1 = j := by omega
          have H := Lib.hid hnj
          clear hnj
          have H2 := Lib.hid hjj
          clear hjj
          go_wp2
          go_ret2
          exact ⟨ret_pair (by have := H.out; simp only [atI, H2.out]; rw [if_pos (by omega)]) (by simp [okI]; omega), rfl⟩
      · have hcl := cum_ge j (by omega)
        go_wp2
        go_ret2
        exact ⟨ret_pair (by simp [atI]; omega) (by simp [okI]; omega), rfl⟩
end Go.Proofs.Ytpmpppfklngbkaa
