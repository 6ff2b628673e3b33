/- What the clock package and the reference answer of ints: contracts, part 2. -/
import Derived.Test.YtpmpppfklngbkaaA
namespace Go.Proofs.Ytpmpppfklngbkaa
open Go.RowKit

def dbl (j : Nat) : Int := if j = 0 then 5 else if j = 1 then 10 else if j = 2 then 20 else 40
theorem dbl_bd (j : Nat) : 5 ≤ dbl j ∧ dbl j ≤ 40 := by unfold dbl; omega
theorem dbl_lt (j : Nat) (h : j ≤ 2) : dbl j < 40 ∧ dbl (j + 1) = 2 * dbl j := by unfold dbl; omega
theorem dbl_ge (j : Nat) (h : 3 ≤ j) : dbl j = 40 := by unfold dbl; omega
theorem dbl_wt (j : Nat) (n : Int) (hn : 1 ≤ n) (hj : j ≤ 3) (h : n = j + 1 ∨ (j = 3 ∧ 4 ≤ n)) : dbl j = wt n := by unfold dbl wt; omega

set_option maxHeartbeats 400000 in
theorem rwaits_any (n : Int) (w : World) (hb : n ≤ 9223372036854775807) :
    Calls Try.prog 12 #[.int .i64 n] w fun e w' => e = .returned (.int .i64 (wt n)) ∧ w = w' := by
  by_cases h1 : n < 1
  · go_enter Try.func12, Try.ntmps12
    go_wp2
    go_ret
    exact ⟨by simp [wt, h1], rfl⟩
  · go_enter Try.func12, Try.ntmps12
    go_wp2
    go_loop [3, 4] (fun t i => ∃ j : Nat, j ≤ 3 ∧ ((j : Int) + 1 ≤ n) ∧ i = .int .i64 (j + 1) ∧ t = .int .i64 (dbl j)) (fun _ i => (12 - intOf i).toNat)
    case atStart => exact ⟨0, by omega, by omega, rfl, rfl⟩
    case round =>
      obtain ⟨j, hj, hjn, rfl, rfl⟩ := hrel
      have hcb := dbl_bd j
      by_cases hlt : (j : Int) + 1 < n
      · by_cases hc : j ≤ 2
        · obtain ⟨hl1, hl2⟩ := dbl_lt j hc
          have H := Lib.hid hl2
          clear hl2
          go_wp2
          go_round
          case rel => exact ⟨j + 1, by omega, by omega, by go_num, int_eq H.out.symm⟩
          case measure => simp [intOf] <;> omega
        · have hcl : 40 ≤ dbl j := by have := dbl_ge j (by omega); omega
          have hd := Lib.hid (dbl_wt j n (by omega) (by omega) (by omega))
          go_wp2
          go_ret
          exact ⟨ret_int hd.out, rfl⟩
      · have hd := Lib.hid (dbl_wt j n (by omega) (by omega) (by omega))
        go_wp2
        all_goals
          go_ret
          exact ⟨ret_int hd.out, rfl⟩

set_option maxHeartbeats 400000 in
theorem rat_any (n : Int) (w : World) :
    Calls Try.prog 10 #[.int .i64 n] w fun e w' => e = .returned (.tuple #[.int .i64 (atI n), .bool (okI n)]) ∧ w = w' := by
  by_cases h1 : n < 1
  · go_enter Try.func10, Try.ntmps10
    go_wp2
    go_ret2
    exact ⟨ret_pair (by simp [atI]; omega) (by simp [okI]; omega), rfl⟩
  by_cases h2 : 100 < n
  · go_enter Try.func10, Try.ntmps10
    go_wp2
    go_ret2
    exact ⟨ret_pair (by simp [atI]; omega) (by simp [okI]; omega), rfl⟩
  go_enter Try.func10, Try.ntmps10
  go_wp2
  go_loop [4, 5] (fun t i => ∃ j : Nat, (j : Int) + 1 ≤ n ∧ i = .int .i64 (j + 1) ∧ t = .int .i64 (cum j)) (fun _ i => (100 - intOf i).toNat)
  case atStart => exact ⟨0, by omega, rfl, rfl⟩
  case round =>
    obtain ⟨j, hjn, rfl, rfl⟩ := hrel
    have hcb := cum_bd j
    have hw := wt_bd ((j : Int) + 1)
    by_cases hlt : (j : Int) + 1 < n
    · go_wp2_with (go_at_call 12; refine (rwaits_any _ _ (by omega)).mono ?_; rintro e w' ⟨rfl, rfl⟩)
      go_round
      case rel => exact ⟨j + 1, by omega, by go_num, int_eq (cum_succ j).symm⟩
      case measure => simp [intOf] <;> omega
    · by_cases hc : j ≤ 10
      · have hcl := cum_lt j hc
        have hjj : n.toNat - 1 = j := by omega
        have H2 := Lib.hid hjj
        clear hjj
        go_wp2
        go_ret2
        exact ⟨ret_pair (by simp only [atI, H2.out]; rw [if_pos (by omega)]) (by simp [okI]; omega), rfl⟩
      · have hcl := cum_ge j (by omega)
        go_wp2
        go_ret2
        exact ⟨ret_pair (by simp [atI]; omega) (by simp [okI]; omega), rfl⟩

theorem u64_diff (a b : Int) (ha : -9223372036854775808 ≤ a) (ha' : a ≤ 9223372036854775807) (hb : -9223372036854775808 ≤ b) (hb' : b ≤ 9223372036854775807) (h : a < b) :
    IntKind.u64.wrap (IntKind.u64.wrap b - IntKind.u64.wrap a) = b - a := by simp only [IntKind.wrap_u64]; omega
def leftI (a b : Int) : Int := if b ≤ a then 0 else (b - a - 1) / 10 + 1
set_option maxHeartbeats 400000 in
theorem left_any (a b : Int) (w : World) (ha : -9223372036854775808 ≤ a) (ha' : a ≤ 9223372036854775807) (hb : -9223372036854775808 ≤ b) (hb' : b ≤ 9223372036854775807) :
    Calls Try.prog 14 #[.int .i64 a, .int .i64 b] w fun e w' => e = .returned (.int .i64 (leftI a b)) ∧ w = w' := by
  by_cases h1 : b ≤ a
  · go_enter Try.func14, Try.ntmps14
    go_wp2
    go_ret
    exact ⟨by simp [leftI, h1], rfl⟩
  · go_enter Try.func14, Try.ntmps14
    go_wp2
    go_ret
    exact ⟨ret_int (by
      rw [u64_diff a b ha ha' hb hb' (by omega), u64_in (b - a - 1) (by omega), Int.tdiv_eq_ediv_of_nonneg (by omega), u64_in ((b - a - 1) / 10) (by omega), IntWalk.wrap64_in ((b - a - 1) / 10) (by omega), IntWalk.wrap64_in _ (by omega)]
      simp [leftI]; omega), rfl⟩

set_option maxHeartbeats 400000 in
theorem rleft_any (a b : Int) (w : World) (ha : -9223372036854775808 ≤ a) (ha' : a ≤ 9223372036854775807) (hb : -9223372036854775808 ≤ b) (hb' : b ≤ 9223372036854775807) :
    Calls Try.prog 19 #[.int .i64 a, .int .i64 b] w fun e w' => e = .returned (.int .i64 (leftI a b)) ∧ w = w' := by
  by_cases h1 : b ≤ a
  · go_enter Try.func19, Try.ntmps19
    go_wp2
    go_ret
    exact ⟨by simp [leftI, h1], rfl⟩
  · go_enter Try.func19, Try.ntmps19
    go_wp2
    all_goals
     go_ret
     exact ⟨ret_int (by
      rename_i hx
      rw [u64_diff a b ha ha' hb hb' (by omega)] at hx ⊢
      rw [Int.tmod_eq_emod_of_nonneg (by omega)] at hx
      rw [Int.tdiv_eq_ediv_of_nonneg (by omega), u64_in ((b - a) / 10) (by omega)]
      try rw [u64_in ((b - a) / 10 + 1) (by omega)]
      rw [IntWalk.wrap64_in _ (by omega)]
      simp [leftI]; omega), rfl⟩

def addI (t d : Int) : Int × Int := if t < 0 ∨ 1099511627776 < t ∨ d < 0 ∨ 1099511627776 < d then (0, 1) else if 1099511627776 < t + d then (0, 9) else (t + d, 0)
set_option maxHeartbeats 400000 in
theorem add_any (t d : Int) (w : World) :
    Calls Try.prog 15 #[.int .i64 t, .int .i64 d] w fun e w' => e = .returned (.tuple #[.int .i64 (addI t d).1, .int .i64 (addI t d).2]) ∧ w = w' := by
  go_enter Try.func15, Try.ntmps15
  go_wp2
  all_goals
    go_ret2
    exact ⟨ret_pair2 (by unfold addI; split <;> (try split) <;> first | rfl | (exfalso; omega)) (by unfold addI; split <;> (try split) <;> first | rfl | (exfalso; omega)), rfl⟩
set_option maxHeartbeats 400000 in
theorem radd_any (t d : Int) (w : World) :
    Calls Try.prog 16 #[.int .i64 t, .int .i64 d] w fun e w' => e = .returned (.tuple #[.int .i64 (addI t d).1, .int .i64 (addI t d).2]) ∧ w = w' := by
  go_enter Try.func16, Try.ntmps16
  go_wp2
  all_goals
    go_ret2
    exact ⟨ret_pair2 (by unfold addI; split <;> (try split) <;> first | rfl | (exfalso; omega)) (by unfold addI; split <;> (try split) <;> first | rfl | (exfalso; omega)), rfl⟩
def secI (n : Int) : Int × Int := if n < 0 ∨ 2147483647 < n then (0, 9) else (10 * n, 0)
set_option maxHeartbeats 400000 in
theorem sec_any (n : Int) (w : World) :
    Calls Try.prog 17 #[.int .i64 n] w fun e w' => e = .returned (.tuple #[.int .i64 (secI n).1, .int .i64 (secI n).2]) ∧ w = w' := by
  go_enter Try.func17, Try.ntmps17
  go_wp2
  all_goals
    go_ret2
    exact ⟨ret_pair2 (by unfold secI; split <;> first | rfl | (exfalso; omega) | (simp; omega)) (by unfold secI; split <;> first | rfl | (exfalso; omega)), rfl⟩
set_option maxHeartbeats 400000 in
theorem rsec_any (n : Int) (w : World) :
    Calls Try.prog 18 #[.int .i64 n] w fun e w' => e = .returned (.tuple #[.int .i64 (secI n).1, .int .i64 (secI n).2]) ∧ w = w' := by
  go_enter Try.func18, Try.ntmps18
  go_wp2
  all_goals
    go_ret2
    exact ⟨ret_pair2 (by unfold secI; split <;> first | rfl | (exfalso; omega) | (simp; omega)) (by unfold secI; split <;> first | rfl | (exfalso; omega)), rfl⟩
end Go.Proofs.Ytpmpppfklngbkaa
