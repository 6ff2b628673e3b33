/- The reference's clock, and when something is due of a transaction. -/
import Derived.Test.YtgfoobgkpnknmaaC7
namespace Go.Proofs.Ytgfoobgkpnknmaa
set_option linter.unusedSimpArgs false
set_option linter.unusedVariables false
open Go.RowKit
def pw2 (j : Nat) : Int := if j = 0 then 5 else if j = 1 then 10 else if j = 2 then 20 else 40
theorem pw2_succ (j : Nat) (h : j < 3) : 2 * pw2 j = pw2 (j + 1) := by unfold pw2; match j, h with | 0, _ => rfl | 1, _ => rfl | 2, _ => rfl
theorem pw2_bd (j : Nat) : 5 ≤ pw2 j ∧ pw2 j ≤ 40 := by unfold pw2; omega
theorem pw2_lt (j : Nat) (h : j < 3) : pw2 j < 40 := by unfold pw2; omega
theorem pw2_ge (j : Nat) (h : 3 ≤ j) : pw2 j = 40 := by unfold pw2; omega
theorem rwaits_any (n : Int) (w : World) (hn : n ≤ 9223372036854775807) :
    Calls Try.prog 95 #[.int .i64 n] w fun e w' => e = .returned (.int .i64 (wt n)) ∧ w = w' := by
  by_cases h1 : n < 1
  · go_enter Try.func95, Try.ntmps95
    go_wp2
    go_ret
    exact ⟨by simp [wt, h1], rfl⟩
  · go_enter Try.func95, Try.ntmps95
    go_wp2
    go_loop [3, 4] (fun t i => ∃ j : Nat, j ≤ 3 ∧ (j : Int) + 1 ≤ n ∧ i = .int .i64 (j + 1) ∧ t = .int .i64 (pw2 j)) (fun _ i => (5 - intOf i).toNat)
    case atStart => exact ⟨0, by omega, by omega, rfl, rfl⟩
    case round =>
      obtain ⟨j, hj, hjn, rfl, rfl⟩ := hrel
      have hb := pw2_bd j
      by_cases hlt : (j : Int) + 1 < n
      · by_cases h3 : j < 3
        · have hl := pw2_lt j h3
          have hs := Lib.hid (pw2_succ j h3)
          go_wp2
          go_round
          case rel => exact ⟨j + 1, by omega, by omega, by go_num, int_eq hs.out⟩
          case measure => simp [intOf] <;> omega
        · have hg := pw2_ge j (by omega)
          have hw : wt n = 40 := by unfold wt; omega
          have HW := Lib.hid hw
          have hj3 : ¬ pw2 j < 40 := by omega
          have HG := Lib.hid hg
          clear hg hw
          have hgb : pw2 j ≤ 40 := hb.2
          go_wp2
          go_ret
          exact ⟨ret_int (by rw [HW.out, HG.out]), rfl⟩
      · have hw : pw2 j = wt n := by unfold pw2 wt; omega
        have HW := Lib.hid hw
        clear hw
        go_wp2
        go_ret
        exact ⟨ret_int HW.out, rfl⟩
theorem rat_any (n : Int) (w : World) (hn : n ≤ 9223372036854775807) :
    Calls Try.prog 83 #[.int .i64 n] w fun e w' => e = .returned (.tuple #[.int .i64 (atI n), .bool (okI n)]) ∧ w = w' := by
  by_cases h1 : n < 1 ∨ 100 < n
  · have e1 := Lib.hid (show atI n = 0 by unfold atI; rw [if_neg (by omega)])
    have e2 := Lib.hid (show okI n = false from decide_eq_false (by omega))
    rcases h1 with h1 | h1
    all_goals
      go_enter Try.func83, Try.ntmps83
      go_wp2
      all_goals
        go_ret2
        exact ⟨ret_pair (by rw [e1.out]) (by rw [e2.out]), rfl⟩
  · have hn1 : 1 ≤ n := by omega
    have hn2 : n ≤ 100 := by omega
    clear h1
    go_enter Try.func83, Try.ntmps83
    go_wp2
    go_loop [4, 5] (fun t i => ∃ j : Nat, (j : Int) + 1 ≤ n ∧ i = .int .i64 (j + 1) ∧ t = .int .i64 (cum j)) (fun _ i => (101 - intOf i).toNat)
    case atStart => exact ⟨0, by omega, rfl, rfl⟩
    case round =>
      obtain ⟨j, hjn, rfl, rfl⟩ := hrel
      have hcb := cum_bd j
      have hw := wt_bd ((j : Int) + 1)
      by_cases hlt : (j : Int) + 1 < n
      · go_wp2_with (go_at_call 95; refine (rwaits_any _ _ (by omega)).mono ?_; rintro e w' ⟨rfl, rfl⟩)
        go_round
        case rel => exact ⟨j + 1, by omega, by go_num, int_eq (cum_succ j).symm⟩
        case measure => simp [intOf] <;> omega
      · have hnj : n = j + 1 := by omega
        by_cases hc : j ≤ 10
        · have hcl := cum_lt j hc
          have e1 := Lib.hid (show cum j = atI n by unfold atI; rw [if_pos (by omega)]; congr 1; omega)
          have e2 := Lib.hid (show true = okI n from (decide_eq_true (by omega)).symm)
          clear hnj
          go_wp2
          go_ret2
          exact ⟨ret_pair e1.out e2.out, rfl⟩
        · have hcl := cum_ge j (by omega)
          have e1 := Lib.hid (show 0 = atI n by unfold atI; rw [if_neg (by omega)])
          have e2 := Lib.hid (show false = okI n from (decide_eq_false (by omega)).symm)
          clear hnj
          go_wp2
          go_ret2
          exact ⟨ret_pair e1.out e2.out, rfl⟩
def rcell (c : CC) : List Value := [.int .i64 c.id, .string c.br, .int .i64 c.bg, .int .i64 c.tm, .int .i64 c.rest, .string c.to, .string c.bs]
def ragg (c : CC) : Value := .agg #[.int .i64 c.id, .string c.br, .int .i64 c.bg, .int .i64 c.tm, .int .i64 c.rest, .string c.to, .string c.bs]
theorem rcell_len (c : CC) : (rcell c).length = 7 := rfl
theorem rcell_one (c : CC) : ∀ u ∈ rcell c, u.oneCell' = true := by
  intro u hu
  simp [rcell] at hu
  rcases hu with rfl | rfl | rfl | rfl | rfl | rfl | rfl <;> rfl
/-- what the reference reckons with -/
def CcOk (c : CC) : Prop := 0 ≤ c.bg ∧ c.bg ≤ 1099511627776 ∧ 0 ≤ c.tm ∧ c.tm ≤ 1000000
theorem rcat_any (c : CC) (hc : CcOk c) (w : World) :
    Calls Try.prog 79 #[.agg #[.int .i64 c.id, .string c.br, .int .i64 c.bg, .int .i64 c.tm, .int .i64 c.rest, .string c.to, .string c.bs]] w fun e w' => e = .returned (.int .i64 (cAt c)) ∧ Below w.heap.size w w' := by
  obtain ⟨hb1, hb2, ht1, ht2⟩ := hc
  have hnx := nx_bd c.tm
  have hOK := nx_ok (tm := c.tm)
  have hNO := nx_no (tm := c.tm)
  by_cases hr : 0 ≤ c.rest
  · have HC := Lib.hid (show c.rest = cAt c by unfold cAt; rw [if_pos hr])
    clear hOK hNO
    go_enter Try.func79, Try.ntmps79
    go_wp2
    go_ret
    exact ⟨ret_int HC.out, by repeat (first | exact Below.refl _ _ | refine Below.alloc ?_ (by simp) _)⟩
  · have HC := Lib.hid (show c.bg + cNx c.tm = cAt c by unfold cAt; rw [if_neg hr])
    have hat := Lib.hid (fun W => rat_any (c.tm + 1) W (by omega))
    generalize hok : okI (c.tm + 1) = ok at *
    generalize hai : atI (c.tm + 1) = ai at *
    cases ok
    · have HN := Lib.hid (hNO rfl)
      have HOK := Lib.hid hok
      have HAI := Lib.hid hai
      clear hok hai hOK hNO
      go_enter Try.func79, Try.ntmps79
      go_wp2_with fail
      refine (hat.out _).mono ?_
      rintro e w' ⟨rfl, rfl⟩
      go_wp2
      go_ret
      exact ⟨ret_int (by rw [← HC.out, HN.out]), by repeat (first | exact Below.refl _ _ | refine Below.alloc ?_ (by simp) _)⟩
    · have HN := Lib.hid (hOK rfl).1
      have hlt := (hOK rfl).2
      have hai2 : 0 ≤ ai ∧ ai ≤ 320 := by have := HN.out; omega
      have HOK := Lib.hid hok
      have HAI := Lib.hid hai
      clear hok hai hOK hNO
      go_enter Try.func79, Try.ntmps79
      go_wp2_with fail
      refine (hat.out _).mono ?_
      rintro e w' ⟨rfl, rfl⟩
      go_wp2
      go_ret
      exact ⟨ret_int (by rw [← HC.out, HN.out]), by repeat (first | exact Below.refl _ _ | refine Below.alloc ?_ (by simp) _)⟩
end Go.Proofs.Ytgfoobgkpnknmaa
