/- The laws ClockEleven, ClockAdds, ClockTags, ClockApart: walks. -/
import Derived.Test.YtpmpppfklngbkaaL
namespace Go.Proofs.Ytpmpppfklngbkaa
open Go.RowKit
theorem waits_x {n x : Int} (h : wt n = x) (w : World) : Calls Try.prog 11 #[.int .i64 n] w fun e w' => e = .returned (.int .i64 x) ∧ w = w' := h ▸ waits_any n w
set_option maxHeartbeats 1000000 in
theorem law_eleven (n : Int) (w : World) (h : -9223372036854775808 ≤ n ∧ n ≤ 9223372036854775807) : Calls Try.prog 5 #[.int .i64 n] w (LawPost w) := by
  by_cases hn : 1 ≤ n ∧ n ≤ 11
  · by_cases h1 : n = 1
    · subst h1
      go_enter Try.func5, Try.ntmps5
      go_wp2_with fail
      refine (at_any _ _ (by omega)).mono ?_; rintro e w' ⟨rfl, rfl⟩
      rw [show atI 1 = 0 from by decide, show okI 1 = true from by decide]
      go_wp2_with fail
      refine (awake_any _).mono ?_; rintro e w' ⟨rfl, hb⟩
      go_wp2
      go_ret
      exact ⟨rfl, hb⟩
    · have e1 : okI n = true := by simp [okI]; omega
      have e2 : okI (n - 1) = true := by simp [okI]; omega
      have e3 : atI n = atI (n - 1) + wt (n - 1) := by
        simp only [atI]
        rw [if_pos (by omega), if_pos (by omega)]
        have := cum_succ ((n - 1).toNat - 1)
        rw [show (n - 1).toNat - 1 + 1 = n.toNat - 1 from by omega, show (((n - 1).toNat - 1 : Nat) : Int) + 1 = n - 1 from by omega] at this
        exact this
      have b1 : 0 ≤ atI (n - 1) ∧ atI (n - 1) + wt (n - 1) < 320 := by
        rw [← e3]
        have q1 := cum_bd ((n - 1).toNat - 1)
        have q2 := cum_lt (n.toNat - 1) (by omega)
        simp only [atI]
        rw [if_pos (by omega), if_pos (by omega)]
        exact ⟨q1.1, q2⟩
      have b2 : 5 ≤ wt (n - 1) ∧ wt (n - 1) ≤ 40 := by unfold wt; omega
      have hne : (n == 1) = false := by simp; omega
      generalize hx : wt (n - 1) = x at *
      have HX := Lib.hid hx
      clear hx
      generalize hy : atI (n - 1) = y at *
      have HY := Lib.hid hy
      clear hy
      generalize ht : atI n = t at *
      subst e3
      have HT := Lib.hid ht
      clear ht
      have E1 := Lib.hid e1
      have E2 := Lib.hid e2
      clear e1 e2
      go_enter Try.func5, Try.ntmps5
      go_wp2_with fail
      refine (at_any _ _ (by omega)).mono ?_; rintro e w' ⟨rfl, rfl⟩
      rw [HT.out, E1.out]
      go_wp2_with fail
      refine (at_any _ _ (by omega)).mono ?_; rintro e w' ⟨rfl, rfl⟩
      rw [HY.out, E2.out]
      go_wp2_with (first | (go_at_call 11; refine (waits_x HX.out _).mono ?_; rintro e w' ⟨rfl, rfl⟩) | (go_at_call 13; refine (awake_any _).mono ?_; rintro e w' ⟨rfl, hb⟩))
      go_ret
      exact ⟨rfl, hb⟩
  · have e1 : okI n = false := by simp [okI]; omega
    have e2 : atI n = 0 := by simp [atI]; omega
    have hd : decide (n ≥ 1) = false ∨ decide (n ≤ 11) = false := by simp; omega
    go_enter Try.func5, Try.ntmps5
    go_wp2_with fail
    refine (at_any _ _ (by omega)).mono ?_; rintro e w' ⟨rfl, rfl⟩
    rw [e1, e2]
    clear e1 e2
    by_cases h1 : 1 ≤ n
    all_goals
      go_wp2_with (go_at_call 13; refine (awake_any _).mono ?_; rintro e w' ⟨rfl, hb⟩)
      go_ret
      exact ⟨rfl, hb⟩

theorem law_adds (a b : Int) (w : World) (ha : -9223372036854775808 ≤ a ∧ a ≤ 9223372036854775807) (hb : -9223372036854775808 ≤ b ∧ b ≤ 9223372036854775807) : Calls Try.prog 6 #[.int .i64 a, .int .i64 b] w (LawPost w) := by
  go_enter Try.func6, Try.ntmps6
  go_wp2_with fail
  refine (add_any _ _ _).mono ?_; rintro e w' ⟨rfl, rfl⟩
  go_wp2_with fail
  refine (radd_any _ _ _).mono ?_; rintro e w' ⟨rfl, rfl⟩
  go_wp2_with fail
  refine (sec_any _ _).mono ?_; rintro e w' ⟨rfl, rfl⟩
  go_wp2_with fail
  refine (rsec_any _ _).mono ?_; rintro e w' ⟨rfl, rfl⟩
  go_wp2_with fail
  refine (left_any _ _ _ (by omega) (by omega) (by omega) (by omega)).mono ?_; rintro e w' ⟨rfl, rfl⟩
  go_wp2_with fail
  refine (rleft_any _ _ _ (by omega) (by omega) (by omega) (by omega)).mono ?_; rintro e w' ⟨rfl, rfl⟩
  go_wp2_with fail
  refine (awake_any _).mono ?_; rintro e w' ⟨rfl, hb⟩
  go_wp2
  go_ret
  exact ⟨rfl, hb⟩

set_option maxHeartbeats 1000000 in
theorem law_tags (d : Nat) (c : Int) (s : ByteArray) (w : World) (hd : d < 18446744073709551616) (hc : -9223372036854775808 ≤ c ∧ c ≤ 9223372036854775807) (hs : s.size ≤ 9223372036854775807) :
    Calls Try.prog 7 #[.int .u64 d, .int .i64 c, .string s] w (LawPost w) := by
  have T : ∃ l : List UInt8, ∃ n : Int, (∀ w : World, Calls Try.prog 20 #[.int .u64 d, .int .i64 c] w fun e w' => e = .returned (.tuple #[.string (str l), .int .i64 n]) ∧ Below w.heap.size w w') ∧
      (∀ w : World, Calls Try.prog 21 #[.int .u64 d, .int .i64 c] w fun e w' => e = .returned (.tuple #[.string (str l), .int .i64 n]) ∧ w = w') := by
    by_cases h : c < 0 ∨ 1099511627776 < c
    · exact ⟨_, _, fun w => (tag_no d c w h).mono fun e w' q => ⟨q.1, q.2 ▸ Below.refl _ _⟩, fun w => rtag_no d c w h⟩
    · obtain ⟨k, rfl⟩ := Int.eq_ofNat_of_zero_le (show 0 ≤ c by omega)
      exact ⟨_, _, fun w => tag_yes d k w hd (by omega), fun w => rtag_yes d k w hd (by omega)⟩
  obtain ⟨l, n, T1, T2⟩ := T
  have T1 := Lib.hid T1
  have T2 := Lib.hid T2
  have hl : (str l).toList = (str l).toList := rfl
  generalize str l = t at *
  clear hl
  go_enter Try.func7, Try.ntmps7
  go_wp2_with fail
  refine (T1.out _).mono ?_; rintro e w1 ⟨rfl, hb1⟩
  go_wp2_with fail
  refine (T2.out _).mono ?_; rintro e w1 ⟨rfl, rfl⟩
  go_wp2_with fail
  refine (read_any s _ hs).mono ?_; rintro e w2 ⟨hv, hb2⟩
  have HV := Lib.hid hv
  rcases hv with ⟨d', c', _, rfl⟩ | ⟨_, rfl⟩
  all_goals
    go_wp2_with fail
    refine (rread_any s _ hs).mono ?_; rintro e w3 ⟨hv', hb3⟩
    obtain rfl := RdV.unique hv' HV.out
    go_wp2_with fail
    refine (awake_any _).mono ?_; rintro e w' ⟨rfl, hb⟩
    go_wp2
    go_ret
    exact LawPost.via (hb1.trans (hb2.mono hb1.size)) (LawPost.via hb3 ⟨rfl, hb⟩)

set_option maxHeartbeats 1000000 in
theorem law_apart (d : Nat) (c : Int) (d' : Nat) (c' : Int) (w : World) (hd : d < 18446744073709551616) (hc : -9223372036854775808 ≤ c ∧ c ≤ 9223372036854775807) (hd' : d' < 18446744073709551616) (hc' : -9223372036854775808 ≤ c' ∧ c' ≤ 9223372036854775807) :
    Calls Try.prog 8 #[.int .u64 d, .int .i64 c, .int .u64 d', .int .i64 c'] w (LawPost w) := by
  by_cases h1 : c < 0 ∨ 1099511627776 < c
  · by_cases h2 : c' < 0 ∨ 1099511627776 < c'
    · go_enter Try.func8, Try.ntmps8
      go_wp2_with fail
      refine (tag_no _ _ _ h1).mono ?_; rintro e w1 ⟨rfl, rfl⟩
      go_wp2_with fail
      refine (tag_no _ _ _ h2).mono ?_; rintro e w1 ⟨rfl, rfl⟩
      go_wp2_with fail
      refine (awake_any _).mono ?_; rintro e w' ⟨rfl, hb⟩
      go_wp2
      go_ret
      exact ⟨rfl, hb⟩
    · obtain ⟨k', rfl⟩ := Int.eq_ofNat_of_zero_le (show 0 ≤ c' by omega)
      go_enter Try.func8, Try.ntmps8
      go_wp2_with fail
      refine (tag_no _ _ _ h1).mono ?_; rintro e w1 ⟨rfl, rfl⟩
      go_wp2_with fail
      refine (tag_yes _ _ _ hd' (by omega)).mono ?_; rintro e w1 ⟨rfl, hb1⟩
      go_wp2_with fail
      refine (awake_any _).mono ?_; rintro e w' ⟨rfl, hb⟩
      go_wp2
      go_ret
      exact LawPost.via hb1 ⟨rfl, hb⟩
  · obtain ⟨k, rfl⟩ := Int.eq_ofNat_of_zero_le (show 0 ≤ c by omega)
    by_cases h2 : c' < 0 ∨ 1099511627776 < c'
    · go_enter Try.func8, Try.ntmps8
      go_wp2_with fail
      refine (tag_yes _ _ _ hd (by omega)).mono ?_; rintro e w1 ⟨rfl, hb1⟩
      go_wp2_with fail
      refine (tag_no _ _ _ h2).mono ?_; rintro e w1 ⟨rfl, rfl⟩
      go_wp2_with fail
      refine (awake_any _).mono ?_; rintro e w' ⟨rfl, hb⟩
      go_wp2
      go_ret
      exact LawPost.via hb1 ⟨rfl, hb⟩
    · obtain ⟨k', rfl⟩ := Int.eq_ofNat_of_zero_le (show 0 ≤ c' by omega)
      have hinj : str (tagL d k) = str (tagL d' k') → d = d' ∧ k = k' := fun h => tag_inj hd hd' (by omega) (by omega) (str_inj h)
      have hrd : RdOK (str (tagL d k)).data.toList d k := ⟨hd, by omega, rfl⟩
      have hsz : (str (tagL d k)).size = 22 := by rw [str_size, tagL_len]
      have hsz' : (str (tagL d' k')).size = 22 := by rw [str_size, tagL_len]
      by_cases heq : d = d' ∧ k = k'
      · obtain ⟨rfl, rfl⟩ := heq
        clear hinj
        generalize hss : str (tagL d k) = s at *
        have HS := Lib.hid hss
        clear hss
        have hlen : ((s.size : Int) == 22) = true := by rw [hsz]; rfl
        have hsl : s.size ≤ 9223372036854775807 := by omega
        clear hsz
        go_enter Try.func8, Try.ntmps8
        go_wp2_with fail
        refine (tag_yes _ _ _ hd (by omega)).mono ?_; rintro e w1 ⟨rfl, hb1⟩
        rw [HS.out]
        go_wp2_with fail
        refine (tag_yes _ _ _ hd (by omega)).mono ?_; rintro e w2 ⟨rfl, hb2⟩
        rw [HS.out]
        go_wp2_with fail
        refine (read_any s _ hsl).mono ?_; rintro e w3 ⟨hv, hb3⟩
        obtain rfl := RdV.unique hv (.inl ⟨d, k, hrd, rfl⟩)
        go_wp2_with fail
        refine (awake_any _).mono ?_; rintro e w' ⟨rfl, hb⟩
        go_wp2
        go_ret
        exact LawPost.via hb1 (LawPost.via hb2 (LawPost.via hb3 ⟨rfl, hb⟩))
      · have hne : str (tagL d k) ≠ str (tagL d' k') := fun h => heq (hinj h)
        have hte := beq_no hne
        have hand : ((d : Int) == d' && (k : Int) == k') = false := by
          rw [Bool.and_eq_false_iff, beq_eq_false_iff_ne, beq_eq_false_iff_ne]; omega
        clear hinj hne heq
        generalize hss : str (tagL d k) = s at *
        have HS := Lib.hid hss
        generalize hss' : str (tagL d' k') = s' at *
        have HS' := Lib.hid hss'
        clear hss hss'
        have hlen : ((s.size : Int) == 22) = true := by rw [hsz]; rfl
        have hsl : s.size ≤ 9223372036854775807 := by omega
        clear hsz hsz'
        have hor : ((d : Int) == d') = false ∨ (((d : Int) == d') = true ∧ ((k : Int) == k') = false) := by
          cases h1 : ((d : Int) == d')
          · exact .inl rfl
          · rw [h1] at hand; exact .inr ⟨rfl, by simpa using hand⟩
        clear hand
        rcases hor with hdb | ⟨hdb, hkb⟩
        all_goals
          go_enter Try.func8, Try.ntmps8
          go_wp2_with fail
          refine (tag_yes _ _ _ hd (by omega)).mono ?_; rintro e w1 ⟨rfl, hb1⟩
          rw [HS.out]
          go_wp2_with fail
          refine (tag_yes _ _ _ hd' (by omega)).mono ?_; rintro e w2 ⟨rfl, hb2⟩
          rw [HS'.out]
          go_wp2_with fail
          refine (read_any s _ hsl).mono ?_; rintro e w3 ⟨hv, hb3⟩
          obtain rfl := RdV.unique hv (.inl ⟨d, k, hrd, rfl⟩)
          go_wp2_with fail
          refine (awake_any _).mono ?_; rintro e w' ⟨rfl, hb⟩
          go_wp2
          go_ret
          exact LawPost.via hb1 (LawPost.via hb2 (LawPost.via hb3 ⟨rfl, hb⟩))
end Go.Proofs.Ytpmpppfklngbkaa
