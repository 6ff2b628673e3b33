/- The laws of the client: ClientAnswered. -/
import Derived.Test.YtgfoobgkpnknmaaE2
namespace Go.Proofs.Ytgfoobgkpnknmaa
set_option linter.unusedSimpArgs false
set_option linter.unusedVariables false
open Go.RowKit
theorem nx_mono {a b : Int} (h0 : 0 ≤ a) (h : a ≤ b) : cNx a ≤ cNx b := by
  unfold cNx cum
  split <;> split <;> omega
/-- a single transaction that waits, up to a tick ahead of its end -/
theorem one_run : ∀ (k n : Nat) (c : CC) (now : Int) (o : List DD), c.rest = -1 → 1 ≤ c.tm → c.tm ≤ 11 → 12 - c.tm ≤ k → k ≤ n → now < c.bg + 320 →
    ∃ (t : Int) (o' : List DD), cRun n [c] now o = ([{ c with tm := t }], o') ∧ 1 ≤ t ∧ t ≤ 11 ∧ now < cAt { c with tm := t }
  | 0, n, c, now, o, _, _, h2, h3, _, _ => by omega
  | k + 1, 0, c, now, o, _, _, _, _, h4, _ => by omega
  | k + 1, n + 1, c, now, o, hr, h1, h2, h3, h4, hb => by
    by_cases hn : now < cAt c
    · exact ⟨c.tm, o, run_stop (one_top c) hn, h1, h2, hn⟩
    · have hca : cAt c = c.bg + cNx c.tm := by unfold cAt; rw [if_neg (by omega)]
      have hx : cNx c.tm < 320 := by omega
      have ht := (nx_lt (tm := c.tm) (by omega)).1 hx
      rw [run_go (one_top c) hn]
      have e : cAfter [c] 0 c = [{ c with tm := c.tm + 1 }] := by unfold cAfter; rw [if_pos ⟨by omega, hx⟩]; rfl
      rw [e]
      obtain ⟨t, o', e1, e2, e3, e4⟩ := one_run k n { c with tm := c.tm + 1 } now (o ++ cDue c) hr (by show 1 ≤ c.tm + 1; omega) (by show c.tm + 1 ≤ 11; omega) (by show 12 - (c.tm + 1) ≤ k; omega) (by omega) hb
      exact ⟨t, o', e1, e2, e3, e4⟩
theorem who_one {c : CC} (h : c.rest < 0) : cWho c.br [c] = some (0, c) := by unfold cWho; rw [if_pos ⟨rfl, h⟩]
theorem who_one_no {br : ByteArray} {c : CC} (h : ¬ (c.br = br ∧ c.rest < 0)) : cWho br [c] = none := by unfold cWho; rw [if_neg h]; rfl
theorem start_one (most : Int) (br : ByteArray) (now : Int) (to bs : ByteArray) (hm : 1 ≤ most) (h0 : 0 ≤ now) (h1 : now ≤ 1099511627136) :
    cStartE most [] br now = 0 ∧ cStartI most 0 [] br now = 1 ∧ cStartN most 0 [] br now = 1 ∧ cStartL most 0 [] br now to bs = [⟨1, br, now, 1, -1, to, bs⟩] := by
  have h : cStartE most [] br now = 0 := startE_ok (by omega) rfl (by simp; omega)
  exact ⟨h, by unfold cStartI; rw [if_pos h]; rfl, by unfold cStartN; rw [if_pos h]; rfl, by unfold cStartL; rw [if_pos h]; rfl⟩
theorem resp_one {c : CC} {st now : Int} (hr : c.rest < 0) (h0 : 0 ≤ now) (h1 : now ≤ 1099511627456) (h2 : 200 ≤ st) (h3 : st ≤ 699) :
    cRespE [c] c.br st now = 0 ∧ cRespI [c] c.br st now = c.id ∧ cRespG [c] c.br st now = true ∧ cRespL [c] c.br st now = [{ c with rest := now + 50 }] := by
  have h : cRespE [c] c.br st now = 0 := by unfold cRespE; rw [if_neg (by omega), who_one hr]; rfl
  exact ⟨h, by unfold cRespI; rw [if_pos h, who_one hr]; rfl, decide_eq_true ⟨h, h2⟩, by unfold cRespL; rw [if_pos ⟨h, h2⟩, who_one hr]; rfl⟩
theorem resp_one_no {br : ByteArray} {c : CC} {st now : Int} (hr : ¬ (c.br = br ∧ c.rest < 0)) (h0 : 0 ≤ now) (h1 : now ≤ 1099511627456) (h2 : 100 ≤ st) (h3 : st ≤ 699) :
    cRespE [c] br st now = 6 ∧ cRespI [c] br st now = 0 ∧ cRespG [c] br st now = false ∧ cRespL [c] br st now = [c] := by
  have h : cRespE [c] br st now = 6 := by unfold cRespE; rw [if_neg (by omega), who_one_no hr]; rfl
  exact ⟨h, respI_no h (by omega), decide_eq_false (by omega), by unfold cRespL; rw [if_neg (by omega)]⟩
set_option maxRecDepth 100000 in
set_option maxHeartbeats 4000000 in
theorem law_answered (br : ByteArray) (now : Int) (af : Nat) (haf : af < 65536) (st : Int) (w : World) :
    Calls Try.prog 12 #[.string br, .int .i64 now, .int .u16 af, .int .i64 st] w (LawPost w) := by
  by_cases ha : now < 0 ∨ 1099511627136 < now ∨ st < 200 ∨ 699 < st
  · by_cases a1 : now < 0 <;> by_cases a2 : 1099511627136 < now <;> by_cases a3 : st < 200 <;> by_cases a4 : 699 < st
    all_goals first | (exfalso; omega) | skip
    all_goals
      clear ha
      go_enter Try.func12, Try.ntmps12
      go_wp2_with fail
      refine (cawake_any _).mono ?_
      rintro e w3 ⟨rfl, hb3⟩
      go_wp2
      go_ret
      exact ⟨rfl, hb3⟩
  · have h0 : 0 ≤ now := by omega
    have h1 : now ≤ 1099511627136 := by omega
    have h2 : 200 ≤ st := by omega
    have h3 : st ≤ 699 := by omega
    obtain ⟨d, hd⟩ : ∃ d : Int, d = (af : Int) % 320 := ⟨_, rfl⟩
    have hd0 : 0 ≤ d := by omega
    have hd1 : d < 320 := by omega
    have HD : Hid ((af : Int) % 320 = d) := Lib.hid hd.symm
    have x0 : (0 : Int) ≤ af := by omega
    have x1 : (af : Int) ≤ 65535 := by omega
    have S1 := Lib.hid (start_one 1 br now ⟨#[]⟩ ⟨#[]⟩ (by omega) h0 h1)
    obtain ⟨t, o1, r1, r2, r3, r4⟩ := one_run 11 100000 ⟨1, br, now, 1, -1, ⟨#[]⟩, ⟨#[]⟩⟩ (now + d) [] rfl (by show (1 : Int) ≤ 1; omega) (by show (1 : Int) ≤ 11; omega) (by show (12 : Int) - 1 ≤ 11; omega) (by omega) (by show now + d < now + 320; omega)
    have S2 : Hid (cStep [⟨1, br, now, 1, -1, ⟨#[]⟩, ⟨#[]⟩⟩] (now + d) = ([⟨1, br, now, t, -1, ⟨#[]⟩, ⟨#[]⟩⟩], o1)) := Lib.hid r1
    have S3 := Lib.hid (resp_one (c := ⟨1, br, now, t, -1, ⟨#[]⟩, ⟨#[]⟩⟩) (st := st) (now := now + d) (by show (-1 : Int) < 0; omega) (by omega) (by omega) h2 h3)
    have S4 := Lib.hid (resp_one_no (br := br) (c := ⟨1, br, now, t, now + d + 50, ⟨#[]⟩, ⟨#[]⟩⟩) (st := st) (now := now + d) (by intro q; have := q.2; simp only at this; omega) (by omega) (by omega) (by omega) h3)
    have S5 : Hid (cStep [⟨1, br, now, t, now + d + 50, ⟨#[]⟩, ⟨#[]⟩⟩] (now + d + 50 - 1) = ([⟨1, br, now, t, now + d + 50, ⟨#[]⟩, ⟨#[]⟩⟩], [])) := Lib.hid (one_stop (by unfold cAt; rw [if_pos (by simp only; omega)]; simp only; omega))
    have S6 : Hid (cStep [⟨1, br, now, t, now + d + 50, ⟨#[]⟩, ⟨#[]⟩⟩] (now + d + 50) = ([], [])) := Lib.hid (one_gone (by unfold cAt; rw [if_pos (by simp only; omega)]; simp only; omega) (by simp only; omega))
    have S7 : Hid (cLive [⟨1, br, now, t, now + d + 50, ⟨#[]⟩, ⟨#[]⟩⟩] 1 = false) := Lib.hid (by
      rw [show cLive [⟨1, br, now, t, now + d + 50, ⟨#[]⟩, ⟨#[]⟩⟩] 1 = decide (now + d + 50 < 0) from live_some (c := ⟨1, br, now, t, now + d + 50, ⟨#[]⟩, ⟨#[]⟩⟩) (i := 0) (by simp) rfl]
      exact decide_eq_false (by omega))
    have hem : af % 320 < 320 := Nat.mod_lt _ (by omega)
    clear ha r1 r2 r3 r4 hd
    go_enter Try.func12, Try.ntmps12
    go_wp2_with fail
    rw [HD.out]
    refine (cnew_any 1 w (by omega) (by omega)).mono ?_
    rintro e w1 ⟨p, F, rfl, hC, hb1, hF⟩
    have O1 := Lib.hid (Own.mk hC hb1 hF)
    clear hC hb1 hF
    go_wp2_with fail
    refine (cstart_any O1.out.cl br now ⟨#[]⟩ ⟨#[]⟩ (by omega)).mono ?_
    rintro e w2 ⟨rfl, F2, hC, hf, hx⟩
    have O2 := O1.out.next hC hf hx
    rw [S1.out.2.2.1, S1.out.2.2.2] at O2
    rw [S1.out.2.1, S1.out.1]
    have O2 := Lib.hid O2
    clear hC hf hx
    go_wp2_with fail
    refine (cstep_any O2.out.cl (now + d)).mono ?_
    rintro e w3 ⟨v3, F3, rfl, ho, hC, hf, hx⟩
    rw [S2.out] at hC
    have O3 := Lib.hid (O2.out.next hC hf hx)
    clear ho hC hf hx
    go_wp2_with fail
    refine (cresp_any O3.out.cl br st (now + d)).mono ?_
    rintro e w4 ⟨rfl, F4, hC, hf, hx⟩
    rw [S3.out.2.2.2] at hC
    rw [S3.out.1, S3.out.2.1, S3.out.2.2.1]
    have O4 := Lib.hid (O3.out.next hC hf hx)
    clear hC hf hx
    go_wp2_with fail
    refine (clive_any O4.out.cl 1).mono ?_
    rintro e w5 ⟨rfl, rfl⟩
    rw [S7.out]
    go_wp2_with fail
    refine (cresp_any O4.out.cl br st (now + d)).mono ?_
    rintro e w6 ⟨rfl, F6, hC, hf, hx⟩
    rw [S4.out.2.2.2] at hC
    rw [S4.out.1, S4.out.2.1, S4.out.2.2.1]
    have O6 := Lib.hid (O4.out.next hC hf hx)
    clear hC hf hx
    go_wp2_with fail
    refine (cstep_any O6.out.cl (now + d + 50 - 1)).mono ?_
    rintro e w7 ⟨v7, F7, rfl, ho, hC, hf, hx⟩
    rw [S5.out] at ho hC
    have O7 := Lib.hid (O6.out.next hC hf hx)
    obtain ⟨A7, c7, rfl, _, _, hr7⟩ := RdV.of_own ho
    clear ho hC hf hx hr7
    go_wp2_with fail
    refine (clen_any O7.out.cl).mono ?_
    rintro e w8 ⟨rfl, rfl⟩
    go_wp2_with fail
    refine (cstep_any O7.out.cl (now + d + 50)).mono ?_
    rintro e w9 ⟨v9, F9, rfl, ho, hC, hf, hx⟩
    rw [S6.out] at ho hC
    have O9 := Lib.hid (O7.out.next hC hf hx)
    obtain ⟨A9, c9, rfl, _, _, hr9⟩ := RdV.of_own ho
    clear ho hC hf hx hr9
    go_wp2_with fail
    refine (clen_any O9.out.cl).mono ?_
    rintro e w10 ⟨rfl, rfl⟩
    go_wp2_with fail
    refine (cawake_any _).mono ?_
    rintro e w11 ⟨rfl, hb11⟩
    go_wp2
    go_ret
    exact LawPost.via O9.out.be ⟨rfl, hb11⟩
end Go.Proofs.Ytgfoobgkpnknmaa
