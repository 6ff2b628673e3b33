/- spelled: its contract. -/
import Derived.Test.YtpmpppfklngbkaaC
namespace Go.Proofs.Ytpmpppfklngbkaa
open Go.RowKit
theorem str_snoc (l : List UInt8) (a : ByteArray) (q : Nat) (h : q < a.size) : str l ++ a.extract q (q + 1) = str (l ++ [a[q]]) := by
  apply ba_eq
  have e : (a.extract q (q + 1)).data.toList = [a[q]] := by
    rw [Lib.extract_data]
    have h' : q < a.data.toList.length := h
    rw [List.drop_eq_getElem_cons h', show q + 1 - q = 1 from by omega]
    rfl
  have e2 : (str l ++ a.extract q (q + 1)).data.toList = l ++ (a.extract q (q + 1)).data.toList := by simp [str]
  rw [e2, e]; rfl
set_option maxHeartbeats 400000 in
theorem spelled_any (n k : Nat) (w : World) (hn : n < 18446744073709551616) (hk : k ≤ 100) :
    Calls Try.prog 25 #[.int .u64 n, .int .i64 k] w fun e w' => e = .returned (.string (str (sp k n))) ∧ w = w' := by
  go_enter Try.func25, Try.ntmps25
  go_wp2
  go_loop [0, 5, 6] (fun t s i => ∃ j : Nat, j ≤ k ∧ i = .int .i64 j ∧ t = .int .u64 ((n / 32 ^ j : Nat) : Int) ∧ s = .string (str (sp j n))) (fun _ _ i => k - (intOf i).toNat)
  case atStart => exact ⟨0, by omega, rfl, by simp, rfl⟩
  case round =>
    obtain ⟨j, hj, rfl, rfl, rfl⟩ := hrel
    have hq1 : n / 32 ^ j < 18446744073709551616 := Nat.lt_of_le_of_lt (Nat.div_le_self _ _) hn
    generalize hqq : n / 32 ^ j = q at hq1
    have Hq := Lib.hid hqq
    clear hqq
    generalize hss : str (sp j n) = s
    have Hs := Lib.hid hss
    clear hss
    have hs100 : s.size ≤ 100 := by rw [← Hs.out, str_size, sp_len]; omega
    have hq32 : q % 32 < 32 := by omega
    by_cases hlt : j < k
    · go_wp2
      go_round
      case rel =>
        refine ⟨j + 1, by omega, by go_num, ?_, str_eq ?_⟩
        · rw [Nat.pow_succ, ← Nat.div_div_eq_div_mul, Hq.out]; exact int_eq (by omega)
        · rw [sp_snoc, Hq.out, ← letN_mod, ← letX _ hq32, ← Hs.out]
          exact str_snoc _ _ _ (Nat.lt_of_lt_of_eq hq32 rfl)
      case measure => simp [intOf] <;> omega
    · have hjk : j = k := by omega
      have HJ := Lib.hid hjk
      clear hjk
      go_wp2
      go_ret
      exact ⟨ret_s (by rw [← HJ.out, Hs.out]), rfl⟩
end Go.Proofs.Ytpmpppfklngbkaa
