/- worth and value: contracts. -/
import Derived.Test.YtpmpppfklngbkaaD
import Derived.BigQuiet
import Derived.Deep.QuietTactic
namespace Go.Proofs.Ytpmpppfklngbkaa
open Go.RowKit
theorem letX' (r : Nat) (h : r < 32) : ((ByteArray.mk #[97, 98, 99, 100, 101, 102, 103, 104, 105, 106, 107, 108, 109, 110, 111, 112, 113, 114, 115, 116, 117, 118, 119, 120, 121, 122, 50, 51, 52, 53, 54, 55])[r]'(Nat.lt_of_lt_of_eq h rfl)).toNat = (letN r).toNat := by rw [letX r h]
theorem let_eqb (c : UInt8) (j : Nat) (h : j < idx c) : (((letN j).toNat : Int) == (c.toNat : Int)) = false := by
  have := let_ne c j h
  rw [beq_eq_false_iff_ne]; intro e
  exact this (UInt8.toNat_inj.1 (by omega))
theorem let_eqb' (c : UInt8) (h : idx c < 32) : (((letN (idx c)).toNat : Int) == (c.toNat : Int)) = true := by rw [let_idx c h]; exact beq_self_eq_true _
theorem drop_one (s : ByteArray) (p : Nat) (h : p < s.size) : s.data.toList.drop p = s[p] :: s.data.toList.drop (p + 1) := List.drop_eq_getElem_cons (l := s.data.toList) h
theorem or32 (v k : Nat) (h : k < 32) : bits .or .u64 (IntKind.u64.wrap ((v : Int) * 32)) (k : Int) = ((v * 32 % 18446744073709551616 + k : Nat) : Int) := by
  have e : IntKind.u64.wrap ((v : Int) * 32) = ((v * 32 % 18446744073709551616 : Nat) : Int) := by rw [IntKind.wrap_u64]; omega
  rw [e, u64_or_nat _ _ (by omega) (by omega)]
  have e2 : v * 32 % 18446744073709551616 = 2 ^ 5 * (v % 576460752303423488) := by omega
  rw [e2, Nat.two_pow_add_eq_or_of_lt (i := 5) h]
def valI (l : List UInt8) : Int := if allL l then val l else 0
theorem drop_all (s : ByteArray) : s.data.toList.drop s.size = [] := List.drop_eq_nil_of_le (Nat.le_refl _)
set_option maxHeartbeats 400000 in
theorem worth_any (c : UInt8) (w : World) :
    Calls Try.prog 27 #[.int .u8 c.toNat] w fun e w' => e = .returned (.int .u64 (idx c)) ∧ w = w' := by
  have hle := idx_le c
  go_enter Try.func27, Try.ntmps27
  go_wp2
  go_loop [3] (fun i => ∃ j : Nat, j ≤ idx c ∧ i = .int .i64 j) (fun i => 32 - (intOf i).toNat)
  case atStart => exact ⟨0, by omega, rfl⟩
  case round =>
    obtain ⟨j, hj, rfl⟩ := hrel
    by_cases hlt : j < idx c
    · have h32 : j < 32 := by omega
      have hx := letX' j h32
      have hb := let_eqb c j hlt
      go_wp2
      go_round
      case rel => exact ⟨j + 1, by omega, by go_num⟩
      case measure => simp [intOf] <;> omega
    · obtain rfl : j = idx c := by omega
      by_cases h32 : idx c < 32
      · have hx := letX' _ h32
        have hb := let_eqb' c h32
        go_wp2
        go_ret
        exact ⟨rfl, rfl⟩
      · have h33 : idx c = 32 := by omega
        have H := Lib.hid h33
        clear h33
        go_wp2
        go_ret
        exact ⟨ret_int (by rw [H.out]; rfl), rfl⟩

set_option maxHeartbeats 400000 in
theorem value_any (s : ByteArray) (w : World) (hs : s.size ≤ 1000) :
    Calls Try.prog 26 #[.string s] w fun e w' => e = .returned (.tuple #[.int .u64 (valI s.data.toList), .bool (allL s.data.toList)]) ∧ ∃ n, w' = w.drewN n := by
  go_enter Try.func26, Try.ntmps26
  go_wp2
  go_loopw [4, 5] (fun n i wr => ∃ m : Nat, m ≤ s.size ∧ i = .int .i64 ((m : Int) - 1) ∧ allL (s.data.toList.drop m) = true ∧ n = .int .u64 (val (s.data.toList.drop m)) ∧ ∃ q, wr = w.drewN q) (fun _ i _ => (intOf i + 1).toNat)
  case atStart => exact ⟨s.size, by omega, rfl, by rw [drop_all]; rfl, by rw [drop_all]; rfl, 0, rfl⟩
  case round =>
    obtain ⟨m, hm, rfl, hal, rfl, nq, rfl⟩ := hrel
    have hvl := val_lt _ hal
    generalize hvv : val (s.data.toList.drop m) = vv at hvl
    have Hv := Lib.hid hvv
    clear hvv
    have Hal := Lib.hid hal
    clear hal
    rcases m with _ | p
    · go_wp2
      go_ret2
      exact ⟨ret_pair (by have := Hal.out; have h2 := Hv.out; simp only [List.drop_zero] at this h2; simp [valI, this, h2]) (by have := Hal.out; simp only [List.drop_zero] at this; simp [this]), nq, rfl⟩
    · have hp : p < s.size := by omega
      rw [show ((p + 1 : Nat) : Int) - 1 = p from by omega]
      have hle := idx_le s[p]
      go_wp2
      go_loopw [6] (fun kk wr => ∃ j : Nat, j ≤ idx s[p] ∧ kk = .int .i64 j ∧ ∃ q, wr = w.drewN q) (fun i _ => 32 - (intOf i).toNat)
      case atStart => exact ⟨0, by omega, rfl, nq, rfl⟩
      case round =>
        obtain ⟨j, hj, rfl, nq', rfl⟩ := hrel
        by_cases hlt : j < idx s[p]
        · have h32 : j < 32 := by omega
          have hx := letX' j h32
          have hb := let_eqb s[p] j hlt
          have hd : decide ((j : Int) < 32) = true := by simp; omega
          go_wp2
          go_quiet (fail)
          go_wp2
          go_roundw
          case rel => exact ⟨j + 1, by omega, by go_num, _, rfl⟩
          case measure => simp [intOf] <;> omega
        · obtain rfl : j = idx s[p] := by omega
          by_cases h32 : idx s[p] < 32
          · have hx := letX' _ h32
            have hb := let_eqb' s[p] h32
            have hd : decide ((idx s[p] : Int) < 32) = true := by simp; omega
            have he : ((idx s[p] : Int) == 32) = false := by simp; omega
            go_wp2
            go_quiet (fail)
            go_wp2
            go_roundw
            case rel =>
              refine ⟨p, by omega, rfl, ?_, ?_, _, rfl⟩
              · rw [drop_one s p hp]
                have := Hal.out
                simp only [allL, List.all_cons, Bool.and_eq_true, decide_eq_true_eq] at this ⊢
                exact ⟨h32, this⟩
              · rw [drop_one s p hp, val, Hv.out]
                exact int_eq (or32 vv _ h32)
            case measure => simp [intOf] <;> omega
          · have h33 : idx s[p] = 32 := by omega
            have hd : decide ((idx s[p] : Int) < 32) = false := by simp [h33]
            have he : ((idx s[p] : Int) == 32) = true := by simp [h33]
            have H := Lib.hid h33
            clear h33
            go_wp2
            go_quiet (fail)
            go_wp2
            go_ret2
            have hf : allL s.data.toList = false := by
              rw [allL, List.all_eq_false]
              exact ⟨s[p], List.getElem_mem (l := s.data.toList) hp, by simp [H.out]⟩
            exact ⟨ret_pair (by simp [valI, hf]) hf.symm, _, rfl⟩
end Go.Proofs.Ytpmpppfklngbkaa
