/- spell and Tag: contracts. -/
import Derived.Test.YtpmpppfklngbkaaProg
import Derived.Test.YtpmpppfklngbkaaP
import Derived.Test.YtpmpppfklngbkaaM
namespace Go.Proofs.Ytpmpppfklngbkaa
open Go.RowKit
theorem Try.e5 : ElemInfo Try.prog 5 1 1 (.int .u8 0) := ElemInfo.mk' (by kernel_rfl)
theorem and31 (q : Nat) (h : q < 18446744073709551616) : bits .and .u64 (q : Int) 31 = ((q % 32 : Nat) : Int) := by
  have := u64_and_nat q 31 h (by omega)
  rw [Nat.and_two_pow_sub_one_eq_mod q 5] at this
  exact this
theorem letX (r : Nat) (h : r < 32) : (ByteArray.mk #[97, 98, 99, 100, 101, 102, 103, 104, 105, 106, 107, 108, 109, 110, 111, 112, 113, 114, 115, 116, 117, 118, 119, 120, 121, 122, 50, 51, 52, 53, 54, 55])[r]'(Nat.lt_of_lt_of_eq h rfl) = letN r := by
  have : ∀ r : Fin 32, (ByteArray.mk #[97, 98, 99, 100, 101, 102, 103, 104, 105, 106, 107, 108, 109, 110, 111, 112, 113, 114, 115, 116, 117, 118, 119, 120, 121, 122, 50, 51, 52, 53, 54, 55])[r.1]'(Nat.lt_of_lt_of_eq r.2 rfl) = letN r := by decide
  exact this ⟨r, h⟩
set_option maxHeartbeats 400000 in
theorem spell_any (v : Value) (m k : Nat) (n : Nat) (xs : List UInt8) (w : World) (base : Nat) (hown : w.ownsRow base 5 1 v m (xs.map B)) (hb : base ≤ w.heap.size) (hm : m + k ≤ 100000) (hn : n < 18446744073709551616) :
    Calls Try.prog 24 #[v, .int .u64 n, .int .i64 k] w fun e w' => ∃ v', e = .returned v' ∧ w'.ownsRow base 5 1 v' (m + k) ((xs ++ sp k n).map B) ∧ Below base w w' := by
  go_enter Try.func24, Try.ntmps24
  go_wp2
  go_loopw [0, 1, 8] (fun v' t i wr => ∃ j : Nat, j ≤ k ∧ i = .int .i64 j ∧ t = .int .u64 ((n / 32 ^ j : Nat) : Int) ∧ wr.ownsRow base 5 1 v' (m + j) ((xs ++ sp j n).map B) ∧ Below base w wr) (fun _ _ i _ => k - (intOf i).toNat)
  case atStart => exact ⟨0, by omega, rfl, by simp, by simpa [sp] using hown, Below.refl _ _⟩
  case round =>
    obtain ⟨j, hj, rfl, rfl, hown, hbw⟩ := hrel
    have hbs := hbw.size
    have hq1 : n / 32 ^ j < 18446744073709551616 := Nat.lt_of_le_of_lt (Nat.div_le_self _ _) hn
    generalize hqq : n / 32 ^ j = q at hq1
    have Hq := Lib.hid hqq
    clear hqq
    have hand : bits .and .u64 (q : Int) 31 = ((q % 32 : Nat) : Int) := and31 q hq1
    have hq32 : q % 32 < 32 := by omega
    by_cases hlt : j < k
    · go_wp2_with (at_builtin; refine wpList_app1 rfl (.tmp 10) (.tmp 14) 48 rfl base 5 1 1 _ Try.underlying48 Try.e5 rfl (by omega) _ _ _ rfl hown [_] rfl rfl (by simp [Value.oneCell']) (by unfold maxLen; omega) (by omega) (by omega) ?_; intro v1 w1 hown1 hb1 _ _)
      go_roundw
      case rel =>
        refine ⟨j + 1, by omega, by go_num, ?_, ?_, hbw.trans hb1⟩
        · rw [Nat.pow_succ, ← Nat.div_div_eq_div_mul, Hq.out]; exact int_eq (by omega)
        · rw [sp_snoc, Hq.out, ← letN_mod, ← letX _ hq32, ← List.append_assoc, List.map_append]
          exact hown1
      case measure => simp [intOf] <;> omega
    · have hjk : j = k := by omega
      have HJ := Lib.hid hjk
      clear hjk
      go_wp2
      go_ret
      exact ⟨_, rfl, by rw [← HJ.out]; exact hown, hbw⟩

theorem ret_str {l l' : List UInt8} {e : Int} (h : l = l') : Ending.returned (.tuple #[.string (str l), .int .i64 e]) = .returned (.tuple #[.string (str l'), .int .i64 e]) := by rw [h]
theorem tag_no (d : Nat) (c : Int) (w : World) (h : c < 0 ∨ 1099511627776 < c) :
    Calls Try.prog 20 #[.int .u64 d, .int .i64 c] w fun e w' => e = .returned (.tuple #[.string (str []), .int .i64 9]) ∧ w = w' := by
  rcases h with h | h
  all_goals
    go_enter Try.func20, Try.ntmps20
    go_wp2
    go_ret2
    exact ⟨rfl, rfl⟩
theorem rtag_no (d : Nat) (c : Int) (w : World) (h : c < 0 ∨ 1099511627776 < c) :
    Calls Try.prog 21 #[.int .u64 d, .int .i64 c] w fun e w' => e = .returned (.tuple #[.string (str []), .int .i64 9]) ∧ w = w' := by
  rcases h with h | h
  all_goals
    go_enter Try.func21, Try.ntmps21
    go_wp2
    go_ret2
    exact ⟨rfl, rfl⟩
set_option maxHeartbeats 400000 in
theorem tag_yes (d c : Nat) (w : World) (hd : d < 18446744073709551616) (h : c ≤ 1099511627776) :
    Calls Try.prog 20 #[.int .u64 d, .int .i64 c] w fun e w' => e = .returned (.tuple #[.string (str (tagL d c)), .int .i64 0]) ∧ Below w.heap.size w w' := by
  have hw : IntKind.u64.wrap (c : Int) = c := u64_in _ (by omega)
  go_enter Try.func20, Try.ntmps20
  go_wp2_with fail
  refine (spell_any _ 0 13 d [] w w.heap.size ⟨rfl, .inl ⟨rfl, rfl⟩⟩ (by omega) (by omega) hd).mono ?_
  rintro e w1 ⟨v1, rfl, hown1, hb1⟩
  have hbs := hb1.size
  go_wp2_with fail
  refine (spell_any _ 13 9 c (sp 13 d) w1 w.heap.size (by simpa using hown1) (by omega) (by omega) (by omega)).mono ?_
  rintro e w2 ⟨v2, rfl, hown2, hb2⟩
  have hc := run_string_own (P := Try.prog) (w := w2) 48 9 5 Try.underlying48 Try.underlying5 Try.underlying9 hown2
  go_wp2
  go_ret2
  exact ⟨rfl, hb1.trans hb2⟩
end Go.Proofs.Ytpmpppfklngbkaa
