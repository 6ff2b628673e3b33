/- The reference Read: its contract. -/
import Derived.Test.YtpmpppfklngbkaaF
namespace Go.Proofs.Ytpmpppfklngbkaa
open Go.RowKit
theorem sum_parts {l : List UInt8} {d c : Nat} (h : RdOK l d c) : sumL (l.take 13) 0 % 18446744073709551616 = d ∧ sumL ((l.drop 13).take 9) 0 % 18446744073709551616 = c := by
  obtain ⟨h1, h2, rfl⟩ := h
  have e1 : (tagL d c).take 13 = sp 13 d := List.take_left' (sp_len _ _)
  have e2 : (tagL d c).drop 13 = sp 9 c := List.drop_left' (sp_len _ _)
  have e3 : (sp 9 c).take 9 = sp 9 c := List.take_of_length_le (by rw [sp_len]; omega)
  rw [e1, e2, e3, sumL_sp _ _ _ (by omega) (by omega) (by omega), sumL_sp _ _ _ (by omega) (by omega) (by omega)]
  omega
theorem take_one (s : ByteArray) (j : Nat) (h : j < s.size) : s.data.toList.take (j + 1) = s.data.toList.take j ++ [s[j]] := by
  rw [List.take_succ_eq_append_getElem (by exact h)]; rfl

theorem sum_step (l : List UInt8) (c : UInt8) (d : Nat) (hd : sumL l 0 % 18446744073709551616 = d) :
    IntKind.u64.wrap ((d : Int) + IntKind.u64.wrap ((idx c : Int) * 2 ^ (5 * l.length))) = ((sumL (l ++ [c]) 0 % 18446744073709551616 : Nat) : Int) := by
  rw [sumL_snoc, Nat.zero_add, IntKind.wrap_u64, IntKind.wrap_u64]
  have e : ((idx c : Int) * 2 ^ (5 * l.length)) = ((idx c * 2 ^ (5 * l.length) : Nat) : Int) := by push_cast; rfl
  rw [e]
  omega
theorem drop_take_one (s : ByteArray) (k j : Nat) (h : k + j < s.size) : (s.data.toList.drop k).take (j + 1) = (s.data.toList.drop k).take j ++ [s[k + j]] := by
  have h' : j < (s.data.toList.drop k).length := by rw [List.length_drop]; have : s.size = s.data.toList.length := rfl; omega
  rw [List.take_succ_eq_append_getElem h', List.getElem_drop]; rfl
set_option maxHeartbeats 1000000 in
theorem rread_any (s : ByteArray) (w : World) (hs : s.size ≤ 9223372036854775807) :
    Calls Try.prog 23 #[.string s] w (RdPost s.data.toList w) := by
  by_cases hl : s.size = 22
  · have hn0 : (((s.size : Int) != 22)) = false := by rw [hl]; rfl
    have hlb : 22 ≤ s.size := by omega
    have HL := Lib.hid hl
    clear hl
    go_enter Try.func23, Try.ntmps23
    go_wp2
    go_loop [5, 7] (fun d i => ∃ j : Nat, j ≤ 13 ∧ i = .int .i64 j ∧ d = .int .u64 ((sumL (s.data.toList.take j) 0 % 18446744073709551616 : Nat) : Int)) (fun _ i => 13 - (intOf i).toNat)
    case atStart => exact ⟨0, by omega, rfl, rfl⟩
    case round =>
      obtain ⟨j, hj, rfl, rfl⟩ := hrel
      generalize hdd : sumL (s.data.toList.take j) 0 % 18446744073709551616 = d
      have hd1 : d < 18446744073709551616 := by omega
      have HD := Lib.hid hdd
      clear hdd
      by_cases hlt : j < 13
      · have hle := idx_le (s[j])
        go_wp2_with (go_at_call 27; refine (worth_any _ _).mono ?_; rintro e w' ⟨rfl, rfl⟩)
        go_round
        case rel =>
          refine ⟨j + 1, by omega, by go_num, int_eq ?_⟩
          have := sum_step (s.data.toList.take j) s[j] d HD.out
          rw [List.length_take, Nat.min_eq_left (by have : s.size = s.data.toList.length := rfl; omega)] at this
          rw [take_one _ _ (by omega)]
          exact this
        case measure => simp [intOf] <;> omega
      · obtain rfl : j = 13 := by omega
        have hd13 := HD.out
        have HD13 := Lib.hid hd13
        clear hd13 HD
        go_wp2
        go_loop [6, 8] (fun d i => ∃ j : Nat, j ≤ 9 ∧ i = .int .i64 j ∧ d = .int .u64 ((sumL ((s.data.toList.drop 13).take j) 0 % 18446744073709551616 : Nat) : Int)) (fun _ i => 9 - (intOf i).toNat)
        case atStart => exact ⟨0, by omega, rfl, rfl⟩
        case round =>
          obtain ⟨j, hj, rfl, rfl⟩ := hrel
          generalize hdd : sumL ((s.data.toList.drop 13).take j) 0 % 18446744073709551616 = c
          have hc1 : c < 18446744073709551616 := by omega
          have HC := Lib.hid hdd
          clear hdd
          by_cases hlt : j < 9
          · have hle := idx_le (s[13 + j])
            go_wp2_with (go_at_call 27; refine (worth_any _ _).mono ?_; rintro e w' ⟨rfl, rfl⟩)
            go_round
            case rel =>
              refine ⟨j + 1, by omega, by go_num, int_eq ?_⟩
              have := sum_step ((s.data.toList.drop 13).take j) s[13 + j] c HC.out
              rw [List.length_take, Nat.min_eq_left (by rw [List.length_drop]; have : s.size = s.data.toList.length := rfl; omega)] at this
              rw [drop_take_one _ _ _ (by omega)]
              exact this
            case measure => simp [intOf] <;> omega
          · obtain rfl : j = 9 := by omega
            have hc9 := HC.out
            have HC9 := Lib.hid hc9
            clear hc9 HC
            have HP : Hid (∀ d' c', RdOK s.data.toList d' c' → d = d' ∧ c = c') := Lib.hid (fun d' c' h => by
              have := sum_parts h
              rw [HD13.out, HC9.out] at this
              exact this)
            by_cases hmax : c ≤ 1099511627776
            · have hwb : wrap64 (c : Int) = c := IntWalk.wrap64_in _ (by omega)
              go_wp2_with fail
              refine (rtag_yes d c _ hd1 hmax).mono ?_
              rintro e w2 ⟨rfl, rfl⟩
              generalize htt : str (tagL d c) = t
              have HT := Lib.hid htt
              clear htt
              by_cases hts : t = s
              · obtain rfl := hts
                go_wp2
                go_ret3
                exact ⟨.inl ⟨d, c, ⟨hd1, hmax, by rw [← HT.out]; rfl⟩, rfl⟩, Below.refl _ _⟩
              · have hno : ∀ d' c', ¬ RdOK s.data.toList d' c' := fun d' c' h => by
                  obtain ⟨rfl, rfl⟩ := HP.out d' c' h
                  exact hts (by rw [← HT.out, ← h.2.2]; rfl)
                have HN := Lib.hid hno
                clear hno
                have hte := beq_no hts
                go_wp2
                go_ret3
                exact ⟨.inr ⟨HN.out, rfl⟩, Below.refl _ _⟩
            · have hno : ∀ d' c', ¬ RdOK s.data.toList d' c' := fun d' c' h => by
                have := HP.out d' c' h; have := h.2.1; omega
              have HN := Lib.hid hno
              clear hno
              go_wp2
              go_ret3
              exact ⟨.inr ⟨HN.out, rfl⟩, Below.refl _ _⟩
  · have hb : (((s.size : Int) != 22)) = true := by rw [bne_iff_ne]; omega
    have hno : ∀ d c, ¬ RdOK s.data.toList d c := by
      rintro d c ⟨_, _, h⟩
      have := congrArg List.length h
      rw [tagL_len] at this
      exact hl this
    have H := Lib.hid hno
    clear hno hl
    go_enter Try.func23, Try.ntmps23
    go_wp2
    go_ret3
    exact ⟨.inr ⟨H.out, rfl⟩, Below.refl _ _⟩
end Go.Proofs.Ytpmpppfklngbkaa
