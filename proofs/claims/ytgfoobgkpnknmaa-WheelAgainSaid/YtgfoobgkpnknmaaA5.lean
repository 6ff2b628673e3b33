/- The laws of the wheel: WheelAgain. -/
import Derived.Test.YtgfoobgkpnknmaaA4
namespace Go.Proofs.Ytgfoobgkpnknmaa
open Go.RowKit
set_option maxRecDepth 100000 in
set_option maxHeartbeats 2000000 in
theorem law_again0 {w : World} {ats : List Int} {A : Option Addr} {c : Nat} (h : RdB w w.heap.size 1 ats.length A (icells ats)) (hl : ats.length ≤ 9223372036854775807) (a : Int) (ha0 : 0 ≤ a) (ha1 : a < 18446744073709551616) (at_ : Int) :
    Calls Try.prog 4 #[.slice A ats.length c, .int .u64 a, .int .i64 at_, .bool false] w (LawPost w) := by
  have hk0 : 0 ≤ a % 97 := by omega
  have hk1 : a % 97 < 97 := by omega
  have HR := Lib.hid h
  clear h
  go_enter Try.func4, Try.ntmps4
  go_wp2_with fail
  refine (filled_any (c := c) HR.out (Nat.le_refl _) hl).mono ?_
  rintro e w1 ⟨p, F, rfl, hW1, hb1, hF1⟩
  have HW1 := Lib.hid hW1
  have HB1 := Lib.hid hb1
  have HF1 := Lib.hid hF1
  have hs1 := hb1.size
  clear hW1 hb1 hF1
  go_wp2_with fail
  refine (set_any HW1.out _ _).mono ?_
  rintro e w2 ⟨rfl, F2, hW2, hf2, hx2⟩
  by_cases hat : at_ < 0 ∨ 1099511627776 < at_
  · have hE : rSetE (fillL ats (min ats.length 500)) (a % 97) at_ = 1 := by unfold rSetE; rw [if_pos (by omega)]
    rw [hE]
    have HB2 := Lib.hid (HB1.out.trans (hf2.to_below hs1 HF1.out))
    clear hW2 hf2 hx2 hE
    rcases hat with hat | hat
    · go_wp2_with fail
      refine (awake_any _).mono ?_
      rintro e w3 ⟨rfl, hb3⟩
      go_wp2
      go_ret
      exact LawPost.via HB2.out ⟨rfl, hb3⟩
    · have hat0 : 0 ≤ at_ := by omega
      go_wp2_with fail
      refine (awake_any _).mono ?_
      rintro e w3 ⟨rfl, hb3⟩
      go_wp2
      go_ret
      exact LawPost.via HB2.out ⟨rfl, hb3⟩
  · have hgs := ag_set (k := a % 97) (a := at_) HW1.out.nd hk0 (by omega) (by omega)
    obtain ⟨hE, hAg, hin⟩ := hgs
    rw [hE]
    clear hE
    generalize hzl : rSetL (fillL ats (min ats.length 500)) (a % 97) at_ = zl at hW2 hAg hin
    clear hzl
    have hs2 := hf2.size
    have hbz := HB1.out.trans (hf2.to_below hs1 HF1.out)
    have hFz : ∀ k, F2 k → w.heap.size ≤ k := fun k hk => (hx2 k hk).elim (HF1.out k) (fun q => by omega)
    have HWZ := Lib.hid hW2
    clear hW2 hf2 hx2
    clear hin
    go_wp2_with fail
    have hs5 := hbz.size
    have HBZ := Lib.hid hbz
    have HFZ := Lib.hid hFz
    have hda := due_all hAg.all
    have HAG := Lib.hid hAg
    clear hbz hFz hAg
    refine (due_any HWZ.out _).mono ?_
    rintro e w5 ⟨v, F5, rfl, ho5, hW5, hf5, hx5⟩
    rw [hda.1] at ho5
    rw [hda.2] at hW5
    clear hda
    obtain ⟨A5, c5, e5, _, _, hr5⟩ := RdV.of_own ho5
    have hs6 := hf5.size
    have HB5 := Lib.hid (HBZ.out.trans (hf5.to_below hs5 HFZ.out))
    have HR5 := Lib.hid hr5
    have HW5 := Lib.hid hW5
    clear ho5 hr5 hW5 hf5 hx5
    rw [e5]
    clear e5
    have hl9 := HAG.out.len
    have hlz : (zl.length : Int) ≤ 9223372036854775807 := by omega
    go_wp2_with fail
    go_loopw [11, 48] (fun n i wr => ∃ j : Nat, j ≤ zl.length ∧ i = .int .i64 j ∧ n = .int .i64 (cnt (zl.take j) (a % 97)) ∧ Below w5.heap.size w5 wr) (fun _ i _ => zl.length - (intOf i).toNat)
    case atStart => exact ⟨0, by omega, rfl, rfl, Below.refl _ _⟩
    case round =>
      obtain ⟨j, hj, rfl, rfl, hb⟩ := hrel
      have hbs := hb.size
      have hcl := cnt_le (zl.take j) (a % 97)
      rw [List.length_take] at hcl
      by_cases hlt : j < zl.length
      · obtain ⟨gb, off, rfl, c0, c1⟩ := rd_tm (HR5.out.below hb) hlt
        have HB := Lib.hid (fun o => hb.alloc hbs o)
        clear hb
        by_cases hk : zl[j].2 = a % 97
        · have hka := HAG.out.same _ (List.getElem_mem hlt) hk
          have hci := cnt_in hlt hk
          rw [hk] at c1
          rw [hka] at c0
          clear hk hka
          go_wp2
          go_roundw
          case rel => exact ⟨j + 1, by omega, by go_num, by rw [hci]; go_num, HB.out _⟩
          case measure => simp [intOf] <;> omega
        · have hci := cnt_out hlt hk
          go_wp2
          go_roundw
          case rel => exact ⟨j + 1, by omega, by go_num, by rw [hci], HB.out _⟩
          case measure => simp [intOf] <;> omega
      · obtain rfl : j = zl.length := by omega
        rw [List.take_length] at hcl ⊢
        have HB := Lib.hid hb
        have hnum := HAG.out.num
        rw [hnum]
        clear hb hcl hnum
        have HW6 := Lib.hid (HW5.out.below HB.out)
        go_wp2_with fail
        refine (len_any HW6.out).mono ?_
        rintro e w7 ⟨rfl, rfl⟩
        go_wp2_with fail
        refine (awake_any _).mono ?_
        rintro e w8 ⟨rfl, hb8⟩
        go_wp2
        go_ret
        exact LawPost.via (HB5.out.trans (HB.out.mono (by omega))) ⟨rfl, hb8⟩
set_option maxRecDepth 100000 in
set_option maxHeartbeats 2000000 in
theorem law_again1 {w : World} {ats : List Int} {A : Option Addr} {c : Nat} (h : RdB w w.heap.size 1 ats.length A (icells ats)) (hl : ats.length ≤ 9223372036854775807) (a : Int) (ha0 : 0 ≤ a) (ha1 : a < 18446744073709551616) (at_ : Int) :
    Calls Try.prog 4 #[.slice A ats.length c, .int .u64 a, .int .i64 at_, .bool true] w (LawPost w) := by
  have hk0 : 0 ≤ a % 97 := by omega
  have hk1 : a % 97 < 97 := by omega
  have HR := Lib.hid h
  clear h
  go_enter Try.func4, Try.ntmps4
  go_wp2_with fail
  refine (filled_any (c := c) HR.out (Nat.le_refl _) hl).mono ?_
  rintro e w1 ⟨p, F, rfl, hW1, hb1, hF1⟩
  have HW1 := Lib.hid hW1
  have HB1 := Lib.hid hb1
  have HF1 := Lib.hid hF1
  have hs1 := hb1.size
  clear hW1 hb1 hF1
  go_wp2_with fail
  refine (set_any HW1.out _ _).mono ?_
  rintro e w2 ⟨rfl, F2, hW2, hf2, hx2⟩
  by_cases hat : at_ < 0 ∨ 1099511627776 < at_
  · have hE : rSetE (fillL ats (min ats.length 500)) (a % 97) at_ = 1 := by unfold rSetE; rw [if_pos (by omega)]
    rw [hE]
    have HB2 := Lib.hid (HB1.out.trans (hf2.to_below hs1 HF1.out))
    clear hW2 hf2 hx2 hE
    rcases hat with hat | hat
    · go_wp2_with fail
      refine (awake_any _).mono ?_
      rintro e w3 ⟨rfl, hb3⟩
      go_wp2
      go_ret
      exact LawPost.via HB2.out ⟨rfl, hb3⟩
    · have hat0 : 0 ≤ at_ := by omega
      go_wp2_with fail
      refine (awake_any _).mono ?_
      rintro e w3 ⟨rfl, hb3⟩
      go_wp2
      go_ret
      exact LawPost.via HB2.out ⟨rfl, hb3⟩
  · have hgs := ag_set (k := a % 97) (a := at_) HW1.out.nd hk0 (by omega) (by omega)
    obtain ⟨hE, hAg, hin⟩ := hgs
    rw [hE]
    clear hE
    generalize hzl : rSetL (fillL ats (min ats.length 500)) (a % 97) at_ = zl at hW2 hAg hin
    clear hzl
    have hs2 := hf2.size
    have hbz := HB1.out.trans (hf2.to_below hs1 HF1.out)
    have hFz : ∀ k, F2 k → w.heap.size ≤ k := fun k hk => (hx2 k hk).elim (HF1.out k) (fun q => by omega)
    have HWZ := Lib.hid hW2
    clear hW2 hf2 hx2
    have HIN := Lib.hid hin
    have HBz := Lib.hid hbz
    have HFz := Lib.hid hFz
    have HAg := Lib.hid hAg
    clear hbz hFz hAg hin
    go_wp2_with fail
    refine (stop_any HWZ.out _).mono ?_
    rintro e w3 ⟨rfl, F3, hW3, hf3, hx3⟩
    rw [show decide (a % 97 ∈ zl.map (·.2)) = true from decide_eq_true HIN.out]
    have HW3 := Lib.hid hW3
    have HB3 := Lib.hid (HBz.out.trans (hf3.to_below (by omega) HFz.out))
    have HF3 := Lib.hid (fun k hk => HFz.out k (hx3 k hk))
    have hs3 := hf3.size
    clear hW3 hf3 hx3
    go_wp2_with fail
    refine (stop_any HW3.out _).mono ?_
    rintro e w4 ⟨rfl, F4, hW4, hf4, hx4⟩
    rw [show decide (a % 97 ∈ (rStop zl (a % 97)).map (·.2)) = false from decide_eq_false (stop_out _ _)]
    rw [stop_none (stop_out zl (a % 97))] at hW4
    have hAg := ag_stop HAg.out
    have hbz := HB3.out.trans (hf4.to_below (by omega) HF3.out)
    have hFz := (fun k hk => HF3.out k (hx4 k hk) : ∀ k, F4 k → w.heap.size ≤ k)
    have hs4 := hf4.size
    clear HWZ HIN
    have HWZ := Lib.hid hW4
    clear hW4 hf4 hx4 HAg HBz HFz
    generalize rStop zl (a % 97) = yl at *
    clear HW3 zl
    rename List TM => zl
    go_wp2_with fail
    have hs5 := hbz.size
    have HBZ := Lib.hid hbz
    have HFZ := Lib.hid hFz
    have hda := due_all hAg.all
    have HAG := Lib.hid hAg
    clear hbz hFz hAg
    refine (due_any HWZ.out _).mono ?_
    rintro e w5 ⟨v, F5, rfl, ho5, hW5, hf5, hx5⟩
    rw [hda.1] at ho5
    rw [hda.2] at hW5
    clear hda
    obtain ⟨A5, c5, e5, _, _, hr5⟩ := RdV.of_own ho5
    have hs6 := hf5.size
    have HB5 := Lib.hid (HBZ.out.trans (hf5.to_below hs5 HFZ.out))
    have HR5 := Lib.hid hr5
    have HW5 := Lib.hid hW5
    clear ho5 hr5 hW5 hf5 hx5
    rw [e5]
    clear e5
    have hl9 := HAG.out.len
    have hlz : (zl.length : Int) ≤ 9223372036854775807 := by omega
    go_wp2_with fail
    go_loopw [11, 48] (fun n i wr => ∃ j : Nat, j ≤ zl.length ∧ i = .int .i64 j ∧ n = .int .i64 (cnt (zl.take j) (a % 97)) ∧ Below w5.heap.size w5 wr) (fun _ i _ => zl.length - (intOf i).toNat)
    case atStart => exact ⟨0, by omega, rfl, rfl, Below.refl _ _⟩
    case round =>
      obtain ⟨j, hj, rfl, rfl, hb⟩ := hrel
      have hbs := hb.size
      have hcl := cnt_le (zl.take j) (a % 97)
      rw [List.length_take] at hcl
      by_cases hlt : j < zl.length
      · obtain ⟨gb, off, rfl, c0, c1⟩ := rd_tm (HR5.out.below hb) hlt
        have HB := Lib.hid (fun o => hb.alloc hbs o)
        clear hb
        by_cases hk : zl[j].2 = a % 97
        · have hka := HAG.out.same _ (List.getElem_mem hlt) hk
          have hci := cnt_in hlt hk
          rw [hk] at c1
          rw [hka] at c0
          clear hk hka
          go_wp2
          go_roundw
          case rel => exact ⟨j + 1, by omega, by go_num, by rw [hci]; go_num, HB.out _⟩
          case measure => simp [intOf] <;> omega
        · have hci := cnt_out hlt hk
          go_wp2
          go_roundw
          case rel => exact ⟨j + 1, by omega, by go_num, by rw [hci], HB.out _⟩
          case measure => simp [intOf] <;> omega
      · obtain rfl : j = zl.length := by omega
        rw [List.take_length] at hcl ⊢
        have HB := Lib.hid hb
        have hnum := HAG.out.num
        rw [hnum]
        clear hb hcl hnum
        have HW6 := Lib.hid (HW5.out.below HB.out)
        go_wp2_with fail
        refine (len_any HW6.out).mono ?_
        rintro e w7 ⟨rfl, rfl⟩
        go_wp2_with fail
        refine (awake_any _).mono ?_
        rintro e w8 ⟨rfl, hb8⟩
        go_wp2
        go_ret
        exact LawPost.via (HB5.out.trans (HB.out.mono (by omega))) ⟨rfl, hb8⟩
theorem law_again {w : World} {ats : List Int} {A : Option Addr} {c : Nat} (h : RdB w w.heap.size 1 ats.length A (icells ats)) (hl : ats.length ≤ 9223372036854775807) (a : Int) (ha0 : 0 ≤ a) (ha1 : a < 18446744073709551616) (at_ : Int) (s : Bool) :
    Calls Try.prog 4 #[.slice A ats.length c, .int .u64 a, .int .i64 at_, .bool s] w (LawPost w) := by
  cases s
  · exact law_again0 h hl a ha0 ha1 at_
  · exact law_again1 h hl a ha0 ha1 at_
end Go.Proofs.Ytgfoobgkpnknmaa
