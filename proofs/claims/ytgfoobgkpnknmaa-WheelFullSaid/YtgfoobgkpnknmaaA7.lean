/- The laws of the wheel: WheelFull. -/
import Derived.Test.YtgfoobgkpnknmaaA4
namespace Go.Proofs.Ytgfoobgkpnknmaa
set_option linter.unusedSimpArgs false
set_option linter.unusedVariables false
open Go.RowKit
def fullL (a : Int) (j : Nat) : List TM := (List.range (min j 4096)).map fun (i : Nat) => (a, (i : Int))
theorem ins_end {t : TM} : ∀ {l : List TM}, (∀ s ∈ l, ah s t) → rIns t l = l ++ [t]
  | [], _ => rfl
  | s :: r, h => by
    unfold rIns
    rw [if_pos (h s (by simp)), ins_end (fun u hu => h u (by simp [hu]))]; rfl
theorem full_ids {a : Int} {j : Nat} {i : Nat} : (i : Int) ∈ (fullL a j).map (·.2) ↔ i < min j 4096 := by
  unfold fullL
  rw [List.map_map, List.mem_map]
  constructor
  · rintro ⟨k, hk, e⟩
    have : (k : Int) = i := e
    have := List.mem_range.1 hk
    omega
  · intro h
    exact ⟨i, List.mem_range.2 h, rfl⟩
theorem full_len (a : Int) (j : Nat) : (fullL a j).length = min j 4096 := by unfold fullL; rw [List.length_map, List.length_range]
theorem full_set {a : Int} (h0 : 0 ≤ a) (h1 : a ≤ 1099511627776) (j : Nat) : rSetE (fullL a j) (j : Int) a = (if j < 4096 then 0 else 5) ∧ rSetL (fullL a j) (j : Int) a = fullL a (j + 1) := by
  have hno : (j : Int) ∉ (fullL a j).map (·.2) := fun h => by have := full_ids.1 h; omega
  have hs := stop_none hno
  have hE : rSetE (fullL a j) (j : Int) a = (if j < 4096 then 0 else 5) := by
    unfold rSetE
    rw [if_neg (by omega), hs, full_len]
    by_cases h : j < 4096
    · rw [if_neg (by omega), if_pos h]
    · rw [if_pos (by omega), if_neg h]
  refine ⟨hE, ?_⟩
  unfold rSetL
  rw [hE, hs]
  by_cases h : j < 4096
  · rw [if_pos h, if_pos rfl]
    have hm : min j 4096 = j := by omega
    have hm2 : min (j + 1) 4096 = j + 1 := by omega
    rw [ins_end]
    · unfold fullL; rw [hm, hm2, List.range_succ, List.map_append]; rfl
    · intro s hs'
      unfold fullL at hs'
      rw [hm] at hs'
      obtain ⟨i, hi, rfl⟩ := List.mem_map.1 hs'
      have := List.mem_range.1 hi
      exact .inr ⟨rfl, (by show (i : Int) < (j : Int); omega)⟩
  · rw [if_neg h, if_neg (by omega)]
    unfold fullL
    rw [show min j 4096 = min (j + 1) 4096 by omega]
theorem full_end {a : Int} (h0 : 0 ≤ a) (h1 : a ≤ 1099511627776) {j : Nat} (hj : 4090 ≤ j) (hn : ((fullL a j).map (·.2)).Nodup) :
    rSetE (fullL a j) 0 0 = 0 ∧ (1 : Int) ∈ (rSetL (fullL a j) 0 0).map (·.2) ∧ rSetE (rStop (rSetL (fullL a j) 0 0) 1) 5000 a = 0 := by
  have i0 : ((0 : Nat) : Int) ∈ (fullL a j).map (·.2) := full_ids.2 (by omega)
  have i1 : ((1 : Nat) : Int) ∈ (fullL a j).map (·.2) := full_ids.2 (by omega)
  have hfl := full_len a j
  obtain ⟨t0, m0, e0⟩ := List.mem_map.1 i0
  obtain ⟨t1, m1, e1⟩ := List.mem_map.1 i1
  have hl0 := stop_len_in hn m0
  rw [e0] at hl0
  have hl0' : (rStop (fullL a j) 0).length + 1 = (fullL a j).length := hl0
  have hE : rSetE (fullL a j) 0 0 = 0 := by unfold rSetE; rw [if_neg (by omega), if_neg (by omega)]
  have hL : rSetL (fullL a j) 0 0 = rIns (0, 0) (rStop (fullL a j) 0) := by unfold rSetL; rw [if_pos hE]
  have hin : t1 ∈ rSetL (fullL a j) 0 0 := by
    rw [hL]
    refine (ins_perm _ _).mem_iff.2 (List.mem_cons.2 (.inr ?_))
    unfold rStop
    exact List.mem_filter.2 ⟨m1, decide_eq_true (by rw [e1]; decide)⟩
  have hnd : ((rSetL (fullL a j) 0 0).map (·.2)).Nodup := by rw [hL]; exact ins_nodup hn
  have hl1 := stop_len_in hnd hin
  rw [e1] at hl1
  have hl1' : (rStop (rSetL (fullL a j) 0 0) 1).length + 1 = (rSetL (fullL a j) 0 0).length := hl1
  have hl2 : (rSetL (fullL a j) 0 0).length = (fullL a j).length := by rw [hL, ins_len]; exact hl0'
  refine ⟨hE, List.mem_map.2 ⟨t1, hin, e1⟩, ?_⟩
  unfold rSetE
  rw [if_neg (by omega), if_neg (by omega)]
set_option maxRecDepth 100000 in
set_option maxHeartbeats 2000000 in
theorem law_full (n : Int) (hn0 : 0 ≤ n) (hn1 : n < 65536) (a : Int) (w : World) : Calls Try.prog 5 #[.int .u16 n, .int .i64 a] w (LawPost w) := by
  by_cases hat : a < 0 ∨ 1099511627776 < a
  · rcases hat with hat | hat
    · go_enter Try.func5, Try.ntmps5
      go_wp2_with fail
      refine (awake_any _).mono ?_
      rintro e w3 ⟨rfl, hb3⟩
      go_wp2
      go_ret
      exact ⟨rfl, hb3⟩
    · have hat0 : 0 ≤ a := by omega
      go_enter Try.func5, Try.ntmps5
      go_wp2_with fail
      refine (awake_any _).mono ?_
      rintro e w3 ⟨rfl, hb3⟩
      go_wp2
      go_ret
      exact ⟨rfl, hb3⟩
  · have h0 : 0 ≤ a := by omega
    have h1 : a ≤ 1099511627776 := by omega
    clear hat
    obtain ⟨m, hm⟩ : ∃ m : Nat, (m : Int) = 4090 + n % 10 := ⟨(4090 + n % 10).toNat, by omega⟩
    have hm0 : 4090 ≤ m := by omega
    have hm1 : m < 4100 := by omega
    have HM := Lib.hid hm
    clear hm
    go_enter Try.func5, Try.ntmps5
    go_wp2_with fail
    refine (new_any w).mono ?_
    rintro e w1 ⟨p, F, rfl, hW, hb1, hF⟩
    have HST := Lib.hid (show Wh w1 p (fullL a 0) F from hW)
    have HB1 := Lib.hid hb1
    have HF1 := Lib.hid hF
    clear hW hb1 hF
    go_wp2_with fail
    try rw [← HM.out]
    go_loopw [7] (fun i wr => ∃ (j : Nat) (F : Nat → Prop), j ≤ m ∧ i = .int .i64 j ∧ Wh wr p (fullL a j) F ∧ Below w.heap.size w wr ∧ ∀ k, F k → w.heap.size ≤ k) (fun i _ => m - (intOf i).toNat)
    case atStart => exact ⟨0, F, by omega, rfl, HST.out, HB1.out, HF1.out⟩
    case round =>
      obtain ⟨j, F, hj, rfl, hW, hb, hF⟩ := hrel
      have hbs := hb.size
      have HB := Lib.hid hb
      have HW := Lib.hid hW
      have HF := Lib.hid hF
      have HND := Lib.hid hW.nd
      clear hb hW hF
      by_cases hlt : j < m
      · obtain ⟨hE, hS⟩ := full_set h0 h1 j
        have HE := Lib.hid hE
        have HS := Lib.hid hS
        clear hE hS
        go_wp2_with fail
        refine (set_any HW.out _ _).mono ?_
        rintro e w2 ⟨rfl, F', hW2, hf2, hx2⟩
        rw [HE.out]
        rw [HS.out] at hW2
        have HW2 := Lib.hid hW2
        have HB2 := Lib.hid (HB.out.trans (hf2.to_below hbs HF.out))
        have HF2 : Hid (∀ k, F' k → w.heap.size ≤ k) := Lib.hid (fun k hk => (hx2 k hk).elim (HF.out k) (fun q => by omega))
        clear hW2 hf2 hx2
        by_cases h4 : j < 4096
        · rw [if_pos h4]
          go_wp2
          go_roundw
          case rel => exact ⟨j + 1, F', by omega, by go_num, HW2.out, HB2.out, HF2.out⟩
          case measure => simp [intOf] <;> omega
        · rw [if_neg h4]
          go_wp2
          go_roundw
          case rel => exact ⟨j + 1, F', by omega, by go_num, HW2.out, HB2.out, HF2.out⟩
          case measure => simp [intOf] <;> omega
      · obtain rfl : j = m := by omega
        obtain ⟨hE0, hin, hE1⟩ := full_end h0 h1 hm0 HND.out
        have HE0 := Lib.hid hE0
        have HIN := Lib.hid hin
        have HE1 := Lib.hid hE1
        have hfl := full_len a j
        have HFL := Lib.hid hfl
        clear hE0 hin hE1 hfl
        have h40 : j < 4096 ∨ (4096 ≤ j ∧ min j 4096 = 4096) := by omega
        obtain ⟨mm, hmm⟩ : ∃ mm, mm = min j 4096 := ⟨_, rfl⟩
        have HMM := Lib.hid hmm
        rcases h40 with h40 | ⟨h40, h41⟩
        · obtain rfl : mm = j := by omega
          have hd : decide ((4096 : Int) ≤ (mm : Int)) = false := decide_eq_false (by omega)
          have hd2 : ((mm : Int) == 4096) = false := by simp; omega
          have hd3 : decide ((mm : Int) = 4096) = false := decide_eq_false (by omega)
          have hd4 : ¬ ((mm : Int) = 4096) := by omega
          clear hmm
          go_wp2_with fail
          refine (len_any HW.out).mono ?_
          rintro e w2 ⟨rfl, rfl⟩
          rw [HFL.out, ← HMM.out]
          go_wp2_with fail
          refine (set_any HW.out _ _).mono ?_
          rintro e w3 ⟨rfl, F3, hW3, hf3, hx3⟩
          rw [HE0.out]
          have HW3 := Lib.hid hW3
          have HB3 := Lib.hid (HB.out.trans (hf3.to_below hbs HF.out))
          have HF3 : Hid (∀ k, F3 k → w.heap.size ≤ k) := Lib.hid (fun k hk => (hx3 k hk).elim (HF.out k) (fun q => by omega))
          clear hW3 hf3 hx3
          go_wp2_with fail
          refine (stop_any HW3.out _).mono ?_
          rintro e w4 ⟨rfl, F4, hW4, hf4, hx4⟩
          rw [decide_eq_true HIN.out]
          have HW4 := Lib.hid hW4
          have HB4 := Lib.hid (HB3.out.trans (hf4.to_below HB3.out.size HF3.out))
          have HF4 : Hid (∀ k, F4 k → w.heap.size ≤ k) := Lib.hid (fun k hk => HF3.out k (hx4 k hk))
          clear hW4 hf4 hx4
          go_wp2_with fail
          refine (set_any HW4.out _ _).mono ?_
          rintro e w5 ⟨rfl, F5, hW5, hf5, hx5⟩
          rw [HE1.out]
          have HB5 := Lib.hid (HB4.out.trans (hf5.to_below HB4.out.size HF4.out))
          clear hW5 hf5 hx5
          go_wp2_with fail
          refine (awake_any _).mono ?_
          rintro e w8 ⟨rfl, hb8⟩
          go_wp2
          go_ret
          exact LawPost.via HB5.out ⟨rfl, hb8⟩
        · obtain rfl : mm = 4096 := by omega
          have hd : decide ((4096 : Int) ≤ (j : Int)) = true := decide_eq_true (by omega)
          clear hmm h41
          go_wp2_with fail
          refine (len_any HW.out).mono ?_
          rintro e w2 ⟨rfl, rfl⟩
          rw [HFL.out, ← HMM.out]
          go_wp2_with fail
          refine (set_any HW.out _ _).mono ?_
          rintro e w3 ⟨rfl, F3, hW3, hf3, hx3⟩
          rw [HE0.out]
          have HW3 := Lib.hid hW3
          have HB3 := Lib.hid (HB.out.trans (hf3.to_below hbs HF.out))
          have HF3 : Hid (∀ k, F3 k → w.heap.size ≤ k) := Lib.hid (fun k hk => (hx3 k hk).elim (HF.out k) (fun q => by omega))
          clear hW3 hf3 hx3
          go_wp2_with fail
          refine (stop_any HW3.out _).mono ?_
          rintro e w4 ⟨rfl, F4, hW4, hf4, hx4⟩
          rw [decide_eq_true HIN.out]
          have HW4 := Lib.hid hW4
          have HB4 := Lib.hid (HB3.out.trans (hf4.to_below HB3.out.size HF3.out))
          have HF4 : Hid (∀ k, F4 k → w.heap.size ≤ k) := Lib.hid (fun k hk => HF3.out k (hx4 k hk))
          clear hW4 hf4 hx4
          go_wp2_with fail
          refine (set_any HW4.out _ _).mono ?_
          rintro e w5 ⟨rfl, F5, hW5, hf5, hx5⟩
          rw [HE1.out]
          have HB5 := Lib.hid (HB4.out.trans (hf5.to_below HB4.out.size HF4.out))
          clear hW5 hf5 hx5
          go_wp2_with fail
          refine (awake_any _).mono ?_
          rintro e w8 ⟨rfl, hb8⟩
          go_wp2
          go_ret
          exact LawPost.via HB5.out ⟨rfl, hb8⟩
end Go.Proofs.Ytgfoobgkpnknmaa
