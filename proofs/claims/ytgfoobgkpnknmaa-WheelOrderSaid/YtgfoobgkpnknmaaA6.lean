/- The laws of the wheel: WheelOrder. -/
import Derived.Test.YtgfoobgkpnknmaaA4
namespace Go.Proofs.Ytgfoobgkpnknmaa
set_option linter.unusedSimpArgs false
set_option linter.unusedVariables false
open Go.RowKit
theorem due_cat (l : List TM) (now : Int) : rDueA l now ++ rDueB l now = l := List.takeWhile_append_dropWhile
theorem due_le {l : List TM} {now : Int} : ∀ t ∈ rDueA l now, t.1 ≤ now := fun t ht => by
  unfold rDueA at ht
  induction l with
  | nil => cases ht
  | cons s r ih =>
    by_cases h : s.1 ≤ now
    · rw [List.takeWhile_cons_of_pos (by simpa using h)] at ht
      rcases List.mem_cons.1 ht with e | e
      · rw [e]; exact h
      · exact ih e
    · rw [List.takeWhile_cons_of_neg (by simpa using h)] at ht; cases ht
theorem due_gt {l : List TM} {now : Int} {t : TM} {r : List TM} (h : rDueB l now = t :: r) : now < t.1 := by
  unfold rDueB at h
  induction l with
  | nil => cases h
  | cons s r' ih =>
    by_cases hs : s.1 ≤ now
    · rw [List.dropWhile_cons_of_pos (by simpa using hs)] at h; exact ih h
    · rw [List.dropWhile_cons_of_neg (by simpa using hs)] at h
      injection h with h _; rw [← h]; omega
theorem due_dueB (l : List TM) (now : Int) : rDueA (rDueB l now) now = [] := by
  cases h : rDueB l now with
  | nil => rfl
  | cons t r =>
    have := due_gt h
    unfold rDueA
    rw [List.takeWhile_cons_of_neg (by simp; omega)]
theorem due_off {l : List TM} {now : Int} (hn : (l.map (·.2)).Nodup) {t : TM} (ht : t ∈ rDueA l now) : rWhen (rDueB l now) t.2 = (0, false) := by
  refine when_none fun hm => ?_
  rw [← due_cat l now, List.map_append, List.nodup_append] at hn
  exact hn.2.2 t.2 (List.mem_map.2 ⟨t, ht, rfl⟩) t.2 hm rfl
theorem due_adj {l : List TM} {now : Int} (hs : l.Pairwise ah) {j : Nat} (h : j + 1 < (rDueA l now).length) : lsB (rDueA l now)[j] (rDueA l now)[j + 1] = true := by
  have h2 : (rDueA l now).Pairwise ah := hs.sublist (List.takeWhile_sublist _)
  exact decide_eq_true (List.pairwise_iff_getElem.1 h2 j (j + 1) (by omega) h (by omega))
/-- what the loop of WheelOrder looks at -/
structure OrL (l rest : List TM) (now : Int) : Prop where
  le : ∀ t ∈ l, t.1 ≤ now
  off : ∀ t ∈ l, rWhen rest t.2 = (0, false)
  adj : ∀ j (h : j + 1 < l.length), lsB l[j] l[j + 1] = true
  none : rDueA rest now = []
  len : l.length + rest.length ≤ 4096
  gt : rest.isEmpty = false → now < (rTop rest).1
theorem or_of {l : List TM} {now : Int} (hn : (l.map (·.2)).Nodup) (hs : l.Pairwise ah) (hl : l.length ≤ 4096) : OrL (rDueA l now) (rDueB l now) now ∧ (rDueA l now).length + (rDueB l now).length = l.length := by
  have h : (rDueA l now).length + (rDueB l now).length = l.length := by rw [← List.length_append, due_cat]
  exact ⟨⟨due_le, fun t ht => due_off hn ht, fun j h => due_adj hs h, due_dueB l now, by omega, fun he => by
    cases hr : rDueB l now with
    | nil => rw [hr] at he; cases he
    | cons t r => exact due_gt hr⟩, h⟩
set_option maxRecDepth 100000 in
set_option maxHeartbeats 2000000 in
theorem law_order {w : World} {ats : List Int} {A : Option Addr} {c : Nat} (h : RdB w w.heap.size 1 ats.length A (icells ats)) (hl : ats.length ≤ 9223372036854775807) (now : Int) :
    Calls Try.prog 7 #[.slice A ats.length c, .int .i64 now] w (LawPost w) := by
  have HR := Lib.hid h
  clear h
  go_enter Try.func7, Try.ntmps7
  go_wp2_with fail
  refine (filled_any (c := c) HR.out (Nat.le_refl _) hl).mono ?_
  rintro e w1 ⟨p, F, rfl, hW1, hb1, hF1⟩
  have hor := or_of (now := now) hW1.nd hW1.so hW1.le
  have HW1 := Lib.hid hW1
  have HB1 := Lib.hid hb1
  have HF1 := Lib.hid hF1
  have hs1 := hb1.size
  clear hW1 hb1 hF1
  go_wp2_with fail
  refine (len_any HW1.out).mono ?_
  rintro e w2 ⟨rfl, rfl⟩
  go_wp2_with fail
  refine (due_any HW1.out _).mono ?_
  rintro e w5 ⟨v, F5, rfl, ho5, hW5, hf5, hx5⟩
  generalize rDueA (fillL ats (min ats.length 500)) now = zl at *
  generalize rDueB (fillL ats (min ats.length 500)) now = rest at *
  obtain ⟨hOr, hcat⟩ := hor
  rw [← hcat]
  clear hcat
  obtain ⟨A5, c5, e5, _, _, hr5⟩ := RdV.of_own ho5
  have hs5 := hf5.size
  have HB5 := Lib.hid (HB1.out.trans (hf5.to_below hs1 HF1.out))
  have HR5 := Lib.hid hr5
  have HW5 := Lib.hid hW5
  have HO := Lib.hid hOr
  have HFZ := Lib.hid (fun k hk => HF1.out k (hx5 k hk))
  have hol := hOr.len
  clear ho5 hr5 hW5 hf5 hx5 hOr
  rw [e5]
  clear e5
  go_wp2_with fail
  go_loopw [8] (fun i wr => ∃ j : Nat, j ≤ zl.length ∧ i = .int .i64 j ∧ Below w5.heap.size w5 wr) (fun i _ => zl.length - (intOf i).toNat)
  case atStart => exact ⟨0, by omega, rfl, Below.refl _ _⟩
  case round =>
    obtain ⟨j, hj, rfl, hb⟩ := hrel
    have hbs := hb.size
    have HB := Lib.hid hb
    have HWr := Lib.hid (HW5.out.below hb)
    have HRr := Lib.hid (HR5.out.below hb)
    clear hb
    by_cases hlt : j < zl.length
    · obtain ⟨gb, off, rfl, c0, c1⟩ := rd_tm HRr.out hlt
      have hoff := HO.out.off _ (List.getElem_mem hlt)
      have hle := HO.out.le _ (List.getElem_mem hlt)
      have HOFF := Lib.hid hoff
      clear hoff
      go_wp2_with fail
      refine (when_any HWr.out _).mono ?_
      rintro e w6 ⟨rfl, rfl⟩
      rw [HOFF.out]
      rcases Nat.eq_zero_or_pos j with rfl | hj0
      · rw [Nat.zero_mul, Nat.add_zero] at c0 c1
        have hd : decide (now < zl[0].1) = false := decide_eq_false (by omega)
        go_wp2
        go_quiet (fail)
        go_wp2
        go_roundw
        case rel => exact ⟨1, by omega, by go_num, below_drewN HB.out _⟩
        case measure => simp [intOf] <;> omega
      · obtain ⟨i, hi⟩ : ∃ i, j = i + 1 := ⟨j - 1, by omega⟩
        have hil : i < zl.length := by omega
        obtain ⟨gb', off', e', b0, b1⟩ := rd_tm HRr.out hil
        injection e' with e'
        injection e' with e1 e2
        subst e1 e2
        have HADJ : Hid (lsB zl[i] zl[j] = true) := Lib.hid (by subst hi; exact HO.out.adj i hlt)
        have hd : decide (now < zl[j].1) = false := decide_eq_false (by omega)
        have hw : IntKind.i64.wrap ((j : Int) - 1) = (i : Int) := by rw [IntWalk.i64_in _ (by omega)]; omega
        have hp : decide (0 < j) = true := decide_eq_true (by omega)
        have x0 : (0 : Int) ≤ j := by omega
        have x1 : (j : Int) < zl.length := by omega
        have x2 : (0 : Int) ≤ i := by omega
        have x3 : (i : Int) < zl.length := by omega
        have HI := Lib.hid hi
        clear hi hj0
        go_wp2
        go_still_tail 23, (by kernel_rfl)
        go_wp2_with fail
        refine (ahead_any zl[i] zl[j] _).mono ?_
        rintro e w7 ⟨rfl, hb7⟩
        rw [HADJ.out]
        have HB7 := Lib.hid (HB.out.trans ((Below.refl _ _).drew.trans (hb7.mono hbs)))
        clear hb7
        go_wp2
        go_roundw
        case rel => exact ⟨j + 1, by omega, by go_num, HB7.out⟩
        case measure => simp [intOf] <;> omega
    · obtain rfl : j = zl.length := by omega
      go_wp2_with fail
      refine (next_any HWr.out).mono ?_
      rintro e w6 ⟨rfl, hb6⟩
      have hs6 := hb6.size
      have HB6 := Lib.hid (hb6.alloc hs6 (.cells #[.int .i64 (rTop rest).1, .int .i64 (rTop rest).2] 36))
      have HW6 := Lib.hid (HWr.out.below HB6.out)
      have HN := Lib.hid HO.out.none
      have hgt := HO.out.gt
      have hlen := HO.out.len
      clear hb6
      cases hem : rest.isEmpty
      all_goals
        rw [hem] at hgt
        clear hem
        try (have hgt2 := hgt rfl)
        go_wp2_with fail
        refine (len_any HW6.out).mono ?_
        rintro e w7 ⟨rfl, rfl⟩
        go_wp2_with fail
        refine (due_any HW6.out now).mono ?_
        rintro e w7 ⟨v7, F7, rfl, ho7, hW7, hf7, hx7⟩
        rw [HN.out] at ho7
        obtain ⟨A7, c7, e7, _, _, _⟩ := RdV.of_own ho7
        have HB7 := Lib.hid ((HB.out.mono (by omega)).trans ((HB6.out.mono (by omega)).trans (hf7.to_below (B := w.heap.size) (by have := HB6.out.size; omega) (fun k hk => by have := HFZ.out k hk; omega))))
        clear ho7 hW7 hf7 hx7
        rw [e7]
        clear e7
        go_wp2_with fail
        refine (awake_any _).mono ?_
        rintro e w8 ⟨rfl, hb8⟩
        go_wp2
        go_ret
        exact LawPost.via (HB5.out.trans HB7.out) ⟨rfl, hb8⟩
end Go.Proofs.Ytgfoobgkpnknmaa
