/- The laws of the wheel: shows. -/
import Derived.Test.YtgfoobgkpnknmaaA4
namespace Go.Proofs.Ytgfoobgkpnknmaa
set_option linter.unusedSimpArgs false
set_option linter.unusedVariables false
open Go.RowKit
theorem top_cell {w : World} {l : List TM} {A : Option Addr} (h : Rd w 36 2 l.length A (tcells l)) (hl : 0 < l.length) :
    ∃ gb off, A = some ⟨gb, off, none⟩ ∧ w.cell? ⟨gb, off, none⟩ = some (.int .i64 (rTop l).1) ∧ w.cell? ⟨gb, off + 1, none⟩ = some (.int .i64 (rTop l).2) := by
  cases l with
  | nil => simp at hl
  | cons t r =>
    obtain ⟨gb, off, e, c0, c1⟩ := rd_tm h hl
    rw [Nat.zero_mul, Nat.add_zero] at c0 c1
    exact ⟨gb, off, e, c0, c1⟩
set_option maxRecDepth 100000 in
set_option maxHeartbeats 2000000 in
theorem shows_any {w : World} {p : Nat} {l : List TM} {F : Nat → Prop} (H : Wh w p l F) {A : Option Addr} {c : Nat} (h : Rd w 36 2 l.length A (tcells l)) :
    Calls Try.prog 33 #[.pointer (some ⟨p, 0, none⟩), .slice A l.length c] w (LawPost w) := by
  have hle := H.le
  have HW := Lib.hid H
  have HR := Lib.hid h
  have HND := Lib.hid H.nd
  clear H h
  go_enter Try.func33, Try.ntmps33
  go_wp2_with fail
  refine (next_any HW.out).mono ?_
  rintro e w1 ⟨rfl, hb1⟩
  have hs1 := hb1.size
  obtain ⟨tt, htt⟩ : ∃ tt, tt = rTop l := ⟨_, rfl⟩
  rw [← htt]
  have HTT := Lib.hid htt
  clear htt
  have HB1 := Lib.hid (hb1.alloc hs1 (.cells #[.int .i64 tt.1, .int .i64 tt.2] 36))
  have HW1 := Lib.hid (HW.out.below HB1.out)
  have HR1 := Lib.hid (HR.out.below HB1.out)
  clear hb1
  rcases Nat.eq_zero_or_pos l.length with hl0 | hl0
  · obtain rfl : l = [] := List.length_eq_zero_iff.1 hl0
    obtain rfl : tt = (0, 0) := HTT.out
    have hnq := neq_tm (0, 0) (0, 0)
    rw [decide_eq_true rfl] at hnq
    clear hl0
    have HLN := Lib.hid (fun n => (len_any (HW1.out.below (below_drewN (Below.refl _ _) n))).mono (fun _ _ h => And.intro h.1 h.2.symm))
    have HBD := Lib.hid (fun n => below_drewN HB1.out n)
    go_wp2
    go_quiet (refine Calls.quiet_of_same (HLN.out _))
    go_wp2
    refine wp_loop_rounds 1 ?_
    rw [rounds_succ]
    go_wp2
    go_ret
    exact ⟨rfl, HBD.out _⟩
  · obtain ⟨gb, off, e, c0, c1⟩ := top_cell HR1.out hl0
    rw [← HTT.out] at c0 c1
    have hie : (!l.isEmpty) = true := by cases l with
      | nil => simp at hl0
      | cons => rfl
    have hnq := neq_tm tt tt
    rw [decide_eq_true rfl] at hnq
    subst e
    rw [hie]
    clear hie
    have hd : decide (0 < l.length) = true := decide_eq_true hl0
    have HLN := Lib.hid (fun n => (len_any (HW1.out.below (below_drewN (Below.refl _ _) n))).mono (fun _ _ h => And.intro h.1 h.2.symm))
    have HBD := Lib.hid (fun n => below_drewN HB1.out n)
    go_wp2
    go_quiet (refine Calls.quiet_of_same (HLN.out _))
    go_wp2
    have HWD := Lib.hid (HW1.out.below (below_drewN (Below.refl _ _) nq))
    have HRD := Lib.hid (HR1.out.below (below_drewN (Below.refl _ _) nq))
    have HBE := Lib.hid (HBD.out nq)
    clear HBD HLN
    generalize (w1.alloc (.cells #[.int .i64 tt.1, .int .i64 tt.2] 36)).drewN nq = W2 at *
    go_loop [7] (fun i => ∃ j : Nat, j ≤ l.length ∧ j ≤ 60 ∧ i = .int .i64 j) (fun i => 60 - (intOf i).toNat)
    case atStart => exact ⟨0, by omega, by omega, rfl⟩
    case round =>
      obtain ⟨j, hj, hj6, rfl⟩ := hrel
      by_cases hlt : j < l.length ∧ j < 60
      · obtain ⟨h1, h2⟩ := hlt
        obtain ⟨gb', off', e', b0, b1⟩ := rd_tm HRD.out h1
        injection e' with e'
        injection e' with e1 e2
        subst e1 e2
        have HWN := Lib.hid (when_some HND.out (List.getElem_mem h1))
        go_wp2_with fail
        refine (when_any HWD.out _).mono ?_
        rintro e w3 ⟨rfl, rfl⟩
        rw [HWN.out]
        go_wp2
        go_round
        case rel => exact ⟨j + 1, by omega, by omega, by go_num⟩
        case measure => simp [intOf] <;> omega
      · have hlt2 : l.length ≤ j ∨ 60 ≤ j := by omega
        clear hlt
        rcases hlt2 with hlt | hlt
        all_goals
          go_wp2
          all_goals
            go_ret
            exact ⟨rfl, HBE.out⟩
end Go.Proofs.Ytgfoobgkpnknmaa
