/- The laws of the wheel: what no call made. -/
import Derived.Test.YtgfoobgkpnknmaaA2
namespace Go.Proofs.Ytgfoobgkpnknmaa
open Go.RowKit
def NoW (w : World) (v : Value) : Prop := v = .pointer none ∨ ∃ p, v = .pointer (some ⟨p, 0, none⟩) ∧ Blk w p 63 #[.slice none 0 0, .map none]
theorem NoW.below {w w' : World} {v : Value} (h : NoW w v) (hb : Below w.heap.size w w') : NoW w' v := by
  rcases h with h | ⟨p, h, hB⟩
  · exact .inl h
  · exact .inr ⟨p, h, hB.fr (Fr.of_below (F := fun _ => False) hb) (fun h => h)⟩
theorem made_no {w : World} {v : Value} (h : NoW w v) : Calls Try.prog 57 #[v] w fun e w' => e = .returned (.bool false) ∧ w = w' := by
  rcases h with rfl | ⟨p, rfl, hB⟩
  · exact made_nil w
  · exact made_zero hB
theorem len_no {w : World} {v : Value} (h : NoW w v) : Calls Try.prog 24 #[v] w fun e w' => e = .returned (.int .i64 0) ∧ w = w' := by
  have hm := Lib.hid (made_no h)
  go_enter Try.func24, Try.ntmps24
  go_wp2_with fail
  refine (hm.out).mono ?_
  rintro e w' ⟨rfl, rfl⟩
  go_wp2
  go_ret
  exact ⟨rfl, rfl⟩
theorem when_no {w : World} {v : Value} (h : NoW w v) (id : Int) : Calls Try.prog 28 #[v, .int .i64 id] w fun e w' => e = .returned (.tuple #[.int .i64 0, .bool false]) ∧ w = w' := by
  have hm := Lib.hid (made_no h)
  go_enter Try.func28, Try.ntmps28
  go_wp2_with fail
  refine (hm.out).mono ?_
  rintro e w' ⟨rfl, rfl⟩
  go_wp2
  go_ret2
  exact ⟨rfl, rfl⟩
theorem stop_no {w : World} {v : Value} (h : NoW w v) (id : Int) : Calls Try.prog 26 #[v, .int .i64 id] w fun e w' => e = .returned (.bool false) ∧ w = w' := by
  have hm := Lib.hid (made_no h)
  go_enter Try.func26, Try.ntmps26
  go_wp2_with fail
  refine (hm.out).mono ?_
  rintro e w' ⟨rfl, rfl⟩
  go_wp2
  go_ret
  exact ⟨rfl, rfl⟩
theorem set_no {w : World} {v : Value} (h : NoW w v) (id at_ : Int) : Calls Try.prog 25 #[v, .int .i64 id, .int .i64 at_] w fun e w' => e = .returned (.int .i64 3) ∧ w = w' := by
  have hm := Lib.hid (made_no h)
  go_enter Try.func25, Try.ntmps25
  go_wp2_with fail
  refine (hm.out).mono ?_
  rintro e w' ⟨rfl, rfl⟩
  go_wp2
  go_ret
  exact ⟨rfl, rfl⟩
def NextNo (w : World) (e : Ending) (w' : World) : Prop := e = .returned (.tuple #[.agg #[.int .i64 0, .int .i64 0], .bool false]) ∧ Below w.heap.size w w'
theorem next_no {w : World} {v : Value} (h : NoW w v) : Calls Try.prog 35 #[v] w (NextNo w) := by
  have hm := Lib.hid (made_no (h.below ((Below.refl _ _).alloc (Nat.le_refl _) (.cells #[.int .i64 0, .int .i64 0] 36))))
  go_enter Try.func35, Try.ntmps35
  go_wp2_with fail
  refine (hm.out).mono ?_
  rintro e w' ⟨rfl, rfl⟩
  go_wp2
  exact bodyPost_ret (v := .tuple #[.agg #[.int .i64 0, .int .i64 0], .bool false]) (by simp [results, Try.results35, go_sem]) rfl
    ⟨rfl, by repeat (first | exact Below.refl _ _ | refine Below.setCell ?_ (by simp) _ | refine Below.alloc ?_ (by simp) _)⟩
def DueNo (w : World) (e : Ending) (w' : World) : Prop := e = .returned (.slice none 0 0) ∧ Below w.heap.size w w'
theorem due_no {w : World} {v : Value} (h : NoW w v) (now : Int) : Calls Try.prog 22 #[v, .int .i64 now] w (DueNo w) := by
  have hm := Lib.hid (next_no h)
  go_enter Try.func22, Try.ntmps22
  go_wp2_with fail
  refine (hm.out).mono ?_
  rintro e w1 ⟨rfl, hb⟩
  have hbs := hb.size
  have HB := Lib.hid hb
  clear hb
  go_wp2_with fail
  refine wp_loop_rounds 1 ?_
  rw [rounds_succ]
  go_wp2
  go_ret
  exact ⟨rfl, HB.out.alloc hbs _⟩
def NobRel (w : World) (lb zb : Nat) (t : Value) (wr : World) : Prop :=
  ∃ j : Nat, j ≤ 2 ∧ t = .int .i64 j ∧ Blk wr zb 63 #[.slice none 0 0, .map none] ∧ Blk wr lb 24 #[.pointer none, .pointer (some ⟨zb, 0, none⟩)] ∧ Below w.heap.size w wr
set_option maxRecDepth 100000 in
set_option maxHeartbeats 1000000 in
theorem law_nobody (id at_ : Int) (w : World) : Calls Try.prog 8 #[.int .i64 id, .int .i64 at_] w (LawPost w) := by
  go_enter Try.func8, Try.ntmps8
  go_wp2_with fail
  have hst : NobRel w (w.heap.size + 1) w.heap.size (.int .i64 0) ((w.alloc (.cells #[.slice none 0 0, .map none] 63)).alloc (.cells #[.pointer none, .pointer (some ⟨w.heap.size, 0, none⟩)] 24)) := by
    refine ⟨0, by omega, rfl, (Blk.new w _ _).alloc _, ?_, ((Below.refl _ _).alloc (Nat.le_refl _) _).alloc (by simp) _⟩
    have := Blk.new (w.alloc (.cells #[.slice none 0 0, .map none] 63)) 24 #[.pointer none, .pointer (some ⟨w.heap.size, 0, none⟩)]
    simpa using this
  have HST := Lib.hid hst
  clear hst
  go_loopg [15] 2 (fun k t wr => NobRel w (w.heap.size + 1) w.heap.size t wr ∧ ∃ j : Nat, t = .int .i64 j ∧ j + k = 2)
  case atStart => exact ⟨HST.out, 0, rfl, rfl⟩
  case round =>
    obtain ⟨⟨j, hj, rfl, hz, hB, hbw⟩, j', hj1, hj2⟩ := hrel
    obtain rfl : j = j' := by injection hj1 with _ h; omega
    have hbs := hbw.size
    by_cases hlt : j < 2
    · have hv : ∃ v, wr.cell? ⟨w.heap.size + 1, j, none⟩ = some v ∧ NoW wr v := by
        rw [hB.cell]
        match j, hlt with
        | 0, _ => exact ⟨_, rfl, .inl rfl⟩
        | 1, _ => exact ⟨_, rfl, .inr ⟨_, rfl, hz⟩⟩
      obtain ⟨v, hc, hno⟩ := hv
      have HZ := Lib.hid hz
      have HB := Lib.hid hB
      have HW := Lib.hid hbw
      have HN := Lib.hid hno
      have hnq := neq_tm (0, 0) (0, 0)
      rw [decide_eq_true rfl] at hnq
      clear hz hB hbw hno
      go_wp2_with fail
      refine (next_no HN.out).mono ?_
      rintro e w1 ⟨rfl, hb1⟩
      have HB1 := Lib.hid hb1
      have hs1 := hb1.size
      have HA : Hid (Below wr.heap.size wr (w1.alloc (.cells #[.int .i64 0, .int .i64 0] 36))) := Lib.hid (hb1.alloc hb1.size _)
      have hN2 := Lib.hid (HN.out.below HA.out)
      clear hb1
      go_wp2_with fail
      refine (when_no hN2.out _).mono ?_
      rintro e w2 ⟨rfl, rfl⟩
      go_wp2_with fail
      refine (set_no hN2.out _ _).mono ?_
      rintro e w2 ⟨rfl, rfl⟩
      go_wp2_with fail
      refine (stop_no hN2.out _).mono ?_
      rintro e w2 ⟨rfl, rfl⟩
      go_wp2_with fail
      refine (len_no hN2.out).mono ?_
      rintro e w2 ⟨rfl, rfl⟩
      go_wp2_with fail
      refine (due_no hN2.out _).mono ?_
      rintro e w3 ⟨rfl, hb3⟩
      have HP : Hid (NobRel w (w.heap.size + 1) w.heap.size (.int .i64 ((j + 1 : Nat) : Int)) w3) := Lib.hid (by
        have hbb : Below wr.heap.size wr w3 := HA.out.trans (hb3.mono (by simp; omega))
        have hf := Fr.of_below (F := fun _ => False) hbb
        exact ⟨j + 1, by omega, rfl, HZ.out.fr hf (fun h => h), HB.out.fr hf (fun h => h), HW.out.trans (hbb.mono hbs)⟩)
      clear hb3
      go_wp2
      go_roundg (1 - j)
      case measure => omega
      case rel => exact ⟨HP.out, j + 1, by go_num, by omega⟩
    · have HW := Lib.hid hbw
      clear hz hB hbw
      go_wp2_with fail
      refine (awake_any _).mono ?_
      rintro e w1 ⟨rfl, hb⟩
      go_wp2
      go_ret
      exact LawPost.via HW.out ⟨rfl, hb⟩
end Go.Proofs.Ytgfoobgkpnknmaa
