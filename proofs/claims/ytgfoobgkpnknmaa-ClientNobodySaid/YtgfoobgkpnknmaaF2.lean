/- The laws of the client: what no call made. -/
import Derived.Test.YtgfoobgkpnknmaaE2
namespace Go.Proofs.Ytgfoobgkpnknmaa
set_option linter.unusedSimpArgs false
set_option linter.unusedVariables false
open Go.RowKit
def NoC (w : World) (v : Value) : Prop := v = .pointer none ∨ ∃ p, v = .pointer (some ⟨p, 0, none⟩) ∧ Blk w p 99 #[.int .i64 0, .int .i64 0, .map none, .map none, .pointer none]
theorem NoC.below {w w' : World} {v : Value} (h : NoC w v) (hb : Below w.heap.size w w') : NoC w' v := by
  rcases h with h | ⟨p, h, hB⟩
  · exact .inl h
  · exact .inr ⟨p, h, hB.fr (Fr.of_below (F := fun _ => False) hb) (fun h => h)⟩
theorem cmade_no {w : World} {v : Value} (h : NoC w v) : Calls Try.prog 62 #[v] w fun e w' => e = .returned (.bool false) ∧ w = w' := by
  rcases h with rfl | ⟨p, rfl, hB⟩
  · exact cmade_nil w
  · exact cmade_zero hB
theorem clen_no {w : World} {v : Value} (h : NoC w v) : Calls Try.prog 41 #[v] w fun e w' => e = .returned (.int .i64 0) ∧ w = w' := by
  have hm := Lib.hid (cmade_no h)
  go_enter Try.func41, Try.ntmps41
  go_wp2_with fail
  refine (hm.out).mono ?_
  rintro e w' ⟨rfl, rfl⟩
  go_wp2
  go_ret
  exact ⟨rfl, rfl⟩
theorem clive_no {w : World} {v : Value} (h : NoC w v) (id : Int) : Calls Try.prog 44 #[v, .int .i64 id] w fun e w' => e = .returned (.bool false) ∧ w = w' := by
  have hm := Lib.hid (cmade_no h)
  go_enter Try.func44, Try.ntmps44
  go_wp2_with fail
  refine (hm.out).mono ?_
  rintro e w' ⟨rfl, rfl⟩
  go_wp2
  go_ret
  exact ⟨rfl, rfl⟩
theorem cstep_no {w : World} {v : Value} (h : NoC w v) (now : Int) : Calls Try.prog 39 #[v, .int .i64 now] w fun e w' => e = .returned (.slice none 0 0) ∧ w = w' := by
  have hm := Lib.hid (cmade_no h)
  go_enter Try.func39, Try.ntmps39
  go_wp2_with fail
  refine (hm.out).mono ?_
  rintro e w' ⟨rfl, rfl⟩
  go_wp2
  go_ret
  exact ⟨rfl, rfl⟩
theorem cresp_no {w : World} {v : Value} (h : NoC w v) (br : ByteArray) (st now : Int) : Calls Try.prog 40 #[v, .string br, .int .i64 st, .int .i64 now] w fun e w' => e = .returned (.tuple #[.int .i64 0, .bool false, .int .i64 3]) ∧ w = w' := by
  have hm := Lib.hid (cmade_no h)
  go_enter Try.func40, Try.ntmps40
  go_wp2_with fail
  refine (hm.out).mono ?_
  rintro e w' ⟨rfl, rfl⟩
  go_wp2
  go_ret3
  exact ⟨rfl, rfl⟩
def StartNo (w : World) (e : Ending) (w' : World) : Prop := e = .returned (.tuple #[.int .i64 0, .int .i64 3]) ∧ Below w.heap.size w w'
theorem cstart_no {w : World} {v : Value} (h : NoC w v) (br : ByteArray) (now : Int) (to bs : ByteArray) : Calls Try.prog 38 #[v, .string br, .int .i64 now, .agg #[.string to, .string bs]] w (StartNo w) := by
  have hm := Lib.hid (cmade_no (h.below ((Below.refl _ _).alloc (Nat.le_refl _) (.cells #[.string to, .string bs] 71))))
  go_enter Try.func38, Try.ntmps38
  go_wp2_with fail
  refine (hm.out).mono ?_
  rintro e w' ⟨rfl, rfl⟩
  go_wp2
  go_ret2
  exact ⟨rfl, (Below.refl _ _).alloc (Nat.le_refl _) _⟩
def CNobRel (w : World) (ab lb zb : Nat) (kd : Int) (br : ByteArray) (st now : Int) (tx : ByteArray) (t : Value) (wr : World) : Prop :=
  ∃ j : Nat, j ≤ 2 ∧ t = .int .i64 j ∧ Blk wr ab 93 #[.int .i64 kd, .string br, .int .i64 st, .int .i64 now, .string tx] ∧ Blk wr zb 99 #[.int .i64 0, .int .i64 0, .map none, .map none, .pointer none] ∧ Blk wr lb 67 #[.pointer none, .pointer (some ⟨zb, 0, none⟩)] ∧ Below w.heap.size w wr
set_option maxRecDepth 100000 in
set_option maxHeartbeats 1000000 in
theorem law_cnobody (kd : Int) (br : ByteArray) (st now : Int) (tx : ByteArray) (w : World) : Calls Try.prog 13 #[.agg #[.int .i64 kd, .string br, .int .i64 st, .int .i64 now, .string tx]] w (LawPost w) := by
  have HST : Hid (CNobRel w w.heap.size (w.heap.size + 1 + 1) (w.heap.size + 1) kd br st now tx (.int .i64 0) (((w.alloc (.cells #[.int .i64 kd, .string br, .int .i64 st, .int .i64 now, .string tx] 93)).alloc (.cells #[.int .i64 0, .int .i64 0, .map none, .map none, .pointer none] 99)).alloc (.cells #[.pointer none, .pointer (some ⟨w.heap.size + 1, 0, none⟩)] 67))) := Lib.hid
    ⟨0, by omega, rfl, ((Blk.new w _ _).alloc _).alloc _, (Blk.new' (w.alloc _) _ _ (by simp)).alloc _, Blk.new' ((w.alloc _).alloc _) _ _ (by simp), (((Below.refl _ _).alloc (Nat.le_refl _) _).alloc (by simp) _).alloc (by simp; omega) _⟩
  go_enter Try.func13, Try.ntmps13
  go_wp2_with fail
  go_loopg [14] 2 (fun k t wr => CNobRel w w.heap.size (w.heap.size + 1 + 1) (w.heap.size + 1) kd br st now tx t wr ∧ ∃ j : Nat, t = .int .i64 j ∧ j + k = 2)
  case atStart => exact ⟨HST.out, 0, rfl, rfl⟩
  case round =>
    obtain ⟨⟨j, hj, rfl, ha, hz, hB, hbw⟩, j', hj1, hj2⟩ := hrel
    obtain rfl : j = j' := by injection hj1 with _ h; omega
    have hbs := hbw.size
    by_cases hlt : j < 2
    · have hv : ∃ v, wr.cell? ⟨w.heap.size + 1 + 1, j, none⟩ = some v ∧ NoC wr v := by
        rw [hB.cell]
        match j, hlt with
        | 0, _ => exact ⟨_, rfl, .inl rfl⟩
        | 1, _ => exact ⟨_, rfl, .inr ⟨_, rfl, hz⟩⟩
      obtain ⟨v, hc, hno⟩ := hv
      have HZ := Lib.hid hz
      have HA := Lib.hid ha
      have HB := Lib.hid hB
      have HW := Lib.hid hbw
      have HN := Lib.hid hno
      have a1 := ha.cell 1
      have a2 := ha.cell 2
      have a3 := ha.cell 3
      clear hz hB hbw hno ha
      go_wp2_with fail
      refine (cstart_no HN.out _ _ _ _).mono ?_
      rintro e w1 ⟨rfl, hb1⟩
      have HB1 := Lib.hid hb1
      have hs1 := hb1.size
      have hN2 := Lib.hid (HN.out.below hb1)
      have hA2 := HA.out.fr (Fr.of_below (F := fun _ => False) hb1) (fun h => h)
      have b1 := hA2.cell 1
      have b2 := hA2.cell 2
      have b3 := hA2.cell 3
      clear hb1 hA2 a1 a2 a3
      go_wp2_with fail
      refine (cresp_no hN2.out _ _ _).mono ?_
      rintro e w2 ⟨rfl, rfl⟩
      go_wp2_with fail
      refine (cstep_no hN2.out _).mono ?_
      rintro e w2 ⟨rfl, rfl⟩
      go_wp2_with fail
      refine (clive_no hN2.out _).mono ?_
      rintro e w2 ⟨rfl, rfl⟩
      go_wp2_with fail
      refine (clen_no hN2.out).mono ?_
      rintro e w2 ⟨rfl, rfl⟩
      have HP : Hid (CNobRel w w.heap.size (w.heap.size + 1 + 1) (w.heap.size + 1) kd br st now tx (.int .i64 ((j + 1 : Nat) : Int)) w1) := Lib.hid (by
        have hf := Fr.of_below (F := fun _ => False) HB1.out
        exact ⟨j + 1, by omega, rfl, HA.out.fr hf (fun h => h), HZ.out.fr hf (fun h => h), HB.out.fr hf (fun h => h), HW.out.trans (HB1.out.mono hbs)⟩)
      go_wp2
      go_roundg (1 - j)
      case measure => omega
      case rel => exact ⟨HP.out, j + 1, by go_num, by omega⟩
    · have HW := Lib.hid hbw
      clear hz hB hbw ha
      go_wp2_with fail
      refine (cawake_any _).mono ?_
      rintro e w1 ⟨rfl, hb⟩
      go_wp2
      go_ret
      exact LawPost.via HW.out ⟨rfl, hb⟩
end Go.Proofs.Ytgfoobgkpnknmaa
