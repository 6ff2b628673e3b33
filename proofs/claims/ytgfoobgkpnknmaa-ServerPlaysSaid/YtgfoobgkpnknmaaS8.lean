/- The laws of the server: what no call made. -/
import Derived.Test.YtgfoobgkpnknmaaS7
namespace Go.Proofs.Ytgfoobgkpnknmaa
set_option linter.unusedSimpArgs false
set_option linter.unusedVariables false
open Go.RowKit
theorem sneq_sent (a b : ByteArray) (W : World) : (binOp .neq 71 (.agg #[.string a, .string b]) (.agg #[.string a, .string b])).run Try.prog W = .ok (.bool false) W := by
  simp [go_sem]
def NoS (w : World) (v : Value) : Prop := v = .pointer none ∨ ∃ p, v = .pointer (some ⟨p, 0, none⟩) ∧ Blk w p 127 #[.int .i64 0, .int .i64 0, .map none, .map none, .pointer none]
theorem NoS.below {w w' : World} {v : Value} (h : NoS w v) (hb : Below w.heap.size w w') : NoS w' v := by
  rcases h with h | ⟨p, h, hB⟩
  · exact .inl h
  · exact .inr ⟨p, h, hB.fr (Fr.of_below (F := fun _ => False) hb) (fun h => h)⟩
theorem smade_no {w : World} {v : Value} (h : NoS w v) : Calls Try.prog 69 #[v] w fun e w' => e = .returned (.bool false) ∧ w = w' := by
  rcases h with rfl | ⟨p, rfl, hB⟩
  · exact smade_nil w
  · exact smade_zero hB
theorem slen_no {w : World} {v : Value} (h : NoS w v) : Calls Try.prog 50 #[v] w fun e w' => e = .returned (.int .i64 0) ∧ w = w' := by
  have hm := Lib.hid (smade_no h)
  go_enter Try.func50, Try.ntmps50
  go_wp2_with fail
  refine (hm.out).mono ?_
  rintro e w' ⟨rfl, rfl⟩
  go_wp2
  go_ret
  exact ⟨rfl, rfl⟩
theorem sfind_no {w : World} {v : Value} (h : NoS w v) (k1 k2 k3 : ByteArray) : Calls Try.prog 51 #[v, .string k1, .string k2, .string k3] w fun e w' => e = .returned (.tuple #[.int .i64 0, .bool false]) ∧ w = w' := by
  have hm := Lib.hid (smade_no h)
  go_enter Try.func51, Try.ntmps51
  go_wp2_with fail
  refine (hm.out).mono ?_
  rintro e w' ⟨rfl, rfl⟩
  go_wp2
  go_ret2
  exact ⟨rfl, rfl⟩
theorem sexpire_no {w : World} {v : Value} (h : NoS w v) (now : Int) : Calls Try.prog 48 #[v, .int .i64 now] w fun e w' => e = .returned (.slice none 0 0) ∧ w = w' := by
  have hm := Lib.hid (smade_no h)
  go_enter Try.func48, Try.ntmps48
  go_wp2_with fail
  refine (hm.out).mono ?_
  rintro e w' ⟨rfl, rfl⟩
  go_wp2
  go_ret
  exact ⟨rfl, rfl⟩
def SNo (v : Value) (w : World) (e : Ending) (w' : World) : Prop := e = .returned v ∧ Below w.heap.size w w'
theorem sstart_no {w : World} {v : Value} (h : NoS w v) (k1 k2 k3 : ByteArray) (now : Int) : Calls Try.prog 49 #[v, .string k1, .string k2, .string k3, .int .i64 now] w (SNo (.tuple #[.int .i64 0, .int .i64 3]) w) := by
  have hm := Lib.hid (smade_no (h.below ((Below.refl _ _).alloc (Nat.le_refl _) (.cells #[.string k1, .string k2, .string k3] 156))))
  go_enter Try.func49, Try.ntmps49
  go_wp2_with fail
  refine (hm.out).mono ?_
  rintro e w' ⟨rfl, rfl⟩
  go_wp2
  go_ret2
  exact ⟨rfl, (Below.refl _ _).alloc (Nat.le_refl _) _⟩
theorem sanswer_no {w : World} {v : Value} (h : NoS w v) (n : Int) (to bs : ByteArray) : Calls Try.prog 56 #[v, .int .i64 n, .agg #[.string to, .string bs]] w (SNo (.int .i64 3) w) := by
  have hm := Lib.hid (smade_no (h.below ((Below.refl _ _).alloc (Nat.le_refl _) (.cells #[.string to, .string bs] 71))))
  go_enter Try.func56, Try.ntmps56
  go_wp2_with fail
  refine (hm.out).mono ?_
  rintro e w' ⟨rfl, rfl⟩
  go_wp2
  go_ret
  exact ⟨rfl, (Below.refl _ _).alloc (Nat.le_refl _) _⟩
theorem scached_no {w : World} {v : Value} (h : NoS w v) (n : Int) : Calls Try.prog 54 #[v, .int .i64 n] w (SNo (.tuple #[.agg #[.string ⟨#[]⟩, .string ⟨#[]⟩], .bool false]) w) := by
  have hm := Lib.hid (smade_no (h.below ((Below.refl _ _).alloc (Nat.le_refl _) (.cells #[.string ⟨#[]⟩, .string ⟨#[]⟩] 71))))
  go_enter Try.func54, Try.ntmps54
  go_wp2_with fail
  refine (hm.out).mono ?_
  rintro e w' ⟨rfl, rfl⟩
  go_wp2
  exact bodyPost_ret (v := .tuple #[.agg #[.string ⟨#[]⟩, .string ⟨#[]⟩], .bool false]) (by simp [results, Try.results54, go_sem]) rfl ⟨rfl, by repeat (first | exact Below.refl _ _ | refine Below.setCell ?_ (by simp) _ | refine Below.alloc ?_ (by simp) _)⟩
abbrev actC (kd : Int) (br by_ me : ByteArray) (id now : Int) (tx : ByteArray) : Array Value := #[.int .i64 kd, .string br, .string by_, .string me, .int .i64 id, .int .i64 now, .string tx]
def SNobRel (w : World) (ab lb zb : Nat) (kd : Int) (br by_ me : ByteArray) (id now : Int) (tx : ByteArray) (t : Value) (wr : World) : Prop :=
  ∃ j : Nat, j ≤ 2 ∧ t = .int .i64 j ∧ Blk wr ab 110 #[.int .i64 kd, .string br, .string by_, .string me, .int .i64 id, .int .i64 now, .string tx] ∧ Blk wr zb 127 #[.int .i64 0, .int .i64 0, .map none, .map none, .pointer none] ∧ Blk wr lb 102 #[.pointer none, .pointer (some ⟨zb, 0, none⟩)] ∧ Below w.heap.size w wr
set_option maxRecDepth 100000 in
set_option maxHeartbeats 2000000 in
theorem law_snobody (kd : Int) (br by_ me : ByteArray) (id now : Int) (tx : ByteArray) (w : World) : Calls Try.prog 19 #[.agg #[.int .i64 kd, .string br, .string by_, .string me, .int .i64 id, .int .i64 now, .string tx]] w (LawPost w) := by
  have HST : Hid (SNobRel w w.heap.size (w.heap.size + 1 + 1) (w.heap.size + 1) kd br by_ me id now tx (.int .i64 0) (((w.alloc (.cells #[.int .i64 kd, .string br, .string by_, .string me, .int .i64 id, .int .i64 now, .string tx] 110)).alloc (.cells #[.int .i64 0, .int .i64 0, .map none, .map none, .pointer none] 127)).alloc (.cells #[.pointer none, .pointer (some ⟨w.heap.size + 1, 0, none⟩)] 102))) := Lib.hid
    ⟨0, by omega, rfl, ((Blk.new w _ _).alloc _).alloc _, (Blk.new' (w.alloc _) _ _ (by simp)).alloc _, Blk.new' ((w.alloc _).alloc _) _ _ (by simp), (((Below.refl _ _).alloc (Nat.le_refl _) _).alloc (by simp) _).alloc (by simp; omega) _⟩
  have hns := sneq_sent ⟨#[]⟩ ⟨#[]⟩
  go_enter Try.func19, Try.ntmps19
  go_wp2_with fail
  go_loopg [15] 2 (fun k t wr => SNobRel w w.heap.size (w.heap.size + 1 + 1) (w.heap.size + 1) kd br by_ me id now tx t wr ∧ ∃ j : Nat, t = .int .i64 j ∧ j + k = 2)
  case atStart => exact ⟨HST.out, 0, rfl, rfl⟩
  case round =>
    obtain ⟨⟨j, hj, rfl, ha, hz, hB, hbw⟩, j', hj1, hj2⟩ := hrel
    obtain rfl : j = j' := by injection hj1 with _ h; omega
    have hbs := hbw.size
    by_cases hlt : j < 2
    · have hv : ∃ v, wr.cell? ⟨w.heap.size + 1 + 1, j, none⟩ = some v ∧ NoS wr v := by
        rw [hB.cell]
        match j, hlt with
        | 0, _ => exact ⟨_, rfl, .inl rfl⟩
        | 1, _ => exact ⟨_, rfl, .inr ⟨_, rfl, hz⟩⟩
      obtain ⟨v, hc, hno⟩ := hv
      have HZ := Lib.hid hz
      have HA := Lib.hid ha
      have HB := Lib.hid hB
      have HW := Lib.hid hbw
      have HN := Lib.hid hno
      have a1 := ha.cell 1
      have a2 := ha.cell 2
      have a3 := ha.cell 3
      have a4 := ha.cell 4
      have a5 := ha.cell 5
      clear hz hB hbw hno ha
      go_wp2_with fail
      refine (sstart_no HN.out _ _ _ _).mono ?_
      rintro e w1 ⟨rfl, hb1⟩
      have HB1 := Lib.hid hb1
      have hs1 := hb1.size
      have hN2 := Lib.hid (HN.out.below hb1)
      have hA2 := Lib.hid (HA.out.fr (Fr.of_below (F := fun _ => False) hb1) (fun h => h))
      have b1 := hA2.out.cell 1
      have b2 := hA2.out.cell 2
      have b3 := hA2.out.cell 3
      have b4 := hA2.out.cell 4
      have b5 := hA2.out.cell 5
      clear hb1 a1 a2 a3 a4 a5
      go_wp2_with fail
      refine (sfind_no hN2.out _ _ _).mono ?_
      rintro e w2 ⟨rfl, rfl⟩
      go_wp2_with fail
      refine (scached_no hN2.out _).mono ?_
      rintro e w2 ⟨rfl, hb2⟩
      have HB2 := Lib.hid (HB1.out.trans (hb2.mono hs1))
      have hs2 := hb2.size
      have hN3 := Lib.hid (hN2.out.below hb2)
      have hA3 := Lib.hid (hA2.out.fr (Fr.of_below (F := fun _ => False) hb2) (fun h => h))
      have hb3 : Below w2.heap.size w2 (w2.alloc (.cells #[.string ⟨#[]⟩, .string ⟨#[]⟩] 71)) := (Below.refl _ _).alloc (Nat.le_refl _) _
      have HB3 := Lib.hid (HB2.out.trans (hb3.mono (by omega)))
      have hN4 := Lib.hid (hN3.out.below hb3)
      have hA4 := Lib.hid (hA3.out.fr (Fr.of_below (F := fun _ => False) hb3) (fun h => h))
      have b4' := hA3.out.cell 4
      have d4 := hA4.out.cell 4
      have d5 := hA4.out.cell 5
      clear hb2 b1 b2 b3 b4 b5 hb3
      go_wp2_with fail
      refine (sanswer_no hN4.out _ _ _).mono ?_
      rintro e w4 ⟨rfl, hb4⟩
      have HB4 := Lib.hid (HB3.out.trans (hb4.mono HB3.out.size))
      have hN5 := Lib.hid (hN4.out.below hb4)
      have hA5 := hA4.out.fr (Fr.of_below (F := fun _ => False) hb4) (fun h => h)
      have g5 := hA5.cell 5
      clear hb4 hA5 d4 d5 b4'
      go_wp2_with fail
      refine (sexpire_no hN5.out _).mono ?_
      rintro e w5 ⟨rfl, rfl⟩
      go_wp2_with fail
      refine (slen_no hN5.out).mono ?_
      rintro e w5 ⟨rfl, rfl⟩
      have HP : Hid (SNobRel w w.heap.size (w.heap.size + 1 + 1) (w.heap.size + 1) kd br by_ me id now tx (.int .i64 ((j + 1 : Nat) : Int)) w4) := Lib.hid (by
        have hf := Fr.of_below (F := fun _ => False) HB4.out
        exact ⟨j + 1, by omega, rfl, HA.out.fr hf (fun h => h), HZ.out.fr hf (fun h => h), HB.out.fr hf (fun h => h), HW.out.trans (HB4.out.mono hbs)⟩)
      go_wp2
      go_roundg (1 - j)
      case measure => omega
      case rel => exact ⟨HP.out, j + 1, by go_num, by omega⟩
    · have HW := Lib.hid hbw
      clear hz hB hbw ha
      go_wp2_with fail
      refine (sawake_any _).mono ?_
      rintro e w1 ⟨rfl, hb⟩
      go_wp2
      go_ret
      exact LawPost.via HW.out ⟨rfl, hb⟩
end Go.Proofs.Ytgfoobgkpnknmaa
