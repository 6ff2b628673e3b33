/- The laws of the server: ServerApart. -/
import Derived.Test.YtgfoobgkpnknmaaS8
namespace Go.Proofs.Ytgfoobgkpnknmaa
set_option linter.unusedSimpArgs false
set_option linter.unusedVariables false
open Go.RowKit
theorem ap_0 (k : SK) : sStartE 2 [] k 0 = 0 := by unfold sStartE sFind; simp
theorem ap_eq (k : SK) : sStartE 2 [sNew 0 k 0] k 0 = 7 := by unfold sStartE sFind sNew; simp
theorem ap_ne {k k2 : SK} (h : k ≠ k2) : sStartE 2 [sNew 0 k 0] k2 0 = 0 := by unfold sStartE sFind sNew sFind; simp [h]
theorem ap_find (k : SK) (r : List SC) : sFind k (sNew 0 k 0 :: r) = some 1 := by unfold sFind sNew; simp
set_option maxRecDepth 100000 in
set_option maxHeartbeats 4000000 in
theorem law_sapart (kd : Int) (br by_ me : ByteArray) (id now : Int) (tx : ByteArray) (kd2 : Int) (br2 by2 me2 : ByteArray) (id2 now2 : Int) (tx2 : ByteArray) (w : World) :
    Calls Try.prog 16 #[.agg #[.int .i64 kd, .string br, .string by_, .string me, .int .i64 id, .int .i64 now, .string tx], .agg #[.int .i64 kd2, .string br2, .string by2, .string me2, .int .i64 id2, .int .i64 now2, .string tx2]] w (LawPost w) := by
  have hal : Below w.heap.size w ((w.alloc (.cells #[.int .i64 kd, .string br, .string by_, .string me, .int .i64 id, .int .i64 now, .string tx] 110)).alloc (.cells #[.int .i64 kd2, .string br2, .string by2, .string me2, .int .i64 id2, .int .i64 now2, .string tx2] 110)) := ((Below.refl _ _).alloc (Nat.le_refl _) _).alloc (by simp) _
  have hA := (Blk.new w 110 #[.int .i64 kd, .string br, .string by_, .string me, .int .i64 id, .int .i64 now, .string tx]).alloc (.cells #[.int .i64 kd2, .string br2, .string by2, .string me2, .int .i64 id2, .int .i64 now2, .string tx2] 110)
  have hB := Blk.new' (w.alloc (.cells #[.int .i64 kd, .string br, .string by_, .string me, .int .i64 id, .int .i64 now, .string tx] 110)) 110 #[.int .i64 kd2, .string br2, .string by2, .string me2, .int .i64 id2, .int .i64 now2, .string tx2] (g := w.heap.size + 1) (by simp)
  obtain ⟨W0, hW0⟩ : ∃ W0, (w.alloc (.cells #[.int .i64 kd, .string br, .string by_, .string me, .int .i64 id, .int .i64 now, .string tx] 110)).alloc (.cells #[.int .i64 kd2, .string br2, .string by2, .string me2, .int .i64 id2, .int .i64 now2, .string tx2] 110) = W0 := ⟨_, rfl⟩
  rw [hW0] at hal hA hB
  have HAL := Lib.hid hal
  have HA := Lib.hid hA
  have HB := Lib.hid hB
  have hsz := hal.size
  clear hal hA hB
  have S0 := Lib.hid (sst_ok (last := 0) (ap_0 (br, by_, me)))
  have E0 := Lib.hid (ap_0 (br, by_, me))
  by_cases hk : (br, by_, me) = (br2, by2, me2)
  · obtain ⟨rfl, h23⟩ := Prod.mk.inj hk
    obtain ⟨rfl, rfl⟩ := Prod.mk.inj h23
    have E1 := Lib.hid (ap_eq (br, by_, me))
    have S1 := Lib.hid (sst_no (last := 1) (ap_eq (br, by_, me)) (by decide))
    have FI := Lib.hid (ap_find (br, by_, me) [])
    clear hk h23
    go_enter Try.func16, Try.ntmps16
    go_wp2_with fail
    refine (snew_any 2 _ (by omega) (by omega)).mono ?_
    rintro e w1 ⟨p, F, rfl, hC, hb1, hF⟩
    have O1 := Lib.hid (SOwn.mk hC hb1 hF)
    have A1 := Lib.hid (HA.out.fr (Fr.of_below (F := fun _ => False) hb1) (fun h => h))
    have B1 := Lib.hid (HB.out.fr (Fr.of_below (F := fun _ => False) hb1) (fun h => h))
    clear hC hb1 hF
    have a1 := A1.out.cell 1
    have a2 := A1.out.cell 2
    have a3 := A1.out.cell 3
    go_wp2_with fail
    refine (sstart_any O1.out.sv br by_ me 0 (by omega)).mono ?_
    rintro e w2 ⟨rfl, F2, hC, hf, hx⟩
    have O2 := O1.out.next hC hf hx
    rw [S0.out.2.1, S0.out.2.2] at O2
    rw [S0.out.1, E0.out]
    have O2 : Hid (SOwn W0 p 2 1 [sNew 0 (br, by_, me) 0] F2 w2) := Lib.hid O2
    have A2 := Lib.hid (O1.out.blk hf A1.out (by decide) (by decide) (by decide) (by decide) (by decide))
    have B2 := Lib.hid (O1.out.blk hf B1.out (by decide) (by decide) (by decide) (by decide) (by decide))
    clear hC hf hx a1 a2 a3
    have b1 := B2.out.cell 1
    have b2 := B2.out.cell 2
    have b3 := B2.out.cell 3
    go_wp2_with fail
    refine (sstart_any O2.out.sv br by_ me 0 (by omega)).mono ?_
    rintro e w3 ⟨rfl, F3, hC, hf, hx⟩
    have O3 := O2.out.next hC hf hx
    rw [S1.out.2.1, S1.out.2.2] at O3
    rw [S1.out.1, E1.out]
    have O3 := Lib.hid O3
    have A3 := Lib.hid (O2.out.blk hf A2.out (by decide) (by decide) (by decide) (by decide) (by decide))
    have B3 := Lib.hid (O2.out.blk hf B2.out (by decide) (by decide) (by decide) (by decide) (by decide))
    clear hC hf hx b1 b2 b3
    have a1 := A3.out.cell 1
    have a2 := A3.out.cell 2
    have a3 := A3.out.cell 3
    have b1 := B3.out.cell 1
    have b2 := B3.out.cell 2
    have b3 := B3.out.cell 3
    go_wp2_with fail
    refine (sfind_any O3.out.sv br by_ me).mono ?_
    rintro e w4 ⟨rfl, rfl⟩
    rw [FI.out]
    go_wp2_with fail
    refine (sawake_any _).mono ?_
    rintro e w5 ⟨rfl, hb5⟩
    go_wp2
    go_ret
    exact ⟨rfl, HAL.out.trans ((O3.out.be.trans (hb5.mono O3.out.be.size)).mono HAL.out.size)⟩
  · have E1 := Lib.hid (ap_ne hk)
    have S1 := Lib.hid (sst_ok (last := 1) (ap_ne hk))
    have FI := Lib.hid (ap_find (br, by_, me) [sNew 1 (br2, by2, me2) 0])
    have hc : br ≠ br2 ∨ br = br2 ∧ (by_ ≠ by2 ∨ by_ = by2 ∧ me ≠ me2) := by
      by_cases q1 : br = br2
      · by_cases q2 : by_ = by2
        · exact .inr ⟨q1, .inr ⟨q2, fun q3 => hk (by rw [q1, q2, q3])⟩⟩
        · exact .inr ⟨q1, .inl q2⟩
      · exact .inl q1
    clear hk
    have hc' : (br.toList == br2.toList) = false ∨ (br.toList == br2.toList) = true ∧ ((by_.toList == by2.toList) = false ∨ (by_.toList == by2.toList) = true ∧ (me.toList == me2.toList) = false) := by
      rcases hc with h | ⟨h, h2 | ⟨h2, h3⟩⟩
      · exact .inl (beq_no h)
      · exact .inr ⟨beq_yes h, .inl (beq_no h2)⟩
      · exact .inr ⟨beq_yes h, .inr ⟨beq_yes h2, beq_no h3⟩⟩
    clear hc
    have HCC := Lib.hid hc'
    clear hc'
    go_enter Try.func16, Try.ntmps16
    go_wp2_with fail
    refine (snew_any 2 _ (by omega) (by omega)).mono ?_
    rintro e w1 ⟨p, F, rfl, hC, hb1, hF⟩
    have O1 := Lib.hid (SOwn.mk hC hb1 hF)
    have A1 := Lib.hid (HA.out.fr (Fr.of_below (F := fun _ => False) hb1) (fun h => h))
    have B1 := Lib.hid (HB.out.fr (Fr.of_below (F := fun _ => False) hb1) (fun h => h))
    clear hC hb1 hF
    have a1 := A1.out.cell 1
    have a2 := A1.out.cell 2
    have a3 := A1.out.cell 3
    go_wp2_with fail
    refine (sstart_any O1.out.sv br by_ me 0 (by omega)).mono ?_
    rintro e w2 ⟨rfl, F2, hC, hf, hx⟩
    have O2 := O1.out.next hC hf hx
    rw [S0.out.2.1, S0.out.2.2] at O2
    rw [S0.out.1, E0.out]
    have O2 : Hid (SOwn W0 p 2 1 [sNew 0 (br, by_, me) 0] F2 w2) := Lib.hid O2
    have A2 := Lib.hid (O1.out.blk hf A1.out (by decide) (by decide) (by decide) (by decide) (by decide))
    have B2 := Lib.hid (O1.out.blk hf B1.out (by decide) (by decide) (by decide) (by decide) (by decide))
    clear hC hf hx a1 a2 a3
    have b1 := B2.out.cell 1
    have b2 := B2.out.cell 2
    have b3 := B2.out.cell 3
    go_wp2_with fail
    refine (sstart_any O2.out.sv br2 by2 me2 0 (by omega)).mono ?_
    rintro e w3 ⟨rfl, F3, hC, hf, hx⟩
    have O3 := O2.out.next hC hf hx
    rw [S1.out.2.1, S1.out.2.2] at O3
    rw [S1.out.1, E1.out]
    have O3 : Hid (SOwn W0 p 2 2 [sNew 0 (br, by_, me) 0, sNew 1 (br2, by2, me2) 0] F3 w3) := Lib.hid O3
    have A3 := Lib.hid (O2.out.blk hf A2.out (by decide) (by decide) (by decide) (by decide) (by decide))
    have B3 := Lib.hid (O2.out.blk hf B2.out (by decide) (by decide) (by decide) (by decide) (by decide))
    clear hC hf hx b1 b2 b3
    have a1 := A3.out.cell 1
    have a2 := A3.out.cell 2
    have a3 := A3.out.cell 3
    have b1 := B3.out.cell 1
    have b2 := B3.out.cell 2
    have b3 := B3.out.cell 3
    rcases HCC.out with h | ⟨h, h2 | ⟨h2, h3⟩⟩
    all_goals
      go_wp2_with fail
      refine (sfind_any O3.out.sv br by_ me).mono ?_
      rintro e w4 ⟨rfl, rfl⟩
      rw [FI.out]
      go_wp2_with fail
      refine (sawake_any _).mono ?_
      rintro e w5 ⟨rfl, hb5⟩
      go_wp2
      go_ret
      exact ⟨rfl, HAL.out.trans ((O3.out.be.trans (hb5.mono O3.out.be.size)).mono HAL.out.size)⟩
end Go.Proofs.Ytgfoobgkpnknmaa
