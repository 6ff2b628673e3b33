/- The laws of the client: tables of one transaction; awake. -/
import Derived.Test.YtgfoobgkpnknmaaE1
namespace Go.Proofs.Ytgfoobgkpnknmaa
set_option linter.unusedSimpArgs false
set_option linter.unusedVariables false
open Go.RowKit
theorem one_top (c : CC) : cTop [c] = some (0, c) := rfl
theorem one_stop {c : CC} {now : Int} (h : now < cAt c) : cStep [c] now = ([c], []) := run_stop (one_top c) h
theorem nil_step (now : Int) : cStep [] now = ([], []) := run_none rfl
theorem one_go {c : CC} {now : Int} (h : ¬ now < cAt c) : cStep [c] now = cRun 99999 (cAfter [c] 0 c) now (cDue c) := by
  show cRun (99999 + 1) [c] now [] = _
  rw [run_go (one_top c) h]; rfl
theorem one_send {c : CC} {now : Int} (h : ¬ now < cAt c) (hr : c.rest < 0) (hn : cNx c.tm < 320) (hs : now < cAt { c with tm := c.tm + 1 }) : cStep [c] now = ([{ c with tm := c.tm + 1 }], [⟨c.id, false, c.to, c.bs⟩]) := by
  rw [one_go h]
  have e : cAfter [c] 0 c = [{ c with tm := c.tm + 1 }] := by unfold cAfter; rw [if_pos ⟨hr, hn⟩]; rfl
  have d : cDue c = [⟨c.id, false, c.to, c.bs⟩] := by unfold cDue; rw [if_pos hr, if_pos hn]
  rw [e, d, run_stop (one_top _) hs]
theorem one_over {c : CC} {now : Int} (h : ¬ now < cAt c) (hr : c.rest < 0) (hn : ¬ cNx c.tm < 320) : cStep [c] now = ([], [⟨c.id, true, ⟨#[]⟩, ⟨#[]⟩⟩]) := by
  rw [one_go h]
  have e : cAfter [c] 0 c = [] := by unfold cAfter; rw [if_neg (fun q => hn q.2)]; rfl
  have d : cDue c = [⟨c.id, true, ⟨#[]⟩, ⟨#[]⟩⟩] := by unfold cDue; rw [if_pos hr, if_neg hn]
  rw [e, d, run_none rfl]
theorem one_gone {c : CC} {now : Int} (h : ¬ now < cAt c) (hr : ¬ c.rest < 0) : cStep [c] now = ([], []) := by
  rw [one_go h]
  have e : cAfter [c] 0 c = [] := by unfold cAfter; rw [if_neg (fun q => hr q.1)]; rfl
  have d : cDue c = [] := by unfold cDue; rw [if_neg hr]
  rw [e, d, run_none rfl]
/-- a table of the call's own -/
structure Own (w : World) (p : Nat) (most last : Int) (cs : List CC) (F : Nat → Prop) (wr : World) : Prop where
  cl : Cl wr p most last cs F
  be : Below w.heap.size w wr
  ge : ∀ k, F k → w.heap.size ≤ k
section
variable {w wr w1 : World} {p : Nat} {most last most2 last2 : Int} {cs cs2 : List CC} {F F2 : Nat → Prop}
theorem Own.below (H : Own w p most last cs F wr) (hb : Below wr.heap.size wr w1) : Own w p most last cs F w1 := ⟨H.cl.below hb, H.be.trans (hb.mono H.be.size), H.ge⟩
theorem Own.next (H : Own w p most last cs F wr) (hc : Cl w1 p most2 last2 cs2 F2) (hf : Fr F wr w1) (hx : Ext F F2 wr) : Own w p most2 last2 cs2 F2 w1 :=
  ⟨hc, H.be.trans (hf.to_below H.be.size H.ge), fun k hk => (hx k hk).elim (H.ge k) fun h => by have := H.be.size; omega⟩
theorem Own.rd (H : Own w p most last cs F wr) (hf : Fr F wr w1) {T : TypeId} {sz n : Nat} {A : Option Addr} {xs : List Value} (h : Rd wr T sz n A xs) (h1 : T ≠ 63) (h2 : T ≠ 133) (h3 : T ≠ 130) (h4 : T ≠ 99) (h5 : T ≠ 143) : Rd w1 T sz n A xs :=
  h.fr hf fun gb ds fr hb => H.cl.notT hb h1 h2 h3 h4 h5
theorem Own.blk (H : Own w p most last cs F wr) (hf : Fr F wr w1) {b : Nat} {T : TypeId} {ds : Array Value} (h : Blk wr b T ds) (h1 : T ≠ 63) (h2 : T ≠ 133) (h3 : T ≠ 130) (h4 : T ≠ 99) (h5 : T ≠ 143) : Blk w1 b T ds :=
  h.fr hf (H.cl.notT h h1 h2 h3 h4 h5)
end
def sB : ByteArray := ⟨#[98]⟩
def sA : ByteArray := ⟨#[97]⟩
def aw0 : CC := ⟨1, sB, 0, 1, -1, sA, sB⟩
def aw1 : CC := ⟨1, sB, 0, 2, -1, sA, sB⟩
def aw2 : CC := ⟨1, sB, 0, 3, -1, sA, sB⟩
def aw3 : CC := ⟨1, sB, 0, 3, 84, sA, sB⟩
def awD : DD := ⟨1, false, sA, sB⟩
theorem awS_E : cStartE 1 [] sB 0 = 0 ∧ cStartI 1 0 [] sB 0 = 1 ∧ cStartN 1 0 [] sB 0 = 1 ∧ cStartL 1 0 [] sB 0 sA sB = [aw0] := by
  have h : cStartE 1 [] sB 0 = 0 := startE_ok (by omega) rfl (by simp)
  exact ⟨h, by unfold cStartI; rw [if_pos h]; rfl, by unfold cStartN; rw [if_pos h]; rfl, by unfold cStartL; rw [if_pos h]; rfl⟩
theorem aw_4 : cStep [aw0] 4 = ([aw0], []) := one_stop (by decide)
theorem aw_5 : cStep [aw0] 5 = ([aw1], [awD]) := one_send (by decide) (by decide) (by decide) (by decide)
theorem aw_34 : cStep [aw1] 34 = ([aw2], [awD]) := one_send (by decide) (by decide) (by decide) (by decide)
theorem awR : cRespE [aw2] sB 200 34 = 0 ∧ cRespI [aw2] sB 200 34 = 1 ∧ cRespG [aw2] sB 200 34 = true ∧ cRespL [aw2] sB 200 34 = [aw3] := by
  have hw : cWho sB [aw2] = some (0, aw2) := by unfold cWho; rw [if_pos ⟨rfl, by decide⟩]
  have h : cRespE [aw2] sB 200 34 = 0 := by unfold cRespE; rw [if_neg (by omega), hw]; rfl
  exact ⟨h, by unfold cRespI; rw [if_pos h, hw]; rfl, decide_eq_true ⟨h, by omega⟩, by unfold cRespL; rw [if_pos ⟨h, by omega⟩, hw]; rfl⟩
theorem aw_1000 : cStep [aw3] 1000 = ([], []) := one_gone (by decide) (by decide)
set_option maxRecDepth 100000 in
set_option maxHeartbeats 2000000 in
theorem cawake_any (w : World) : Calls Try.prog 36 #[] w (LawPost w) := by
  have S1 := Lib.hid awS_E
  go_enter Try.func36, Try.ntmps36
  go_wp2_with fail
  refine (cnew_any 1 w (by omega) (by omega)).mono ?_
  rintro e w1 ⟨p, F, rfl, hC, hb1, hF⟩
  have O1 := Lib.hid (Own.below (w1 := w1.alloc (.cells #[.string sA, .string sB] 71)) ⟨hC, hb1, hF⟩ ((Below.refl _ _).alloc (Nat.le_refl _) _))
  have B1 := Lib.hid (Blk.new w1 71 #[.string sA, .string sB])
  clear hC hb1 hF
  go_wp2_with fail
  refine (cstart_any O1.out.cl sB 0 sA sB (by omega)).mono ?_
  rintro e w2 ⟨rfl, F2, hC, hf, hx⟩
  have O2 := O1.out.next hC hf hx
  rw [S1.out.2.2.1, S1.out.2.2.2] at O2
  rw [S1.out.2.1, S1.out.1]
  have O2 := Lib.hid O2
  have B2 := Lib.hid (O1.out.blk hf B1.out (by decide) (by decide) (by decide) (by decide) (by decide))
  clear hC hf hx
  go_wp2_with fail
  refine (cstep_any O2.out.cl 4).mono ?_
  rintro e w3 ⟨v3, F3, rfl, ho, hC, hf, hx⟩
  rw [aw_4] at ho hC
  have O3 := Lib.hid (O2.out.next hC hf hx)
  have B3 := Lib.hid (O2.out.blk hf B2.out (by decide) (by decide) (by decide) (by decide) (by decide))
  obtain ⟨A3, c3, rfl, _, _, hr3⟩ := RdV.of_own ho
  have R3 := Lib.hid hr3
  clear ho hC hf hx hr3
  go_wp2_with fail
  refine (cstep_any O3.out.cl 5).mono ?_
  rintro e w4 ⟨v4, F4, rfl, ho, hC, hf, hx⟩
  rw [aw_5] at ho hC
  have O4 := Lib.hid (O3.out.next hC hf hx)
  have B4 := Lib.hid (O3.out.blk hf B3.out (by decide) (by decide) (by decide) (by decide) (by decide))
  obtain ⟨A4, c4, rfl, _, _, hr4⟩ := RdV.of_own ho
  have R4 := Lib.hid hr4
  clear ho hC hf hx hr4
  go_wp2_with fail
  refine (cstep_any O4.out.cl 34).mono ?_
  rintro e w5 ⟨v5, F5, rfl, ho, hC, hf, hx⟩
  rw [aw_34] at ho hC
  have O5 := Lib.hid (O4.out.next hC hf hx)
  have B5 := Lib.hid (O4.out.blk hf B4.out (by decide) (by decide) (by decide) (by decide) (by decide))
  have R45 := Lib.hid (O4.out.rd hf R4.out (by decide) (by decide) (by decide) (by decide) (by decide))
  obtain ⟨A5, c5, rfl, _, _, hr5⟩ := RdV.of_own ho
  have R5 := Lib.hid hr5
  clear ho hC hf hx hr5
  go_wp2_with fail
  refine (cresp_any O5.out.cl sB 200 34).mono ?_
  rintro e w6 ⟨rfl, F6, hC, hf, hx⟩
  rw [awR.2.2.2] at hC
  rw [awR.1, awR.2.1, awR.2.2.1]
  have O6 := Lib.hid (O5.out.next hC hf hx)
  have B6 := Lib.hid (O5.out.blk hf B5.out (by decide) (by decide) (by decide) (by decide) (by decide))
  have R46 := Lib.hid (O5.out.rd hf R45.out (by decide) (by decide) (by decide) (by decide) (by decide))
  have R56 := Lib.hid (O5.out.rd hf R5.out (by decide) (by decide) (by decide) (by decide) (by decide))
  clear hC hf hx
  go_wp2_with fail
  refine (cstep_any O6.out.cl 1000).mono ?_
  rintro e w7 ⟨v7, F7, rfl, ho, hC, hf, hx⟩
  rw [aw_1000] at ho hC
  have O7 := Lib.hid (O6.out.next hC hf hx)
  have B7 := Lib.hid (O6.out.blk hf B6.out (by decide) (by decide) (by decide) (by decide) (by decide))
  have R47 := Lib.hid (O6.out.rd hf R46.out (by decide) (by decide) (by decide) (by decide) (by decide))
  have R57 := Lib.hid (O6.out.rd hf R56.out (by decide) (by decide) (by decide) (by decide) (by decide))
  obtain ⟨A7, c7, rfl, _, _, hr7⟩ := RdV.of_own ho
  have b0 := B7.out.cell 0
  have b1 := B7.out.cell 1
  clear ho hC hf hx hr7
  have hal : Below w7.heap.size w7 (w7.alloc (.cells #[.int .i64 1, .bool false, .string sA, .string sB] 139)) := (Below.refl _ _).alloc (Nat.le_refl _) _
  have P8 := Lib.hid (csame_any (l := [awD]) (c := c4) (d := 1) (R47.out.below hal) (Rd.of_blk (el := rows dcell [awD]) (Blk.new w7 139 _) rfl) (by simp))
  have O8 := Lib.hid (O7.out.below hal)
  have B8 := Lib.hid (B7.out.alloc (.cells #[.int .i64 1, .bool false, .string sA, .string sB] 139))
  have R58 := Lib.hid (R57.out.below hal)
  clear hal
  go_wp2_with fail
  refine (P8.out).mono ?_
  rintro e w8 ⟨rfl, n8, rfl⟩
  have O9 := Lib.hid (O8.out.below (below_drewN (Below.refl _ _) n8))
  have B9 := Lib.hid (B8.out.drewN n8)
  have R59 := Lib.hid (R58.out.below (below_drewN (Below.refl _ _) n8))
  clear b0 b1
  generalize (w7.alloc (.cells #[.int .i64 1, .bool false, .string sA, .string sB] 139)).drewN n8 = w9 at *
  have b0 := B9.out.cell 0
  have b1 := B9.out.cell 1
  have hal : Below w9.heap.size w9 (w9.alloc (.cells #[.int .i64 1, .bool false, .string sA, .string sB] 139)) := (Below.refl _ _).alloc (Nat.le_refl _) _
  have P10 := Lib.hid (csame_any (l := [awD]) (c := c5) (d := 1) (R59.out.below hal) (Rd.of_blk (el := rows dcell [awD]) (Blk.new w9 139 _) rfl) (by simp))
  have O10 := Lib.hid (O9.out.below hal)
  clear hal
  go_wp2_with fail
  refine (P10.out).mono ?_
  rintro e w10 ⟨rfl, n10, rfl⟩
  have O11 := Lib.hid (O10.out.below (below_drewN (Below.refl _ _) n10))
  generalize (w9.alloc (.cells #[.int .i64 1, .bool false, .string sA, .string sB] 139)).drewN n10 = w11 at *
  have P11 := Lib.hid (clen_any O11.out.cl)
  clear b0 b1
  go_wp2_with fail
  refine (P11.out).mono ?_
  rintro e w12 ⟨rfl, rfl⟩
  go_wp2
  go_ret
  exact ⟨rfl, O11.out.be⟩
end Go.Proofs.Ytgfoobgkpnknmaa
