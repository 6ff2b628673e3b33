/- The client's table as an object: clock.Waits, clock.At, arm, drop. -/
import Derived.Test.YtgfoobgkpnknmaaC2
namespace Go.Proofs.Ytgfoobgkpnknmaa
set_option linter.unusedSimpArgs false
set_option linter.unusedVariables false
open Go.RowKit
def wt (n : Int) : Int := if n < 1 then 0 else if n > 4 then 40 else if n = 1 then 5 else if n = 2 then 10 else if n = 3 then 20 else 40
theorem cum_succ (j : Nat) : cum (j + 1) = cum j + wt ((j : Int) + 1) := by unfold cum wt; split <;> split <;> omega
theorem wt_bd (n : Int) : 0 ≤ wt n ∧ wt n ≤ 40 := by unfold wt; omega
set_option maxHeartbeats 400000 in
theorem waits_any (n : Int) (w : World) :
    Calls Try.prog 82 #[.int .i64 n] w fun e w' => e = .returned (.int .i64 (wt n)) ∧ w = w' := by
  by_cases h1 : n < 1
  · go_enter Try.func82, Try.ntmps82
    go_wp2
    go_ret
    exact ⟨by simp [wt, h1], rfl⟩
  · by_cases h4 : 4 < n
    · go_enter Try.func82, Try.ntmps82
      go_wp2
      go_ret
      exact ⟨by simp [wt, h1, h4], rfl⟩
    · have hn : n = 1 ∨ n = 2 ∨ n = 3 ∨ n = 4 := by omega
      rcases hn with rfl | rfl | rfl | rfl
      all_goals
        go_enter Try.func82, Try.ntmps82
        go_wp2
        go_ret
        exact ⟨by rfl, rfl⟩
set_option maxHeartbeats 400000 in
theorem at_any (n : Int) (w : World) (hb : n ≤ 9223372036854775807) :
    Calls Try.prog 77 #[.int .i64 n] w fun e w' => e = .returned (.tuple #[.int .i64 (atI n), .bool (okI n)]) ∧ w = w' := by
  go_enter Try.func77, Try.ntmps77
  go_wp2
  go_loop [4, 5] (fun t i => ∃ j : Nat, j ≤ 11 ∧ (j = 0 ∨ (j : Int) + 1 ≤ n) ∧ i = .int .i64 (j + 1) ∧ t = .int .i64 (cum j)) (fun _ i => (12 - intOf i).toNat)
  case atStart => exact ⟨0, by omega, by omega, rfl, rfl⟩
  case round =>
    obtain ⟨j, hj, hjn, rfl, rfl⟩ := hrel
    have hcb := cum_bd j
    have hw := wt_bd ((j : Int) + 1)
    by_cases hlt : (j : Int) + 1 < n
    · by_cases hc : j ≤ 10
      · have hcl := cum_lt j hc
        go_wp2_with (go_at_call 82; refine (waits_any _ _).mono ?_; rintro e w' ⟨rfl, rfl⟩)
        go_round
        case rel => exact ⟨j + 1, by omega, by omega, by go_num, int_eq (cum_succ j).symm⟩
        case measure => simp [intOf] <;> omega
      · have hcl := cum_ge j (by omega)
        have hn : n ≥ 12 := by omega
        go_wp2
        go_ret2
        exact ⟨ret_pair (by simp [atI]; omega) (by simp [okI]; omega), rfl⟩
    · by_cases hn1 : n < 1
      · go_wp2
        go_ret2
        exact ⟨ret_pair (by simp [atI]; omega) (by simp [okI]; omega), rfl⟩
      · by_cases hc : j ≤ 10
        · have hcl := cum_lt j hc
          go_wp2
          go_ret2
          exact ⟨ret_pair (by have : n = j + 1 := by omega
                              subst this; unfold atI; rw [if_pos (by omega)]; congr 1) (by simp [okI]; omega), rfl⟩
        · have hcl := cum_ge j (by omega)
          have hn : n ≥ 12 := by omega
          go_wp2
          go_ret2
          exact ⟨ret_pair (by simp [atI]; omega) (by simp [okI]; omega), rfl⟩
def ArmPost (w : World) (p : Nat) (most last : Int) (xs : List XC) (l : List TM) (F : Nat → Prop) (bn bc pw : Nat) (kn : List (ByteArray × Value)) (kc : List (Int × Value)) (e : Ending) (w' : World) : Prop :=
  e = .returned (.tuple #[]) ∧ ∃ F' FW', ClI w' p most last xs l F' bn bc pw kn kc FW' ∧ Fr F w w' ∧ Ext F F' w
section
variable {w w' : World} {p bn bc pw : Nat} {most last : Int} {xs : List XC} {l l' : List TM} {F FW FW' G : Nat → Prop} {kn : List (ByteArray × Value)} {kc : List (Int × Value)}
/-- the wheel alone has turned -/
theorem ClI.wheel (H : ClI w p most last xs l F bn bc pw kn kc FW) (hw : Wh w' pw l' FW') (hf : Fr FW w w') (hx : Ext FW FW' w) :
    ClI w' p most last xs l' (CF p bn bc xs FW') bn bc pw kn kc FW' ∧ Fr F w w' ∧ Ext F (CF p bn bc xs FW') w := by
  refine ⟨⟨H.top.fr hf H.fwp, H.nm.fr hf H.fn, H.cm.fr hf H.fc, hw, fun i x hx => (H.its i x hx).fr hf (H.fwx (List.mem_of_getElem? hx)), H.nd, H.pn, H.pc, H.dn, fun h => ?_, fun h => ?_, fun k => Iff.rfl⟩, hf.mono (fun k _ q => (H.ff k).2 (.inr (.inr (.inr (.inr q))))), fun k hk => ?_⟩
  · rcases hx _ h with q | q
    · exact H.fn q
    · have := H.nm.lt; omega
  · rcases hx _ h with q | q
    · exact H.fc q
    · have := H.cm.lt; omega
  · rcases hk with q | q | q | q | q
    · exact .inl ((H.ff k).2 (.inl q))
    · exact .inl ((H.ff k).2 (.inr (.inl q)))
    · exact .inl ((H.ff k).2 (.inr (.inr (.inl q))))
    · exact .inl ((H.ff k).2 (.inr (.inr (.inr (.inl q)))))
    · rcases hx k q with r | r
      · exact .inl ((H.ff k).2 (.inr (.inr (.inr (.inr r)))))
      · exact .inr r
theorem ClI.drewN (H : ClI w p most last xs l F bn bc pw kn kc FW) (n : Nat) : ClI (w.drewN n) p most last xs l F bn bc pw kn kc FW :=
  H.fr ((Fr.refl (fun _ => False) w).drewN n) (fun _ _ h => h)
theorem Ext.trans {a b : World} {F1 F2 F3 : Nat → Prop} (h : Ext F1 F2 a) (k : Ext F2 F3 b) (hs : a.heap.size ≤ b.heap.size) : Ext F1 F3 a := fun i hi => by
  rcases k i hi with q | q
  · exact h i q
  · exact .inr (by omega)
theorem Fr.ext {a b c : World} {F1 F2 : Nat → Prop} (h : Fr F1 a b) (k : Fr F2 b c) (hx : Ext F1 F2 a) : Fr F1 a c := h.trans k fun i hi q => (hx i q).elim (fun q => q) fun q => by omega
end
set_option maxRecDepth 100000 in
set_option maxHeartbeats 1000000 in
theorem arm_any {w : World} {p bn bc pw : Nat} {most last : Int} {xs : List XC} {l : List TM} {F FW : Nat → Prop} {kn : List (ByteArray × Value)} {kc : List (Int × Value)}
    (H : ClI w p most last xs l F bn bc pw kn kc FW) {i : Nat} {x : XC} (hx : xs[i]? = some x) (hg : mget x.2.id kc = some (ptr x.1)) (ht : 1 ≤ x.2.tm ∧ x.2.tm ≤ 11) (hb : 0 ≤ x.2.bg ∧ x.2.bg ≤ 1099511627136) :
    Calls Try.prog 63 #[.pointer (some ⟨p, 0, none⟩), .int .i64 x.2.id] w (ArmPost w p most last xs (rSetL l x.2.id (x.2.bg + cNx x.2.tm)) F bn bc pw kn kc) := by
  have hc := H.top.cell 3
  have hc4 := H.top.cell 4
  have hlk := H.cm.lookup (T := 97) (E := 141) (intLaw Try.underlying3) Try.underlying97 (zcall w) x.2.id false
  rw [hg] at hlk
  have hlk' : (Instr.lookup 97 (.map (some bc)) (.int .i64 x.2.id) false).run Try.prog w = .ok (.pointer (some ⟨x.1, 0, none⟩)) w := hlk
  have c1 : w.cell? ⟨x.1, 1, none⟩ = some (.int .i64 x.2.bg) := (H.its i x hx).cell 1
  have c2 : w.cell? ⟨x.1, 2, none⟩ = some (.int .i64 x.2.tm) := (H.its i x hx).cell 2
  have hn := nx_bd x.2.tm
  have hat := Lib.hid (at_any (x.2.tm + 1) w (by omega))
  have HSet := Lib.hid (set_any (H.wh.fr ((Fr.refl (fun _ => False) w).drew) (fun _ _ h => h)) x.2.id (x.2.bg + cNx x.2.tm))
  have HC := Lib.hid H
  have hOK := nx_ok (tm := x.2.tm)
  have hNO := nx_no (tm := x.2.tm)
  have h1 : Hid (okI (x.2.tm + 1) = true → atI (x.2.tm + 1) = cNx x.2.tm) := Lib.hid fun h => (hOK h).1.symm
  have h2 : Hid (okI (x.2.tm + 1) = false → cNx x.2.tm = 320) := Lib.hid hNO
  have hwr : IntKind.i64.wrap (x.2.bg + cNx x.2.tm) = x.2.bg + cNx x.2.tm := IntWalk.i64_in _ (by omega)
  have HWR := Lib.hid hwr
  have HE : Hid (∀ w', SetPost pw l x.2.id (x.2.bg + cNx x.2.tm) FW w.drew (.returned (.int .i64 (rSetE l x.2.id (x.2.bg + cNx x.2.tm)))) w' → ArmPost w p most last xs (rSetL l x.2.id (x.2.bg + cNx x.2.tm)) F bn bc pw kn kc (.returned (.tuple #[])) w') := Lib.hid (fun w' ⟨_, F', hW, hf, hx⟩ => by
    have := HC.out.wheel (w' := w') hW ⟨hf.os, hf.tape, hf.output, hf.size, hf.block⟩ hx
    exact ⟨rfl, _, F', this.1, this.2.1, this.2.2⟩)
  clear hlk H hx hg hOK hNO hwr
  generalize hbg : x.2.bg = bg at *
  generalize htm : x.2.tm = tm at *
  generalize hid : x.2.id = id at *
  generalize hcn : cNx tm = cn at *
  have HH := Lib.hid (And.intro hbg (And.intro htm (And.intro hid hcn)))
  clear hbg htm hid hcn
  obtain ⟨ht1, ht2⟩ := ht
  obtain ⟨hb1, hb2⟩ := hb
  obtain ⟨hn1, hn2⟩ := hn
  go_enter Try.func63, Try.ntmps63
  go_wp2_with fail
  refine (hat.out).mono ?_
  rintro e w' ⟨rfl, rfl⟩
  generalize hok : okI (tm + 1) = ok at *
  generalize hai : atI (tm + 1) = ai at *
  have HK := Lib.hid hok
  have HA := Lib.hid hai
  clear hok hai
  cases ok
  · obtain rfl : cn = 320 := h2.out rfl
    have hwr := HWR.out
    go_wp2_with fail
    go_still_tail 11, (by kernel_rfl)
    go_wp2_with fail
    refine (HSet.out).mono ?_
    rintro e w1 ⟨rfl, hp⟩
    have HP := Lib.hid (HE.out w1 ⟨rfl, hp⟩)
    clear hp
    go_wp2
    go_end0
    exact HP.out
  · obtain rfl : ai = cn := h1.out rfl
    have hwr := HWR.out
    go_wp2_with fail
    go_still_tail 11, (by kernel_rfl)
    go_wp2_with fail
    refine (HSet.out).mono ?_
    rintro e w1 ⟨rfl, hp⟩
    have HP := Lib.hid (HE.out w1 ⟨rfl, hp⟩)
    clear hp
    go_wp2
    go_end0
    exact HP.out
end Go.Proofs.Ytgfoobgkpnknmaa
