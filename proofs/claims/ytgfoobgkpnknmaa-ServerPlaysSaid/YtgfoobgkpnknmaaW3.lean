/- container/heap over the wheel's heap: down. -/
import Derived.Test.YtgfoobgkpnknmaaW2
namespace Go.Proofs.Ytgfoobgkpnknmaa
open Go.RowKit
def DownPost (p bm : Nat) (hv : Value) (xs : List X) (n i0 : Nat) (w : World) (e : Ending) (w' : World) : Prop :=
  ∃ (b : Bool) (ys : List X), e = .returned (.bool b) ∧ ys.Perm xs ∧ (b = true → heap ys n) ∧ (b = false → upI ys n i0) ∧ (∀ k, n ≤ k → g ys k = g xs k) ∧ Hp w' p bm hv ys ∧ Fr (Foot hv xs) w w'
def DownRel (p bm : Nat) (hv : Value) (xs : List X) (n i0 : Nat) (w : World) (x : Value) (wr : World) : Prop :=
  ∃ (i : Nat) (ys : List X), x = .int .i64 i ∧ i0 ≤ i ∧ i < n ∧ ys.Perm xs ∧ dnI ys n i i0 ∧ (∀ k, n ≤ k → g ys k = g xs k) ∧ Hp wr p bm hv ys ∧ Fr (Foot hv xs) w wr
theorem downPost_of {p bm : Nat} {hv : Value} {xs ys : List X} {n i i0 : Nat} {w w' : World} (h : dnI ys n i i0) (hi : i0 ≤ i) (hl : n ≤ 2 * i + 1 ∨ ¬ ls (g ys (kid ys n i)) (g ys i)) (hp : ys.Perm xs) (ht : ∀ k, n ≤ k → g ys k = g xs k) (H : Hp w' p bm hv ys) (hf : Fr (Foot hv xs) w w') :
    DownPost p bm hv xs n i0 w (.returned (.bool (decide (i0 < i)))) w' := by
  obtain ⟨h1, h2⟩ := dn_end h hi hl
  exact ⟨_, ys, rfl, hp, fun e => h2 (by simp at e; omega), fun e => h1 (by simp at e; omega), ht, H, hf⟩
set_option maxHeartbeats 2000000 in
theorem down_any (p bm n i0 : Nat) (hv : Value) (xs : List X) (w : World) (H : Hp w p bm hv xs) (hn : n ≤ xs.length) (hj : i0 < n) (hmax : xs.length ≤ 100000) (hu : dnI xs n i0 i0) :
    Calls Try.prog 75 #[.iface 135 (.pointer (some ⟨p, 0, none⟩)), .int .i64 i0, .int .i64 n] w (DownPost p bm hv xs n i0 w) := by
  have hm1 := fun (k : Nat) (hk : 0 < k) (W : World) => run_method_val mLess Try.underlying135 Try.underlying60 ⟨p, 0, none⟩ k hk W
  have hm2 := fun (k : Nat) (hk : 0 < k) (W : World) => run_method_val mSwap Try.underlying135 Try.underlying60 ⟨p, 0, none⟩ k hk W
  go_enter Try.func75, Try.ntmps75
  go_wp2
  go_loopw [7] (fun x wr => DownRel p bm hv xs n i0 w x wr) (fun x _ => n - (intOf x).toNat)
  case atStart => exact ⟨i0, xs, rfl, Nat.le_refl _, hj, List.Perm.refl _, hu, fun _ _ => rfl, H, Fr.refl _ _⟩
  case round =>
    obtain ⟨i, ys, rfl, hi0, hin, hp, hu, ht, H, hf⟩ := hrel
    have hly := hp.length_eq
    have hc0 := H.top.cell 0
    by_cases hA : n ≤ 2 * i + 1
    · have HU := Lib.hid (downPost_of hu hi0 (.inl hA) hp ht H hf)
      clear hu ht
      go_wp2
      go_ret
      exact HU.out
    · have HT := Lib.hid ht
      have HUU := Lib.hid hu
      have hkb := kid_bd ys n i (by omega)
      clear ht hu
      have hcase : (2 * i + 2 < n ∧ ls (g ys (2 * i + 2)) (g ys (2 * i + 1)) ∧ kid ys n i = 2 * i + 2) ∨ (2 * i + 2 < n ∧ ¬ ls (g ys (2 * i + 2)) (g ys (2 * i + 1)) ∧ kid ys n i = 2 * i + 1) ∨ (n ≤ 2 * i + 2 ∧ kid ys n i = 2 * i + 1) := by
        by_cases h1 : 2 * i + 2 < n
        · by_cases h2 : ls (g ys (2 * i + 2)) (g ys (2 * i + 1))
          · exact .inl ⟨h1, h2, by unfold kid; rw [if_pos ⟨h1, h2⟩]⟩
          · exact .inr (.inl ⟨h1, h2, by unfold kid; rw [if_neg (fun q => h2 q.2)]⟩)
        · exact .inr (.inr ⟨by omega, by unfold kid; rw [if_neg (fun q => h1 q.1)]⟩)
      obtain ⟨kd, hkd⟩ : ∃ kd, kd = kid ys n i := ⟨_, rfl⟩
      rw [← hkd] at hkb hcase
      have HKD := Lib.hid hkd
      clear hkd
      have hstep : ls (g ys kd) (g ys i) → dnI (swapL ys i kd) n kd i0 := fun hl => by
        have := dn_step (by omega) hi0 (by omega) HUU.out (by rw [← HKD.out]; exact hl)
        rwa [← HKD.out] at this
      have hend : ¬ ls (g ys kd) (g ys i) → ∀ w', Hp w' p bm hv ys → Fr (Foot hv xs) w w' → DownPost p bm hv xs n i0 w (.returned (.bool (decide (i0 < i)))) w' := fun hl w' H' hf' =>
        downPost_of HUU.out hi0 (.inr (by rw [← HKD.out]; exact hl)) hp HT.out H' hf'
      have HS := Lib.hid hstep
      have HE := Lib.hid hend
      clear hstep hend HUU HKD
      rcases hcase with ⟨h1, h2, hk⟩ | ⟨h1, h2, hk⟩ | ⟨h1, hk⟩
      · have HB := Lib.hid (lsB_tt h2)
        clear h2
        subst hk
        go_wp2_with fail
        refine (hless' H (i := 2 * i + 2) (j := 2 * i + 1) (by omega) (by omega) (by omega) (by omega) _ HB.out).mono ?_
        rintro e w1 ⟨rfl, n1, rfl⟩
        have H1 := H.drewN n1
        have hf1 := hf.drewN n1
        have hc1 := H1.top.cell 0
        by_cases hl : ls (g ys (2 * i + 2)) (g ys i)
        · have HL := Lib.hid hl
          clear hl
          go_wp2_with fail
          refine (hless' H1 (i := 2 * i + 2) (j := i) (by omega) (by omega) (by omega) (by omega) _ (lsB_tt HL.out)).mono ?_
          rintro e w1 ⟨rfl, n2, rfl⟩
          have H2 := H.drewN (n1 + n2)
          have hf2 := hf.drewN (n1 + n2)
          have hc2 := H2.top.cell 0
          go_wp2_with fail
          refine (hswap' H2 (i := i) (j := 2 * i + 2) (by omega) (by omega) (by omega) (by omega) (by omega)).mono ?_
          rintro e w2 ⟨rfl, H3, hf3⟩
          go_wp2
          go_roundw
          case rel =>
            refine ⟨2 * i + 2, swapL ys i (2 * i + 2), int_eq (by omega), by omega, by omega, (swap_perm ys (by omega) (by omega)).trans hp, HS.out HL.out, fun k hk => ?_, H3, hf2.trans hf3 fun k _ q => q.perm hp k⟩
            rw [g_tail (n := n) (by omega) (by omega) (by omega) (by omega) k hk]; exact HT.out k hk
          case measure => simp [intOf] <;> omega
        · have HL := Lib.hid hl
          clear hl
          go_wp2_with fail
          refine (hless' H1 (i := 2 * i + 2) (j := i) (by omega) (by omega) (by omega) (by omega) _ (lsB_ff HL.out)).mono ?_
          rintro e w1 ⟨rfl, n2, rfl⟩
          go_wp2
          go_ret
          exact HE.out HL.out _ (H.drewN (n1 + n2)) (hf.drewN (n1 + n2))
      · have HB := Lib.hid (lsB_ff h2)
        clear h2
        subst hk
        go_wp2_with fail
        refine (hless' H (i := 2 * i + 2) (j := 2 * i + 1) (by omega) (by omega) (by omega) (by omega) _ HB.out).mono ?_
        rintro e w1 ⟨rfl, n1, rfl⟩
        have H1 := H.drewN n1
        have hf1 := hf.drewN n1
        have hc1 := H1.top.cell 0
        by_cases hl : ls (g ys (2 * i + 1)) (g ys i)
        · have HL := Lib.hid hl
          clear hl
          go_wp2_with fail
          refine (hless' H1 (i := 2 * i + 1) (j := i) (by omega) (by omega) (by omega) (by omega) _ (lsB_tt HL.out)).mono ?_
          rintro e w1 ⟨rfl, n2, rfl⟩
          have H2 := H.drewN (n1 + n2)
          have hf2 := hf.drewN (n1 + n2)
          have hc2 := H2.top.cell 0
          go_wp2_with fail
          refine (hswap' H2 (i := i) (j := 2 * i + 1) (by omega) (by omega) (by omega) (by omega) (by omega)).mono ?_
          rintro e w2 ⟨rfl, H3, hf3⟩
          go_wp2
          go_roundw
          case rel =>
            refine ⟨2 * i + 1, swapL ys i (2 * i + 1), int_eq (by omega), by omega, by omega, (swap_perm ys (by omega) (by omega)).trans hp, HS.out HL.out, fun k hk => ?_, H3, hf2.trans hf3 fun k _ q => q.perm hp k⟩
            rw [g_tail (n := n) (by omega) (by omega) (by omega) (by omega) k hk]; exact HT.out k hk
          case measure => simp [intOf] <;> omega
        · have HL := Lib.hid hl
          clear hl
          go_wp2_with fail
          refine (hless' H1 (i := 2 * i + 1) (j := i) (by omega) (by omega) (by omega) (by omega) _ (lsB_ff HL.out)).mono ?_
          rintro e w1 ⟨rfl, n2, rfl⟩
          go_wp2
          go_ret
          exact HE.out HL.out _ (H.drewN (n1 + n2)) (hf.drewN (n1 + n2))
      · subst hk
        by_cases hl : ls (g ys (2 * i + 1)) (g ys i)
        · have HL := Lib.hid hl
          clear hl
          go_wp2_with fail
          refine (hless' H (i := 2 * i + 1) (j := i) (by omega) (by omega) (by omega) (by omega) _ (lsB_tt HL.out)).mono ?_
          rintro e w1 ⟨rfl, n2, rfl⟩
          have H2 := H.drewN n2
          have hf2 := hf.drewN n2
          have hc2 := H2.top.cell 0
          go_wp2_with fail
          refine (hswap' H2 (i := i) (j := 2 * i + 1) (by omega) (by omega) (by omega) (by omega) (by omega)).mono ?_
          rintro e w2 ⟨rfl, H3, hf3⟩
          go_wp2
          go_roundw
          case rel =>
            refine ⟨2 * i + 1, swapL ys i (2 * i + 1), int_eq (by omega), by omega, by omega, (swap_perm ys (by omega) (by omega)).trans hp, HS.out HL.out, fun k hk => ?_, H3, hf2.trans hf3 fun k _ q => q.perm hp k⟩
            rw [g_tail (n := n) (by omega) (by omega) (by omega) (by omega) k hk]; exact HT.out k hk
          case measure => simp [intOf] <;> omega
        · have HL := Lib.hid hl
          clear hl
          go_wp2_with fail
          refine (hless' H (i := 2 * i + 1) (j := i) (by omega) (by omega) (by omega) (by omega) _ (lsB_ff HL.out)).mono ?_
          rintro e w1 ⟨rfl, n2, rfl⟩
          go_wp2
          go_ret
          exact HE.out HL.out _ (H.drewN n2) (hf.drewN n2)
end Go.Proofs.Ytgfoobgkpnknmaa
