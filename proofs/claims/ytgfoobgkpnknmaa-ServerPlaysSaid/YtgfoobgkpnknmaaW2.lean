/- container/heap over the wheel's heap: up, down. -/
import Derived.Test.YtgfoobgkpnknmaaW1
import Derived.Test.YtgfoobgkpnknmaaM2
namespace Go.Proofs.Ytgfoobgkpnknmaa
open Go.RowKit
theorem mLen : MethRow Try.prog 135 "Len" 119 false := by unfold MethRow; kernel_rfl
theorem mLess : MethRow Try.prog 135 "Less" 120 false := by unfold MethRow; kernel_rfl
theorem mSwap : MethRow Try.prog 135 "Swap" 121 false := by unfold MethRow; kernel_rfl
theorem mPush : MethRow Try.prog 135 "Push" 123 true := by unfold MethRow; kernel_rfl
theorem mPop : MethRow Try.prog 135 "Pop" 122 true := by unfold MethRow; kernel_rfl
def UpPost (p bm : Nat) (hv : Value) (xs : List X) (n : Nat) (w : World) (e : Ending) (w' : World) : Prop :=
  e = .returned (.tuple #[]) ∧ ∃ ys : List X, ys.Perm xs ∧ heap ys n ∧ (∀ k, n ≤ k → g ys k = g xs k) ∧ Hp w' p bm hv ys ∧ Fr (Foot hv xs) w w'
def UpRel (p bm : Nat) (hv : Value) (xs : List X) (n : Nat) (w : World) (x : Value) (wr : World) : Prop :=
  ∃ (j : Nat) (ys : List X), x = .int .i64 j ∧ j < n ∧ ys.Perm xs ∧ upI ys n j ∧ (∀ k, n ≤ k → g ys k = g xs k) ∧ Hp wr p bm hv ys ∧ Fr (Foot hv xs) w wr
theorem hless' {w : World} {p bm : Nat} {hv : Value} {xs : List X} {i j : Nat} {a b : Int} (H : Hp w p bm hv xs) (hi : i < xs.length) (hj : j < xs.length) (ha : a = i) (hb : b = j) (r : Bool) (hr : lsB (g xs i).2 (g xs j).2 = r) :
    Calls Try.prog 120 #[hv, .int .i64 a, .int .i64 b] w fun e w' => e = .returned (.bool r) ∧ ∃ k, w' = w.drewN k := by
  subst ha hb hr; exact hless H hi hj
theorem hswap' {w : World} {p bm : Nat} {hv : Value} {xs : List X} {i j : Nat} {a b : Int} (H : Hp w p bm hv xs) (hi : i < xs.length) (hj : j < xs.length) (hij : i ≠ j) (ha : a = i) (hb : b = j) :
    Calls Try.prog 121 #[hv, .int .i64 a, .int .i64 b] w fun e w' => e = .returned (.tuple #[]) ∧ Hp w' p bm hv (swapL xs i j) ∧ Fr (Foot hv xs) w w' := by
  subst ha hb; exact hswap H hi hj hij
theorem g_tail {xs : List X} {i j n : Nat} (hi : i < xs.length) (hj : j < xs.length) (hin : i < n) (hjn : j < n) (k : Nat) (hk : n ≤ k) : g (swapL xs i j) k = g xs k := by
  rw [g_swap xs hi hj, if_neg (by omega), if_neg (by omega)]
theorem lsB_tt {a b : X} (h : ls a b) : lsB a.2 b.2 = true := decide_eq_true h
theorem lsB_ff {a b : X} (h : ¬ ls a b) : lsB a.2 b.2 = false := decide_eq_false h
set_option maxHeartbeats 1000000 in
theorem up_any (p bm n j : Nat) (hv : Value) (xs : List X) (w : World) (H : Hp w p bm hv xs) (hn : n ≤ xs.length) (hj : j < n) (hmax : xs.length ≤ 100000) (hu : upI xs n j) :
    Calls Try.prog 76 #[.iface 135 (.pointer (some ⟨p, 0, none⟩)), .int .i64 j] w (UpPost p bm hv xs n w) := by
  have hm1 := fun (k : Nat) (hk : 0 < k) (W : World) => run_method_val mLess Try.underlying135 Try.underlying60 ⟨p, 0, none⟩ k hk W
  have hm2 := fun (k : Nat) (hk : 0 < k) (W : World) => run_method_val mSwap Try.underlying135 Try.underlying60 ⟨p, 0, none⟩ k hk W
  go_enter Try.func76, Try.ntmps76
  go_wp2
  go_loopw [1] (fun x wr => UpRel p bm hv xs n w x wr) (fun x _ => (intOf x).toNat)
  case atStart => exact ⟨j, xs, rfl, hj, List.Perm.refl _, hu, fun _ _ => rfl, H, Fr.refl _ _⟩
  case round =>
    obtain ⟨j, ys, rfl, hj, hp, hu, ht, H, hf⟩ := hrel
    have hly := hp.length_eq
    rcases j with _ | q
    · have HU := Lib.hid (up_end hu (.inl rfl))
      go_wp2
      go_end0
      exact ⟨rfl, ys, hp, HU.out, ht, H, hf⟩
    · have hne : (((q : Int) / 2) == (q : Int) + 1) = false := by rw [beq_eq_false_iff_ne]; omega
      have hc0 := H.top.cell 0
      have hqp : (q + 1 - 1) / 2 = q / 2 := by omega
      have HT := Lib.hid ht
      have HUU := Lib.hid hu
      clear ht hu
      by_cases hl : ls (g ys (q + 1)) (g ys (q / 2))
      · have HS := Lib.hid (up_step (by omega) hj (by omega) HUU.out (by rw [hqp]; exact hl))
        have HB := Lib.hid (lsB_tt hl)
        clear hl
        rw [hqp] at HS
        go_wp2_with fail
        refine (hless' H (i := q + 1) (j := q / 2) (by omega) (by omega) (by omega) (by omega) _ HB.out).mono ?_
        rintro e w1 ⟨rfl, n1, rfl⟩
        have H1 := H.drewN n1
        have hc1 := H1.top.cell 0
        go_wp2_with fail
        refine (hswap' H1 (i := q / 2) (j := q + 1) (by omega) (by omega) (by omega) (by omega) (by omega)).mono ?_
        rintro e w2 ⟨rfl, H2, hf2⟩
        go_wp2
        go_roundw
        case rel =>
          refine ⟨q / 2, swapL ys (q / 2) (q + 1), int_eq (by omega), by omega, (swap_perm ys (by omega) (by omega)).trans hp, HS.out, fun k hk => ?_, H2, (hf.drewN n1).trans hf2 fun k _ q => q.perm hp k⟩
          rw [g_tail (n := n) (by omega) (by omega) (by omega) (by omega) k hk]; exact HT.out k hk
        case measure => simp [intOf] <;> omega
      · have HE := Lib.hid (up_end HUU.out (.inr (by rw [hqp]; exact hl)))
        have HB := Lib.hid (lsB_ff hl)
        clear hl
        go_wp2_with fail
        refine (hless' H (i := q + 1) (j := q / 2) (by omega) (by omega) (by omega) (by omega) _ HB.out).mono ?_
        rintro e w1 ⟨rfl, n1, rfl⟩
        go_wp2
        go_end0
        exact ⟨rfl, ys, hp, HE.out, HT.out, H.drewN n1, hf.drewN n1⟩
end Go.Proofs.Ytgfoobgkpnknmaa
