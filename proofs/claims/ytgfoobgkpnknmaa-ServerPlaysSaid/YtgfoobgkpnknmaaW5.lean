/- container/heap over the wheel's heap: heap.Push, heap.Remove. -/
import Derived.Test.YtgfoobgkpnknmaaW4
namespace Go.Proofs.Ytgfoobgkpnknmaa
set_option linter.unusedSimpArgs false
set_option linter.unusedVariables false
open Go.RowKit
def HPushPost (p bm : Nat) (hv : Value) (xs : List X) (x : X) (w : World) (e : Ending) (w' : World) : Prop :=
  e = .returned (.tuple #[]) ∧ ∃ hv' ys, (hv'.ownBlock = hv.ownBlock ∨ ∃ gb, hv'.ownBlock = some gb ∧ w.heap.size ≤ gb) ∧ ys.Perm (xs ++ [x]) ∧ heap ys (xs.length + 1) ∧ Hp w' p bm hv' ys ∧ Fr (fun k => k = p ∨ Foot hv xs k ∨ k = x.1) w w'
set_option maxHeartbeats 1000000 in
theorem hpush_any (p bm b : Nat) (hv : Value) (xs : List X) (tm : TM) (i0 : Value) (w : World) (H : Hp w p bm hv xs) (hmax : xs.length ≤ 50000) (hh : heap xs xs.length)
    (hb : Blk w b 133 #[.int .i64 tm.1, .int .i64 tm.2, i0]) (hnew : b ∉ xs.map (·.1)) :
    Calls Try.prog 59 #[.iface 135 (.pointer (some ⟨p, 0, none⟩)), .iface 130 (.pointer (some ⟨b, 0, none⟩))] w (HPushPost p bm hv xs (b, tm) w) := by
  have hm1 := fun (k : Nat) (hk : 0 < k) (W : World) => run_method_val mLen Try.underlying135 Try.underlying60 ⟨p, 0, none⟩ k hk W
  have hm2 := fun (k : Nat) (hk : 0 < k) (W : World) => run_method_ptr mPush Try.underlying135 ⟨p, 0, none⟩ k hk W
  have hc0 := H.top.cell 0
  have hlen1 : (xs ++ [(b, tm)]).length = xs.length + 1 := by simp
  have HL := Lib.hid hlen1
  have HU := Lib.hid (heap_push (b, tm) hh)
  clear hlen1 hh
  go_enter Try.func59, Try.ntmps59
  go_wp2_with fail
  refine (push_any p bm b hv xs tm i0 w H (by omega) hb hnew).mono ?_
  rintro e w1 ⟨rfl, hv1, hat, H1, hf⟩
  have hc1 := H1.top.cell 0
  go_wp2_with fail
  refine (hlen H1).mono ?_
  rintro e w2 ⟨rfl, rfl⟩
  rw [HL.out]
  go_wp2_with fail
  refine (up_any p bm (xs.length + 1) xs.length hv1 _ _ H1 (by rw [HL.out]; exact Nat.le_refl _) (by omega) (by rw [HL.out]; omega) HU.out).mono ?_
  rintro e w2 ⟨rfl, ys, hp, hh, _, H2, hf2⟩
  go_wp2
  go_end0
  refine ⟨rfl, hv1, ys, hat, hp, hh, H2, hf.trans hf2 fun k hk q => ?_⟩
  rcases q with q | q
  · rcases hat with e | ⟨gb, e1, e2⟩
    · exact .inr (.inl (.inl (e ▸ q)))
    · rw [q] at e1; injection e1 with e1; omega
  · rw [List.map_append, List.mem_append] at q
    rcases q with q | q
    · exact .inr (.inl (.inr q))
    · simp at q; exact .inr (.inr q)

def HRemPost (p bm : Nat) (hv : Value) (xs : List X) (i n : Nat) (w : World) (e : Ending) (w' : World) : Prop :=
  e = .returned (.iface 130 (.pointer (some ⟨(g xs i).1, 0, none⟩))) ∧ ∃ hv' ys, hv'.ownBlock = hv.ownBlock ∧ (ys ++ [g xs i]).Perm xs ∧ heap ys n ∧ Hp w' p bm hv' ys ∧ Fr (fun k => k = p ∨ Foot hv xs k) w w'
theorem take_last {xs : List X} {n : Nat} (h : xs.length = n + 1) : xs.take n ++ [g xs n] = xs := by
  rw [g_at (by omega), ← List.take_succ_eq_append_getElem (by omega), List.take_of_length_le (by omega)]
theorem heap_take {xs : List X} {n : Nat} (h : heap xs n) (hn : n ≤ xs.length) : heap (xs.take n) n := by
  have hg : ∀ k, k < n → g (xs.take n) k = g xs k := fun k hk => by simp [g, List.getElem?_take, hk]
  intro k h0 hk
  rw [hg k hk, hg _ (by omega)]
  exact h k h0 hk
/-- the last step of Remove -/
theorem rem_end {p bm i n : Nat} {hv : Value} {xs ys : List X} {w w1 : World} {e : Ending} {w' : World} (hn : xs.length = n + 1) (hp : ys.Perm xs) (hg : g ys n = g xs i) (hh : heap ys n) (hf : Fr (Foot hv xs) w w1) (h : PopPost p bm hv ys n w1 e w') : HRemPost p bm hv xs i n w e w' := by
  obtain ⟨he, hv', h1, h2, h3⟩ := h
  rw [hg] at he
  have hl : ys.length = n + 1 := by rw [hp.length_eq]; exact hn
  refine ⟨he, hv', ys.take n, h1, ?_, heap_take hh (by omega), h2, ?_⟩
  · rw [← hg, take_last hl]; exact hp
  · exact (hf.mono fun k _ q => .inr q).trans h3 fun k _ q => .inl q
set_option maxHeartbeats 1000000 in
theorem hrem_any (p bm i n : Nat) (hv : Value) (xs : List X) (w : World) (H : Hp w p bm hv xs) (hn : xs.length = n + 1) (hi : i < n + 1) (hmax : xs.length ≤ 50000) (hh : heap xs xs.length) :
    Calls Try.prog 60 #[.iface 135 (.pointer (some ⟨p, 0, none⟩)), .int .i64 i] w (HRemPost p bm hv xs i n w) := by
  have hm1 := fun (k : Nat) (hk : 0 < k) (W : World) => run_method_val mLen Try.underlying135 Try.underlying60 ⟨p, 0, none⟩ k hk W
  have hm2 := fun (k : Nat) (hk : 0 < k) (W : World) => run_method_ptr mPop Try.underlying135 ⟨p, 0, none⟩ k hk W
  have hm3 := fun (k : Nat) (hk : 0 < k) (W : World) => run_method_val mSwap Try.underlying135 Try.underlying60 ⟨p, 0, none⟩ k hk W
  have hc0 := H.top.cell 0
  have HN := Lib.hid hn
  have hml : n ≤ 50000 := by omega
  have HH := Lib.hid hh
  clear hn hh hmax
  by_cases hni : n = i
  · subst hni
    have hb : ((n : Int) != n) = false := by simp
    go_enter Try.func60, Try.ntmps60
    go_wp2_with fail
    refine (hlen H).mono ?_
    rintro e w2 ⟨rfl, rfl⟩
    rw [HN.out]
    go_wp2_with fail
    refine (pop_any p bm n hv xs _ H HN.out (by rw [HN.out]; omega)).mono ?_
    intro e w1 hpop
    have HE := Lib.hid (rem_end (i := n) HN.out (List.Perm.refl _) rfl (heap_mono HH.out (by rw [HN.out]; omega)) (Fr.refl _ _) hpop)
    obtain ⟨rfl, _⟩ := hpop
    go_wp2
    go_ret
    exact HE.out
  · have hb : ((n : Int) != i) = true := by rw [bne_iff_ne]; omega
    have hin : i < n := by omega
    have hgs : ∀ k, k < n → k ≠ i → g (swapL xs i n) k = g xs k := fun k hk hki => by rw [g_swap xs (by rw [HN.out]; omega) (by rw [HN.out]; omega), if_neg (by omega), if_neg hki]
    have HD := Lib.hid (heap_change (heap_mono HH.out (by rw [HN.out]; exact Nat.le_succ n)) hin hgs)
    have HG := Lib.hid (show g (swapL xs i n) n = g xs i by rw [g_swap xs (by rw [HN.out]; omega) (by rw [HN.out]; omega), if_pos rfl])
    have HP := Lib.hid (swap_perm xs (i := i) (j := n) (by rw [HN.out]; omega) (by rw [HN.out]; omega))
    clear hgs hni
    go_enter Try.func60, Try.ntmps60
    go_wp2_with fail
    refine (hlen H).mono ?_
    rintro e w2 ⟨rfl, rfl⟩
    rw [HN.out]
    go_wp2_with fail
    refine (hswap' H (i := i) (j := n) (by rw [HN.out]; omega) (by rw [HN.out]; omega) (by omega) rfl rfl).mono ?_
    rintro e w1 ⟨rfl, H1, hf1⟩
    generalize swapL xs i n = ys at *
    have hly : Hid (ys.length = n + 1) := Lib.hid (by rw [HP.out.length_eq]; exact HN.out)
    go_wp2_with fail
    refine (down_any p bm n i hv ys _ H1 (by rw [hly.out]; exact Nat.le_succ n) hin (by rw [hly.out]; omega) HD.out).mono ?_
    rintro e w2 ⟨b, zs, rfl, hp, h1, h2, ht, H2, hf2⟩
    have hlz : Hid (zs.length = n + 1) := Lib.hid (by rw [hp.length_eq]; exact hly.out)
    have HT := Lib.hid ((ht n (Nat.le_refl _)).trans HG.out)
    have hc2 := H2.top.cell 0
    clear ht
    have hf12 := hf1.trans hf2 fun k _ q => q.perm HP.out k
    cases b
    · have HU := Lib.hid (h2 rfl)
      clear h1 h2
      go_wp2_with fail
      refine (up_any p bm n i hv zs _ H2 (by rw [hlz.out]; exact Nat.le_succ n) hin (by rw [hlz.out]; omega) HU.out).mono ?_
      rintro e w3 ⟨rfl, us, hp3, hh3, ht3, H3, hf3⟩
      have hlu : Hid (us.length = n + 1) := Lib.hid (by rw [hp3.length_eq]; exact hlz.out)
      have HT3 := Lib.hid ((ht3 n (Nat.le_refl _)).trans HT.out)
      have hc3 := H3.top.cell 0
      clear ht3
      go_wp2_with fail
      refine (pop_any p bm n hv us _ H3 hlu.out (by rw [hlu.out]; omega)).mono ?_
      intro e w4 hpop
      have HE := Lib.hid (rem_end HN.out ((hp3.trans hp).trans HP.out) HT3.out hh3 (hf12.trans hf3 fun k _ q => q.perm (hp.trans HP.out) k) hpop)
      obtain ⟨rfl, _⟩ := hpop
      go_wp2
      go_ret
      exact HE.out
    · have HU := Lib.hid (h1 rfl)
      clear h1 h2
      go_wp2_with fail
      refine (pop_any p bm n hv zs _ H2 hlz.out (by rw [hlz.out]; omega)).mono ?_
      intro e w4 hpop
      have HE := Lib.hid (rem_end HN.out (hp.trans HP.out) HT.out HU.out hf12 hpop)
      obtain ⟨rfl, _⟩ := hpop
      go_wp2
      go_ret
      exact HE.out
end Go.Proofs.Ytgfoobgkpnknmaa
