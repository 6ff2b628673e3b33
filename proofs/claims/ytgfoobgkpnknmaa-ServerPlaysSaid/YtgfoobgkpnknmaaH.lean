/- Plain laws of a binary heap kept in a list, and of timers in order: no program in sight. -/
namespace Go.Proofs.Ytgfoobgkpnknmaa
abbrev TM := Int × Int
abbrev X := Nat × TM
def ah (a b : TM) : Prop := a.1 < b.1 ∨ a.1 = b.1 ∧ a.2 < b.2
instance (a b : TM) : Decidable (ah a b) := by unfold ah; infer_instance
def ls (x y : X) : Prop := ah x.2 y.2
instance (a b : X) : Decidable (ls a b) := by unfold ls; infer_instance
def g (xs : List X) (i : Nat) : X := xs.getD i (0, 0, 0)
theorem ls_asymm {a b : X} (h : ls a b) : ¬ ls b a := by unfold ls ah at *; omega
theorem ls_irrefl (a : X) : ¬ ls a a := by unfold ls ah at *; omega
theorem nls_trans {a b c : X} (h : ¬ ls b a) (h' : ¬ ls c b) : ¬ ls c a := by unfold ls ah at *; omega
def heap (xs : List X) (n : Nat) : Prop := ∀ k, 0 < k → k < n → ¬ ls (g xs k) (g xs ((k - 1) / 2))
def upI (xs : List X) (n j : Nat) : Prop :=
  (∀ k, 0 < k → k < n → k ≠ j → ¬ ls (g xs k) (g xs ((k - 1) / 2))) ∧
  (∀ k, 0 < k → k < n → (k - 1) / 2 = j → 0 < j → ¬ ls (g xs k) (g xs ((j - 1) / 2)))
def dnI (xs : List X) (n i i0 : Nat) : Prop :=
  (∀ k, 0 < k → k < n → (k ≠ i0 ∨ i ≠ i0) → (k - 1) / 2 ≠ i → ¬ ls (g xs k) (g xs ((k - 1) / 2))) ∧
  (∀ k, 0 < k → k < n → (k - 1) / 2 = i → 0 < i → ¬ ls (g xs k) (g xs ((i - 1) / 2)))
def swapL (xs : List X) (i j : Nat) : List X := (xs.set i (g xs j)).set j (g xs i)
theorem swap_len (xs : List X) (i j : Nat) : (swapL xs i j).length = xs.length := by simp [swapL]
theorem g_at {xs : List X} {i : Nat} (h : i < xs.length) : g xs i = xs[i] := by simp [g, h]
theorem g_swap (xs : List X) {i j : Nat} (hi : i < xs.length) (hj : j < xs.length) (k : Nat) :
    g (swapL xs i j) k = if k = j then g xs i else if k = i then g xs j else g xs k := by
  unfold swapL
  generalize ha : g xs i = a
  generalize hb : g xs j = b
  simp only [g, List.getD_eq_getElem?_getD, List.getElem?_set, List.length_set]
  by_cases h1 : k = j
  · subst h1; simp [hj]
  · rw [if_neg (by omega), if_neg h1]
    by_cases h2 : k = i
    · subst h2; simp [hi]
    · rw [if_neg (by omega), if_neg h2]
theorem swap_perm (xs : List X) {i j : Nat} (hi : i < xs.length) (hj : j < xs.length) : (swapL xs i j).Perm xs := by
  unfold swapL
  rw [g_at hi, g_at hj]
  exact List.set_set_perm hi hj
theorem up_step {xs : List X} {n j : Nat} (hn : n ≤ xs.length) (hj : j < n) (h0 : 0 < j) (h : upI xs n j) (hl : ls (g xs j) (g xs ((j - 1) / 2))) : upI (swapL xs ((j - 1) / 2) j) n ((j - 1) / 2) := by
  have hi : (j - 1) / 2 < j := by omega
  generalize hp : (j - 1) / 2 = i at *
  have hg := g_swap xs (i := i) (j := j) (by omega) (by omega)
  have pj : (j - 1) / 2 = i := hp
  refine ⟨fun k hk0 hkn hki => ?_, fun k hk0 hkn hkp hi0 => ?_⟩
  · rw [hg, hg]
    by_cases hkj : k = j
    · subst hkj
      rw [if_pos rfl, pj, if_neg (by omega), if_pos rfl]
      exact ls_asymm hl
    · rw [if_neg hkj, if_neg hki]
      by_cases e1 : (k - 1) / 2 = j
      · rw [if_pos e1]
        have := h.2 k hk0 hkn e1 h0
        rwa [pj] at this
      · rw [if_neg e1]
        by_cases e2 : (k - 1) / 2 = i
        · rw [if_pos e2]
          have := h.1 k hk0 hkn hkj
          rw [e2] at this
          exact nls_trans (ls_asymm hl) this
        · rw [if_neg e2]
          exact h.1 k hk0 hkn hkj
  · have hii : (i - 1) / 2 < i := by omega
    rw [hg, hg, if_neg (show (i - 1) / 2 ≠ j by omega), if_neg (show (i - 1) / 2 ≠ i by omega)]
    have hpi := h.1 i hi0 (by omega) (by omega)
    by_cases hkj : k = j
    · rw [if_pos hkj]; exact hpi
    · rw [if_neg hkj, if_neg (by omega)]
      have := h.1 k hk0 hkn hkj
      rw [hkp] at this
      exact nls_trans hpi this
theorem up_end {xs : List X} {n j : Nat} (h : upI xs n j) (hl : j = 0 ∨ ¬ ls (g xs j) (g xs ((j - 1) / 2))) : heap xs n := by
  intro k hk0 hkn
  by_cases hkj : k = j
  · subst hkj
    rcases hl with h0 | h0
    · omega
    · exact h0
  · exact h.1 k hk0 hkn hkj
/-- the smaller child -/
def kid (xs : List X) (n i : Nat) : Nat := if 2 * i + 2 < n ∧ ls (g xs (2 * i + 2)) (g xs (2 * i + 1)) then 2 * i + 2 else 2 * i + 1
theorem kid_bd (xs : List X) (n i : Nat) (h : 2 * i + 1 < n) : (kid xs n i - 1) / 2 = i ∧ i < kid xs n i ∧ kid xs n i < n := by unfold kid; split <;> omega
theorem kid_le (xs : List X) (n i k : Nat) (hk0 : 0 < k) (hk : k < n) (hp : (k - 1) / 2 = i) : ¬ ls (g xs k) (g xs (kid xs n i)) := by
  have hk2 : k = 2 * i + 1 ∨ k = 2 * i + 2 := by omega
  unfold kid
  split
  · rename_i hc
    rcases hk2 with rfl | rfl
    · exact ls_asymm hc.2
    · exact ls_irrefl _
  · rename_i hc
    rcases hk2 with rfl | rfl
    · exact ls_irrefl _
    · intro hl; exact hc ⟨hk, hl⟩
theorem dn_step {xs : List X} {n i i0 : Nat} (hn : n ≤ xs.length) (hi0 : i0 ≤ i) (hc : 2 * i + 1 < n) (h : dnI xs n i i0) (hl : ls (g xs (kid xs n i)) (g xs i)) : dnI (swapL xs i (kid xs n i)) n (kid xs n i) i0 := by
  obtain ⟨hp, hij, hjn⟩ := kid_bd xs n i hc
  have hle := kid_le xs n i
  generalize kid xs n i = j at *
  have hg := g_swap xs (i := i) (j := j) (by omega) (by omega)
  refine ⟨fun k hk0 hkn _ hkp => ?_, fun k hk0 hkn hkp hj0 => ?_⟩
  · rw [hg, hg, if_neg hkp]
    by_cases hkj : k = j
    · subst hkj
      rw [if_pos rfl, if_pos hp]
      exact ls_asymm hl
    · rw [if_neg hkj]
      by_cases hki : k = i
      · subst hki
        rw [if_pos rfl, if_neg (by omega)]
        exact h.2 j (by omega) hjn hp hk0
      · rw [if_neg hki]
        by_cases e2 : (k - 1) / 2 = i
        · rw [if_pos e2]; exact hle k hk0 hkn e2
        · rw [if_neg e2]
          refine h.1 k hk0 hkn ?_ e2
          omega
  · rw [hg, hg, if_neg (by omega), if_neg (by omega), hp, if_neg (by omega), if_pos rfl]
    have := h.1 k hk0 hkn (by omega) (by omega)
    rwa [hkp] at this
/-- where down ends -/
theorem dn_end {xs : List X} {n i i0 : Nat} (h : dnI xs n i i0) (hi0 : i0 ≤ i) (hl : n ≤ 2 * i + 1 ∨ ¬ ls (g xs (kid xs n i)) (g xs i)) : (i = i0 → upI xs n i0) ∧ (i ≠ i0 → heap xs n) := by
  have key : ∀ k, 0 < k → k < n → (k - 1) / 2 = i → ¬ ls (g xs k) (g xs i) := fun k hk0 hkn hkp => by
    rcases hl with hl | hl
    · omega
    · exact nls_trans hl (kid_le xs n i k hk0 hkn hkp)
  refine ⟨fun e => ?_, fun e k hk0 hkn => ?_⟩
  · subst e
    refine ⟨fun k hk0 hkn hki => ?_, fun k hk0 hkn hkp hi => h.2 k hk0 hkn hkp hi⟩
    by_cases e2 : (k - 1) / 2 = i
    · rw [e2]; exact key k hk0 hkn e2
    · exact h.1 k hk0 hkn (by omega) e2
  · by_cases e2 : (k - 1) / 2 = i
    · rw [e2]; exact key k hk0 hkn e2
    · exact h.1 k hk0 hkn (by omega) e2
theorem heap_top {xs : List X} {n : Nat} (h : heap xs n) : ∀ k, k < n → ¬ ls (g xs k) (g xs 0) := by
  intro k
  induction k using Nat.strongRecOn with
  | ind k ih =>
    intro hk
    rcases Nat.eq_zero_or_pos k with h0 | h0
    · subst h0; exact ls_irrefl _
    · exact nls_trans (ih ((k - 1) / 2) (by omega) (by omega)) (h k h0 hk)
theorem heap_mono {xs : List X} {n m : Nat} (h : heap xs n) (hm : m ≤ n) : heap xs m := fun k h0 hk => h k h0 (by omega)
/-- a changed item: all but its own pairs hold -/
theorem heap_change {xs ys : List X} {n i : Nat} (h : heap xs n) (hi : i < n) (hg : ∀ k, k < n → k ≠ i → g ys k = g xs k) : dnI ys n i i := by
  refine ⟨fun k hk0 hkn hki hkp => ?_, fun k hk0 hkn hkp hi0 => ?_⟩
  · rw [hg k hkn (by omega), hg _ (by omega) hkp]
    exact h k hk0 hkn
  · rw [hg k hkn (by omega), hg _ (by omega) (by omega)]
    have h1 := h k hk0 hkn
    rw [hkp] at h1
    exact nls_trans (h i hi0 hi) h1
/-- a new item behind the others -/
theorem heap_push {xs : List X} (x : X) (h : heap xs xs.length) : upI (xs ++ [x]) (xs.length + 1) xs.length := by
  have hg : ∀ k, k < xs.length → g (xs ++ [x]) k = g xs k := fun k hk => by simp [g, List.getElem?_append_left hk]
  refine ⟨fun k hk0 hkn hkj => ?_, fun k hk0 hkn hkp hi0 => by omega⟩
  rw [hg k (by omega), hg _ (by omega)]
  exact h k hk0 (by omega)
end Go.Proofs.Ytgfoobgkpnknmaa
