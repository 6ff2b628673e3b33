/- A slice that reads as a list of cells; nil let in. -/
import Derived.Test.YtgfoobgkpnknmaaM
namespace Go.Proofs.Ytgfoobgkpnknmaa
open Go.RowKit
/-- the address A leads to n elements of type T, of sz cells each: the cells xs -/
def Rd (w : World) (T : TypeId) (sz n : Nat) (A : Option Addr) (xs : List Value) : Prop :=
  xs.length = n * sz ∧ (0 < n → ∃ (gb off : Nat) (cs : Array Value) (fr : Nat × Nat), A = some ⟨gb, off, none⟩ ∧ w.heap[gb]? = some (.cells cs T fr) ∧ ∀ j u, xs[j]? = some u → cs[off + j]? = some u)
section
variable {w w' : World} {T : TypeId} {sz n : Nat} {A : Option Addr} {xs : List Value} {F : Nat → Prop}
theorem Rd.at_ (h : Rd w T sz n A xs) (hn : 0 < n) : ∃ gb off, A = some ⟨gb, off, none⟩ ∧ gb < w.heap.size ∧ ∀ j u, xs[j]? = some u → w.cell? ⟨gb, off + j, none⟩ = some u := by
  obtain ⟨gb, off, cs, fr, e, hb, hc⟩ := h.2 hn
  refine ⟨gb, off, e, ?_, fun j u hj => ?_⟩
  · rcases Nat.lt_or_ge gb w.heap.size with hlt | hge
    · exact hlt
    · rw [Array.getElem?_eq_none hge] at hb; cases hb
  · rw [cell_of_row w gb (off + j) cs T fr hb]; exact hc j u hj
theorem Rd.fr (h : Rd w T sz n A xs) (hf : Fr F w w') (hF : ∀ gb cs fr, w.heap[gb]? = some (.cells cs T fr) → ¬ F gb) : Rd w' T sz n A xs := by
  refine ⟨h.1, fun hn => ?_⟩
  obtain ⟨gb, off, cs, fr, e, hb, hc⟩ := h.2 hn
  have hlt : gb < w.heap.size := by
    rcases Nat.lt_or_ge gb w.heap.size with hlt | hge
    · exact hlt
    · rw [Array.getElem?_eq_none hge] at hb; cases hb
  exact ⟨gb, off, cs, fr, e, (hf.block gb hlt (hF gb cs fr hb)).trans hb, hc⟩
theorem Rd.below (h : Rd w T sz n A xs) (hb : Below w.heap.size w w') : Rd w' T sz n A xs := h.fr (Fr.of_below (F := fun _ => False) hb) (fun _ _ _ _ h => h)
theorem Rd.drewN (h : Rd w T sz n A xs) (k : Nat) : Rd (w.drewN k) T sz n A xs := h
theorem Rd.nil (w : World) (T : TypeId) (sz : Nat) (A : Option Addr) : Rd w T sz 0 A [] := ⟨by simp, fun h => absurd h (by omega)⟩
theorem Rd.alloc (h : Rd w T sz n A xs) (o : Obj) : Rd (w.alloc o) T sz n A xs := h.fr ((Fr.refl (fun _ => False) w).alloc o) (fun _ _ _ _ h => h)
theorem Rd.of_own {base c : Nat} (h : w.ownsRow base T sz (.slice A n c) n xs) : Rd w T sz n A xs := by
  refine ⟨h.1, fun hn => ?_⟩
  rcases h.2 with ⟨_, h0⟩ | ⟨gb, cap, cur, e, _, hb, h1, _, h2, h3⟩
  · omega
  · simp only [Value.slice.injEq] at e
    refine ⟨gb, 0, cur, (0, 0), e.1, hb, fun j u hj => ?_⟩
    rw [← h3, List.getElem?_take] at hj
    split at hj
    · simpa using hj
    · cases hj
theorem Rd.take (h : Rd w T sz n A xs) {k : Nat} (hk : k ≤ n) : Rd w T sz k A (xs.take (k * sz)) := by
  have hl : k * sz ≤ n * sz := Nat.mul_le_mul_right _ hk
  refine ⟨by rw [List.length_take, h.1]; omega, fun hk0 => ?_⟩
  obtain ⟨gb, off, cs, fr, e, hb, hc⟩ := h.2 (by omega)
  refine ⟨gb, off, cs, fr, e, hb, fun j u hj => hc j u ?_⟩
  rw [List.getElem?_take] at hj
  split at hj
  · exact hj
  · cases hj
theorem Rd.cut (h : Rd w T sz n A xs) {k cap : Nat} (hk : k ≤ n) (hc : n ≤ cap) : Rd w T sz (n - k) (if cap = k then A else A.map (·.add (k * sz))) (xs.drop (k * sz)) := by
  refine ⟨by rw [List.length_drop, h.1, Nat.sub_mul], fun hn => ?_⟩
  obtain ⟨gb, off, cs, fr, rfl, hb, hcell⟩ := h.2 (by omega)
  rw [if_neg (by omega)]
  refine ⟨gb, off + k * sz, cs, fr, by unfold Addr.add; by_cases e : k * sz = 0 <;> simp [e], hb, fun j u hu => ?_⟩
  rw [Nat.add_assoc]
  exact hcell _ u (by rw [← hu, List.getElem?_drop])
/-- a slice value that reads as xs -/
def RdV (w : World) (T : TypeId) (sz n : Nat) (v : Value) (xs : List Value) : Prop := ∃ A c, v = .slice A n c ∧ n ≤ c ∧ c ≤ maxLen ∧ Rd w T sz n A xs
theorem RdV.of_own {base : Nat} {v : Value} (h : w.ownsRow base T sz v n xs) : RdV w T sz n v xs := by
  rcases h.2 with ⟨e, h0⟩ | ⟨gb, cap, cur, e, _, hb, h1, h2, _⟩
  · subst h0
    exact ⟨none, 0, e, Nat.le_refl _, by unfold maxLen; omega, Rd.of_own (c := 0) (e ▸ h)⟩
  · exact ⟨_, cap, e, h1, h2, Rd.of_own (c := cap) (e ▸ h)⟩
theorem RdV.fr {v : Value} (h : RdV w T sz n v xs) (hf : Fr F w w') (hF : ∀ gb cs fr, w.heap[gb]? = some (.cells cs T fr) → ¬ F gb) : RdV w' T sz n v xs := by
  obtain ⟨A, c, e, h1, h2, h3⟩ := h
  exact ⟨A, c, e, h1, h2, h3.fr hf hF⟩
theorem RdV.below {v : Value} (h : RdV w T sz n v xs) (hb : Below w.heap.size w w') : RdV w' T sz n v xs := h.fr (Fr.of_below (F := fun _ => False) hb) (fun _ _ _ _ h => h)
theorem RdV.nil (w : World) (T : TypeId) (sz : Nat) : RdV w T sz 0 (.slice none 0 0) [] := ⟨none, 0, rfl, Nat.le_refl _, by unfold maxLen; omega, Rd.nil _ _ _ _⟩
end
/-- an argument's slice: it lies below block B -/
def RdB (w : World) (B sz n : Nat) (A : Option Addr) (xs : List Value) : Prop :=
  xs.length = n * sz ∧ (0 < n → ∃ gb off, A = some ⟨gb, off, none⟩ ∧ gb < B ∧ ∀ j u, xs[j]? = some u → w.cell? ⟨gb, off + j, none⟩ = some u)
section
variable {w w' : World} {B sz n : Nat} {A : Option Addr} {xs : List Value}
theorem RdB.at_ (h : RdB w B sz n A xs) (hn : 0 < n) : ∃ gb off, A = some ⟨gb, off, none⟩ ∧ gb < B ∧ ∀ j u, xs[j]? = some u → w.cell? ⟨gb, off + j, none⟩ = some u := h.2 hn
theorem RdB.below (h : RdB w B sz n A xs) (hb : Below B w w') : RdB w' B sz n A xs :=
  ⟨h.1, fun hn => by
    obtain ⟨gb, off, e, hB, hc⟩ := h.2 hn
    exact ⟨gb, off, e, hB, fun j u hj => (hb.cell (p := ⟨gb, off + j, none⟩) hB).trans (hc j u hj)⟩⟩
end
end Go.Proofs.Ytgfoobgkpnknmaa
