/- The laws of the client: a slice of bools as an argument. -/
import Derived.Test.YtgfoobgkpnknmaaF5
namespace Go.Proofs.Ytgfoobgkpnknmaa
set_option linter.unusedSimpArgs false
set_option linter.unusedVariables false
open Go.ChangeShapes Go.WideShapes Go.ChangeAt Go.RowKit Go.Deep
theorem arg_bools {H : Type} {enc : TypeId × Value → H} {P : Program} {W : World} {base : Nat} {t e : TypeId} (ht : P.underlying t = some (.slice e)) (he : P.underlying e = some .bool) (hC : P.cellsOf e = 1)
    {v : Value} {d : DataW H} {ps : List MemPlace} (hv : Value.okWide P W .any base t v) (h : DataW.Trod enc P W 0 (fun _ => true) true t v d ps) :
    ∃ (A : Option Addr) (c n : Nat) (f : Nat → Bool), v = .slice A n c ∧ n ≤ maxLen ∧ RowB W W.heap.size n A f := by
  obtain ⟨a0, len0, cap0, rfl⟩ := okWide_slice ht hv
  obtain ⟨fuel, hf⟩ := h
  rcases open_slice ht hf with ⟨hcs, _⟩ | ⟨a, len, cap, m, k, D, Pl, hcs, _, hl, hm, hmm, _, hi⟩
  · simp only [Value.cells] at hcs
    injection hcs with hcs _
    rw [hcs]
    exact ⟨none, 0, 0, fun _ => false, rfl, by simp, fun h => absurd h (by omega)⟩
  · simp only [Value.cells] at hcs
    injection hcs with hcs _
    rw [hcs]
    have hml : len ≤ m := by rw [hmm]; split <;> omega
    have hcell : ∀ i : Nat, ∃ b : Bool, i < len → W.cell? (a.add i) = some (.bool b) := fun i => by
      by_cases hil : i < len
      · obtain ⟨cs', hc, ht'⟩ := hi i (by omega)
        rw [hC, Nat.mul_one] at hc
        obtain ⟨_, hcl, hat⟩ := World.cells?_some hc
        obtain ⟨b, hb, _⟩ := DataW.trod_bool he ht'
        refine ⟨b, fun _ => ?_⟩
        have h0 := hat 0 (by omega)
        rw [show (a.add i).add 0 = a.add i from by unfold Addr.add; rfl] at h0
        rw [h0, hb]; rfl
      · exact ⟨false, fun h => absurd h hil⟩
    obtain ⟨f, hfn⟩ := Classical.axiomOfChoice hcell
    refine ⟨some a, cap, len, f, rfl, by omega, fun hn => ?_⟩
    have h0 := hfn 0 hn
    rw [show a.add 0 = a from by unfold Addr.add; rfl] at h0
    obtain ⟨ea, hlt⟩ := cell_addr h0
    refine ⟨a.block, a.off, by rw [← ea], hlt, fun i hil => ?_⟩
    have := hfn i hil
    rw [ea] at this
    rw [← this]
    congr 1
    unfold Addr.add
    by_cases e1 : i = 0 <;> simp [e1]
end Go.Proofs.Ytgfoobgkpnknmaa
