/- Arguments that are slices: what a law's walk wants of them. -/
import Derived.Test.YtgfoobgkpnknmaaK
import Derived.Test.YtgfoobgkpnknmaaM4
import Derived.Deep.Slices
import Derived.Deep.Fields
namespace Go.Proofs.Ytgfoobgkpnknmaa
open Go.ChangeShapes Go.WideShapes Go.ChangeAt Go.RowKit
theorem cell_addr {w : World} {a : Addr} {v : Value} (h : w.cell? a = some v) : a = ⟨a.block, a.off, none⟩ ∧ a.block < w.heap.size := by
  obtain ⟨b, o, s⟩ := a
  unfold World.cell? at h
  split at h
  · rename_i c _ _ hb
    refine ⟨?_, ?_⟩
    · cases s with
      | none => rfl
      | some x => simp at h
    · rcases Nat.lt_or_ge b w.heap.size with hlt | hge
      · exact hlt
      · rw [Array.getElem?_eq_none hge] at hb; cases hb
  · cases h
section
variable {H : Type} {enc : TypeId × Value → H} {P : Program} {W : World}
theorem arg_ints {base : Nat} {t e : TypeId} {k : IntKind} (ht : P.underlying t = some (.slice e)) (he : P.underlying e = some (.int k)) (hc : P.cellsOf e = 1) {v : Value} {d : DataW H} {ps : List MemPlace}
    (hv : Value.okWide P W .any base t v) (h : DataW.Trod enc P W 0 (fun _ => true) true t v d ps) :
    ∃ (A : Option Addr) (c : Nat) (zs : List Int), v = .slice A zs.length c ∧ zs.length ≤ maxLen ∧ RdB W W.heap.size 1 zs.length A (zs.map fun n => .int k n) ∧ ∀ n ∈ zs, (Lit.int k n).wf = true := by
  obtain ⟨a0, len0, cap0, rfl⟩ := okWide_slice ht hv
  obtain ⟨fuel, hf⟩ := h
  rcases open_ints ht he hc hf with ⟨hcs, _⟩ | ⟨a, len, cap, zs, hcs, _, hl, hm, hz, _, hcell, hwz⟩
  · simp only [Value.cells] at hcs
    injection hcs with hcs _
    rw [hcs]
    exact ⟨none, 0, [], rfl, by simp, ⟨rfl, fun h => absurd h (by simp)⟩, fun _ h => by cases h⟩
  · simp only [Value.cells] at hcs
    injection hcs with hcs _
    rw [hcs]
    rw [if_pos rfl] at hz
    have hlen : (zs.take len).length = len := by rw [List.length_take]; omega
    refine ⟨some a, cap, zs.take len, by rw [hlen], by rw [hlen]; omega, ⟨by simp, fun hn => ?_⟩, fun n hn => hwz n (List.mem_of_mem_take hn)⟩
    rw [hlen] at hn
    have h0 := hcell 0 (by omega)
    rw [show a.add 0 = a from by unfold Addr.add; rfl] at h0
    obtain ⟨ea, hlt⟩ := cell_addr h0
    refine ⟨a.block, a.off, by rw [← ea], hlt, fun j u hj => ?_⟩
    have hjl : j < len := by
      have := (List.getElem?_eq_some_iff.1 hj).1
      rw [List.length_map, hlen] at this; exact this
    have hc := hcell j (by omega)
    have e : a.add j = ⟨a.block, a.off + j, none⟩ := by
      rw [ea]; unfold Addr.add; by_cases hj0 : j = 0 <;> simp [hj0]
    rw [e] at hc
    rw [hc]
    rw [List.getElem?_map, List.getElem?_take, if_pos hjl] at hj
    rw [← hj]
    simp [List.getD, List.getElem?_eq_getElem (show j < zs.length by omega)]
end
end Go.Proofs.Ytgfoobgkpnknmaa
