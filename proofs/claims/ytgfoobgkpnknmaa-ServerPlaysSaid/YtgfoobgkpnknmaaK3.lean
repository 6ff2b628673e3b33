/- Arguments that are slices of structs of ints: what a law's walk wants of them. -/
import Derived.Test.YtgfoobgkpnknmaaK2
import Derived.ChangeSame
namespace Go.Proofs.Ytgfoobgkpnknmaa
set_option linter.unusedSimpArgs false
set_option linter.unusedVariables false
open Go.ChangeShapes Go.WideShapes Go.ChangeAt Go.RowKit Go.Deep
def RowI (w : World) (B sz n : Nat) (A : Option Addr) : Prop :=
  0 < n → ∃ (gb off : Nat), A = some ⟨gb, off, none⟩ ∧ gb < B ∧ ∀ (i j : Nat), i < n → j < sz → ∃ z : Int, w.cell? ⟨gb, off + i * sz + j, none⟩ = some (.int .i64 z)
theorem RowI.below {w w' : World} {B sz n : Nat} {A : Option Addr} (h : RowI w B sz n A) (hb : Below B w w') : RowI w' B sz n A := fun hn => by
  obtain ⟨gb, off, e, hB, hc⟩ := h hn
  refine ⟨gb, off, e, hB, fun i j hi hj => ?_⟩
  obtain ⟨z, hz⟩ := hc i j hi hj
  exact ⟨z, (hb.cell (p := ⟨gb, off + i * sz + j, none⟩) hB).trans hz⟩
section
variable {H : Type} {enc : TypeId × Value → H} {P : Program} {W : World}
theorem arg_rows {base : Nat} {t e : TypeId} {fs : Array Field} (ht : P.underlying t = some (.slice e)) (he : P.underlying e = some (.struct fs)) (hone : oneCellFields P fs = true) (hC : P.cellsOf e = fs.size) (hs : 0 < fs.size)
    (hint : ∀ (i : Nat) (f : Field), fs[i]? = some f → P.underlying f.type = some (.int .i64)) {v : Value} {d : DataW H} {ps : List MemPlace}
    (hv : Value.okWide P W .any base t v) (h : DataW.Trod enc P W 0 (fun _ => true) true t v d ps) :
    ∃ (A : Option Addr) (c n : Nat), v = .slice A n c ∧ n ≤ maxLen ∧ RowI W W.heap.size fs.size n A := by
  obtain ⟨a0, len0, cap0, rfl⟩ := okWide_slice ht hv
  obtain ⟨fuel, hf⟩ := h
  rcases open_slice ht hf with ⟨hcs, _⟩ | ⟨a, len, cap, m, k, D, Pl, hcs, _, hl, hm, hmm, _, hi⟩
  · simp only [Value.cells] at hcs
    injection hcs with hcs _
    rw [hcs]
    exact ⟨none, 0, 0, rfl, by simp, fun h => absurd h (by omega)⟩
  · simp only [Value.cells] at hcs
    injection hcs with hcs _
    rw [hcs]
    have hml : len ≤ m := by rw [hmm]; split <;> omega
    have hcell : ∀ (i j : Nat), i < len → j < fs.size → ∃ z : Int, W.cell? ((a.add (i * fs.size)).add j) = some (.int .i64 z) := fun i j hil hjl => by
      obtain ⟨cs', hc, ht'⟩ := hi i (by omega)
      rw [hC] at hc
      obtain ⟨ys, n', hn', hy, hlen, hyl, hff⟩ := DataW.trod_struct he ht'
      obtain ⟨_, hcl, hat⟩ := World.cells?_some hc
      have hjf : fs[j]? = some (fs[j]'hjl) := Array.getElem?_eq_getElem hjl
      obtain ⟨ho, hk⟩ := hone_of hone j _ hjf
      have hv : cs'[j]? = some (cs'[j]'(by omega)) := List.getElem?_eq_getElem (by omega)
      have h1 := hff j _ hjf
      rw [ho, hk] at h1
      have hone' : (cs'.drop j).take 1 = [cs'[j]'(by omega)] := by
        rw [List.drop_eq_getElem_cons (by omega)]
        rfl
      rw [hone'] at h1
      have hys : ys[j]? = some (ys[j]'(by omega)) := List.getElem?_eq_getElem (by omega)
      obtain ⟨z, hz, _, _⟩ := DataW.trod_int (hint j _ hjf) (h1.trans hys)
      injection hz with hz _
      exact ⟨z, by rw [hat j hjl, hv, hz]⟩
    refine ⟨some a, cap, len, rfl, by omega, fun hn => ?_⟩
    obtain ⟨z0, h0⟩ := hcell 0 0 hn hs
    rw [Nat.zero_mul, show (a.add 0).add 0 = a from by unfold Addr.add; rfl] at h0
    obtain ⟨ea, hlt⟩ := cell_addr h0
    refine ⟨a.block, a.off, by rw [← ea], hlt, fun i j hil hjl => ?_⟩
    obtain ⟨z, hz⟩ := hcell i j hil hjl
    refine ⟨z, ?_⟩
    rw [← hz]
    congr 1
    rw [ea]
    unfold Addr.add
    by_cases e1 : i * fs.size = 0 <;> by_cases e2 : j = 0 <;> simp [e1, e2]
end
end Go.Proofs.Ytgfoobgkpnknmaa
