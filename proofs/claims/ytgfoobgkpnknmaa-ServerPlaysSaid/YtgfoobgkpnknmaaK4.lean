/- Arguments that are structs, or slices of structs, of one-cell fields of any kind. -/
import Derived.Test.YtgfoobgkpnknmaaK3
namespace Go.Proofs.Ytgfoobgkpnknmaa
set_option linter.unusedSimpArgs false
set_option linter.unusedVariables false
open Go.ChangeShapes Go.WideShapes Go.ChangeAt Go.RowKit Go.Deep
section
variable {H : Type} {enc : TypeId × Value → H} {P : Program} {W : World}
theorem fld_int {b n : Nat} {sp : Nat → Bool} {hd : Bool} {t : TypeId} {k : IntKind} {u : Value} {y : DataW H × List MemPlace} (hu : P.underlying t = some (.int k)) (h : DataW.trod enc P W b sp hd n t [u] = some y) : ∃ z : Int, u = .int k z ∧ (Lit.int k z).wf = true := by
  obtain ⟨z, hz, _, hw⟩ := DataW.trod_int hu h
  injection hz with hz _
  exact ⟨z, hz, hw⟩
theorem fld_str {b n : Nat} {sp : Nat → Bool} {hd : Bool} {t : TypeId} {u : Value} {y : DataW H × List MemPlace} (hu : P.underlying t = some .string) (h : DataW.trod enc P W b sp hd n t [u] = some y) : ∃ s : ByteArray, u = .string s ∧ s.size ≤ maxLen := by
  obtain ⟨s, hz, _, hs⟩ := DataW.trod_string hu h
  injection hz with hz _
  exact ⟨s, hz, hs⟩
/-- a cell that holds what a field's type allows -/
def FldAt (enc : TypeId × Value → H) (P : Program) (W : World) (b : Nat) (sp : Nat → Bool) (hd : Bool) (t : TypeId) (u : Value) : Prop := ∃ n y, DataW.trod enc P W b sp hd n t [u] = some y
theorem FldAt.int {b : Nat} {sp : Nat → Bool} {hd : Bool} {t : TypeId} {k : IntKind} {u : Value} (h : FldAt enc P W b sp hd t u) (hu : P.underlying t = some (.int k)) : ∃ z : Int, u = .int k z := by
  obtain ⟨n, y, h⟩ := h
  obtain ⟨z, hz, _⟩ := fld_int hu h
  exact ⟨z, hz⟩
theorem FldAt.intw {b : Nat} {sp : Nat → Bool} {hd : Bool} {t : TypeId} {k : IntKind} {u : Value} (h : FldAt enc P W b sp hd t u) (hu : P.underlying t = some (.int k)) : ∃ z : Int, u = .int k z ∧ (Lit.int k z).wf = true := by
  obtain ⟨n, y, h⟩ := h
  exact fld_int hu h
theorem FldAt.str {b : Nat} {sp : Nat → Bool} {hd : Bool} {t : TypeId} {u : Value} (h : FldAt enc P W b sp hd t u) (hu : P.underlying t = some .string) : ∃ s : ByteArray, u = .string s := by
  obtain ⟨n, y, h⟩ := h
  obtain ⟨s, hs, _⟩ := fld_str hu h
  exact ⟨s, hs⟩
/-- a struct by value -/
theorem arg_agg {r : Reach} {b0 base : Nat} {sp : Nat → Bool} {hd : Bool} {t : TypeId} {fs : Array Field} {v : Value} {d : DataW H} {p : List MemPlace} (hs : P.underlying t = some (.struct fs)) (hone : oneCellFields P fs = true) (hC : P.cellsOf t = fs.size)
    (hv : Value.okWide P W r b0 t v) (h : DataW.Trod enc P W base sp hd t v d p) :
    ∃ l : List Value, v = .agg l.toArray ∧ l.length = fs.size ∧ ∀ (j : Nat) (f : Field), fs[j]? = some f → ∃ u, l[j]? = some u ∧ FldAt enc P W base sp hd f.type u := by
  obtain ⟨cs, rfl, hsz⟩ := okWide_struct hs hv
  obtain ⟨l⟩ := cs
  obtain ⟨fuel, hf⟩ := h
  obtain ⟨xs, n, _, hx, hl, hlen, hg⟩ := DataW.trod_struct hs hf
  have hll : l.length = fs.size := by have := hsz; simp at this; omega
  refine ⟨l, rfl, hll, fun j f hj => ?_⟩
  obtain ⟨ho, hk⟩ := hone_of hone j f hj
  have hjl : j < fs.size := (Array.getElem?_eq_some_iff.1 hj).1
  have h1 : DataW.trod enc P W base sp hd n f.type ((l.drop j).take 1) = xs[j]? := by simpa [Value.cells, ho, hk] using hg j f hj
  have hone' : (l.drop j).take 1 = [l[j]'(by omega)] := by
    rw [List.drop_eq_getElem_cons (by omega)]
    rfl
  rw [hone'] at h1
  have hys : xs[j]? = some (xs[j]'(by omega)) := List.getElem?_eq_getElem (by omega)
  exact ⟨_, List.getElem?_eq_getElem (by omega), n, _, h1.trans hys⟩
/-- a slice of structs: its cells, field by field -/
def RowG (enc : TypeId × Value → H) (P : Program) (w W : World) (fs : Array Field) (n : Nat) (A : Option Addr) : Prop :=
  0 < n → ∃ (gb off : Nat), A = some ⟨gb, off, none⟩ ∧ gb < W.heap.size ∧ ∀ (i j : Nat) (f : Field), i < n → fs[j]? = some f → ∃ u : Value, w.cell? ⟨gb, off + i * fs.size + j, none⟩ = some u ∧ FldAt enc P W 0 (fun _ => true) true f.type u
theorem arg_rowsG {base : Nat} {t e : TypeId} {fs : Array Field} (ht : P.underlying t = some (.slice e)) (he : P.underlying e = some (.struct fs)) (hone : oneCellFields P fs = true) (hC : P.cellsOf e = fs.size) (hs : 0 < fs.size)
    {v : Value} {d : DataW H} {ps : List MemPlace} (hv : Value.okWide P W .any base t v) (h : DataW.Trod enc P W 0 (fun _ => true) true t v d ps) :
    ∃ (A : Option Addr) (c n : Nat), v = .slice A n c ∧ n ≤ maxLen ∧ RowG enc P W W fs n A := by
  obtain ⟨a0, len0, cap0, rfl⟩ := okWide_slice ht hv
  obtain ⟨fuel, hf⟩ := h
  rcases open_slice ht hf with ⟨hcs, _⟩ | ⟨a, len, cap, m, k, D, Pl, hcs, _, hl, hm, hmm, _, hi⟩
  · simp only [Value.cells] at hcs
    injection hcs with hcs _
    rw [hcs]
    exact ⟨none, 0, 0, rfl, by simp, fun h => absurd h (by omega)⟩
  · simp only [Value.cells] at hcs
    injection hcs with hcs _
    rw [hcs]
    have hml : len ≤ m := by rw [hmm]; split <;> omega
    have hcell : ∀ (i j : Nat) (f : Field), i < len → fs[j]? = some f → ∃ u : Value, W.cell? ((a.add (i * fs.size)).add j) = some u ∧ FldAt enc P W 0 (fun _ => true) true f.type u := fun i j f hil hjf => by
      have hjl : j < fs.size := (Array.getElem?_eq_some_iff.1 hjf).1
      obtain ⟨cs', hc, ht'⟩ := hi i (by omega)
      rw [hC] at hc
      obtain ⟨ys, n', hn', hy, hlen, hyl, hff⟩ := DataW.trod_struct he ht'
      obtain ⟨_, hcl, hat⟩ := World.cells?_some hc
      obtain ⟨ho, hk⟩ := hone_of hone j _ hjf
      have hv : cs'[j]? = some (cs'[j]'(by omega)) := List.getElem?_eq_getElem (by omega)
      have h1 := hff j _ hjf
      rw [ho, hk] at h1
      have hone' : (cs'.drop j).take 1 = [cs'[j]'(by omega)] := by
        rw [List.drop_eq_getElem_cons (by omega)]
        rfl
      rw [hone'] at h1
      have hys : ys[j]? = some (ys[j]'(by omega)) := List.getElem?_eq_getElem (by omega)
      exact ⟨_, by rw [hat j hjl, hv], n', _, h1.trans hys⟩
    refine ⟨some a, cap, len, rfl, by omega, fun hn => ?_⟩
    obtain ⟨z0, h0, _⟩ := hcell 0 0 _ hn (Array.getElem?_eq_getElem hs)
    rw [Nat.zero_mul, show (a.add 0).add 0 = a from by unfold Addr.add; rfl] at h0
    obtain ⟨ea, hlt⟩ := cell_addr h0
    refine ⟨a.block, a.off, by rw [← ea], hlt, fun i j f hil hjf => ?_⟩
    obtain ⟨u, hu, hf⟩ := hcell i j f hil hjf
    refine ⟨u, ?_, hf⟩
    rw [← hu]
    congr 1
    rw [ea]
    unfold Addr.add
    by_cases e1 : i * fs.size = 0 <;> by_cases e2 : j = 0 <;> simp [e1, e2]
theorem RowG.below {w W w' : World} {fs : Array Field} {n : Nat} {A : Option Addr} (h : RowG enc P w W fs n A) (hb : Below W.heap.size w w') : RowG enc P w' W fs n A := fun hn => by
  obtain ⟨gb, off, e, hB, hc⟩ := h hn
  refine ⟨gb, off, e, hB, fun i j f hi hj => ?_⟩
  obtain ⟨z, hz, hf⟩ := hc i j f hi hj
  exact ⟨z, (hb.cell (p := ⟨gb, off + i * fs.size + j, none⟩) hB).trans hz, hf⟩
end
end Go.Proofs.Ytgfoobgkpnknmaa
