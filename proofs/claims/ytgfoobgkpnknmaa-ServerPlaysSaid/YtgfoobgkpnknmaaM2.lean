/- Methods met through an interface value: what the program's tables answer. -/
import Derived.Test.YtgfoobgkpnknmaaM
namespace Go.Proofs.Ytgfoobgkpnknmaa
open Go.RowKit
section
variable {P : Program} {w : World}
/-- the row of a method -/
def MethRow (P : Program) (t : TypeId) (name : String) (f : FuncId) (b : Bool) : Prop :=
  ((P.info? t).bind (fun i => i.methods.find? (·.name == name))).map (fun m => (m.path, m.func)) = some (#[], some (f, b))
theorem MethRow.parts {t : TypeId} {name : String} {f : FuncId} {b : Bool} (h : MethRow P t name f b) :
    ∃ i m, P.info? t = some i ∧ i.methods.find? (·.name == name) = some m ∧ m.path = #[] ∧ m.func = some (f, b) := by
  unfold MethRow at h
  cases hi : P.info? t with
  | none => rw [hi] at h; cases h
  | some i =>
    rw [hi] at h
    cases hm : i.methods.find? (·.name == name) with
    | none => simp [hm] at h
    | some m =>
      simp [hm] at h
      exact ⟨i, m, rfl, hm, h.1, h.2⟩
theorem run_method_ptr {t te : TypeId} {name : String} {f : FuncId} (h : MethRow P t name f true) (ht : P.underlying t = some (.pointer te)) (a : Addr) (n : Nat) (hn : 0 < n) (w : World) :
    (method n t (.pointer (some a)) name).run P w = .ok (f, .pointer (some a)) w := by
  obtain ⟨i, m, h1, h2, h3, h4⟩ := h.parts
  obtain ⟨k, rfl⟩ : ∃ k, n = k + 1 := ⟨n - 1, by omega⟩
  simp [method, typeInfo, h1, h2, h3, h4, follow, receiverAt, run_underlying ht, Place.get]
theorem run_method_val {t te e : TypeId} {name : String} {f : FuncId} (h : MethRow P t name f false) (ht : P.underlying t = some (.pointer te)) (he : P.underlying te = some (.slice e)) (a : Addr) (n : Nat) (hn : 0 < n) (w : World) (v : Value) (hc : w.cell? a = some v) :
    (method n t (.pointer (some a)) name).run P w = .ok (f, v) w := by
  obtain ⟨i, m, h1, h2, h3, h4⟩ := h.parts
  obtain ⟨k, rfl⟩ : ∃ k, n = k + 1 := ⟨n - 1, by omega⟩
  have hs : ∀ nm : String, Builtin.ssaWrapNilChk_ #[t] t #[.pointer (some a), strVal "", strVal nm] = pure (.pointer (some a)) := fun _ => rfl
  simp [method, typeInfo, h1, h2, h3, h4, follow, receiverAt, run_underlying ht, Place.get, hs, asAddr, loadVar, isAgg, run_underlying he, go_sem, hc]
theorem run_typeAssert_same {t te x : TypeId} (ht : P.underlying t = some (.pointer te)) (v : Value) (W : World) : (Instr.typeAssert (.iface t v) x t false).run P W = .ok v W := by
  simp [Instr.typeAssert, run_underlying ht]
end
end Go.Proofs.Ytgfoobgkpnknmaa
