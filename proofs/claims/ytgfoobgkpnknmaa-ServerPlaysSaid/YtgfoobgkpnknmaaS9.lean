/- The laws of the server: a call as an argument. -/
import Derived.Test.YtgfoobgkpnknmaaK4
namespace Go.Proofs.Ytgfoobgkpnknmaa
set_option linter.unusedSimpArgs false
set_option linter.unusedVariables false
open Go.ChangeShapes Go.WideShapes Go.ChangeAt Go.RowKit Go.Deep
set_option maxRecDepth 100000 in
theorem arg_sact {H : Type} {enc : TypeId × Value → H} {W : World} {base : Nat} {v : Value} {d : DataW H} {ps : List MemPlace}
    (hv : Value.okWide Try.prog W .any base 110 v) (h : DataW.Trod enc Try.prog W 0 (fun _ => true) true 110 v d ps) :
    ∃ (kd : Int) (br : ByteArray) (by_ : ByteArray) (me : ByteArray) (id : Int) (now : Int) (tx : ByteArray), v = .agg #[.int .i64 kd, .string br, .string by_, .string me, .int .i64 id, .int .i64 now, .string tx] := by
  obtain ⟨l, rfl, hl, hf⟩ := arg_agg Try.underlying110 (by kernel_rfl) (by kernel_rfl) hv h
  match l, hl with
  | [c0, c1, c2, c3, c4, c5, c6], _ =>
    obtain ⟨u0, e0, f0⟩ := hf 0 _ rfl
    obtain ⟨u1, e1, f1⟩ := hf 1 _ rfl
    obtain ⟨u2, e2, f2⟩ := hf 2 _ rfl
    obtain ⟨u3, e3, f3⟩ := hf 3 _ rfl
    obtain ⟨u4, e4, f4⟩ := hf 4 _ rfl
    obtain ⟨u5, e5, f5⟩ := hf 5 _ rfl
    obtain ⟨u6, e6, f6⟩ := hf 6 _ rfl
    injection e0 with e0
    injection e1 with e1
    injection e2 with e2
    injection e3 with e3
    injection e4 with e4
    injection e5 with e5
    injection e6 with e6
    subst e0 e1 e2 e3 e4 e5 e6
    obtain ⟨z0, rfl⟩ := f0.int Try.underlying3
    obtain ⟨z1, rfl⟩ := f1.str Try.underlying9
    obtain ⟨z2, rfl⟩ := f2.str Try.underlying9
    obtain ⟨z3, rfl⟩ := f3.str Try.underlying9
    obtain ⟨z4, rfl⟩ := f4.int Try.underlying3
    obtain ⟨z5, rfl⟩ := f5.int Try.underlying3
    obtain ⟨z6, rfl⟩ := f6.str Try.underlying9
    exact ⟨z0, z1, z2, z3, z4, z5, z6, rfl⟩
/-- a script of calls -/
def RowSA (w : World) (B n : Nat) (A : Option Addr) : Prop :=
  0 < n → ∃ (gb off : Nat), A = some ⟨gb, off, none⟩ ∧ gb < B ∧ ∀ i, i < n → ∃ (kd : Int) (br : ByteArray) (by_ : ByteArray) (me : ByteArray) (id : Int) (now : Int) (tx : ByteArray),
    w.cell? ⟨gb, off + i * 7, none⟩ = some (.int .i64 kd) ∧ w.cell? ⟨gb, off + i * 7 + 1, none⟩ = some (.string br) ∧ w.cell? ⟨gb, off + i * 7 + 2, none⟩ = some (.string by_) ∧ w.cell? ⟨gb, off + i * 7 + 3, none⟩ = some (.string me) ∧ w.cell? ⟨gb, off + i * 7 + 4, none⟩ = some (.int .i64 id) ∧ w.cell? ⟨gb, off + i * 7 + 5, none⟩ = some (.int .i64 now) ∧ w.cell? ⟨gb, off + i * 7 + 6, none⟩ = some (.string tx)
theorem RowSA.below {w w' : World} {B n : Nat} {A : Option Addr} (h : RowSA w B n A) (hb : Below B w w') : RowSA w' B n A := fun hn => by
  obtain ⟨gb, off, e, hB, hc⟩ := h hn
  refine ⟨gb, off, e, hB, fun i hi => ?_⟩
  obtain ⟨kd, br, by_, me, id, now, tx, c0, c1, c2, c3, c4, c5, c6⟩ := hc i hi
  have k : ∀ o v, w.cell? ⟨gb, o, none⟩ = some v → w'.cell? ⟨gb, o, none⟩ = some v := fun o v h => (hb.cell (p := ⟨gb, o, none⟩) hB).trans h
  exact ⟨kd, br, by_, me, id, now, tx, k _ _ c0, k _ _ c1, k _ _ c2, k _ _ c3, k _ _ c4, k _ _ c5, k _ _ c6⟩
set_option maxRecDepth 100000 in
theorem arg_sacts {H : Type} {enc : TypeId × Value → H} {W : World} {base : Nat} {v : Value} {d : DataW H} {ps : List MemPlace}
    (hv : Value.okWide Try.prog W .any base 108 v) (h : DataW.Trod enc Try.prog W 0 (fun _ => true) true 108 v d ps) :
    ∃ (A : Option Addr) (c n : Nat), v = .slice A n c ∧ n ≤ maxLen ∧ RowSA W W.heap.size n A := by
  obtain ⟨A, c, n, e, hn, hr⟩ := arg_rowsG Try.underlying108 Try.underlying110 (by kernel_rfl) (by kernel_rfl) (by decide) hv h
  refine ⟨A, c, n, e, hn, fun h0 => ?_⟩
  obtain ⟨gb, off, e, hB, hc⟩ := hr h0
  refine ⟨gb, off, e, hB, fun i hi => ?_⟩
  obtain ⟨u0, c0, f0⟩ := hc i 0 _ hi rfl
  obtain ⟨u1, c1, f1⟩ := hc i 1 _ hi rfl
  obtain ⟨u2, c2, f2⟩ := hc i 2 _ hi rfl
  obtain ⟨u3, c3, f3⟩ := hc i 3 _ hi rfl
  obtain ⟨u4, c4, f4⟩ := hc i 4 _ hi rfl
  obtain ⟨u5, c5, f5⟩ := hc i 5 _ hi rfl
  obtain ⟨u6, c6, f6⟩ := hc i 6 _ hi rfl
  obtain ⟨z0, rfl⟩ := f0.int Try.underlying3
  obtain ⟨z1, rfl⟩ := f1.str Try.underlying9
  obtain ⟨z2, rfl⟩ := f2.str Try.underlying9
  obtain ⟨z3, rfl⟩ := f3.str Try.underlying9
  obtain ⟨z4, rfl⟩ := f4.int Try.underlying3
  obtain ⟨z5, rfl⟩ := f5.int Try.underlying3
  obtain ⟨z6, rfl⟩ := f6.str Try.underlying9
  exact ⟨z0, z1, z2, z3, z4, z5, z6, c0, c1, c2, c3, c4, c5, c6⟩
end Go.Proofs.Ytgfoobgkpnknmaa
