/- The client's table as an object: what Step's loop keeps. -/
import Derived.Test.YtgfoobgkpnknmaaC6
import Derived.Test.YtgfoobgkpnknmaaM6
import Derived.Deep.LoopGhost
namespace Go.Proofs.Ytgfoobgkpnknmaa
set_option linter.unusedSimpArgs false
set_option linter.unusedVariables false
open Go.RowKit
theorem e77i : ElemInfo Try.prog 77 4 48 (.agg #[.int .i64 0, .bool false, .string ⟨#[]⟩, .string ⟨#[]⟩]) := ElemInfo.mk' (by kernel_rfl)
def dcell (d : DD) : List Value := [.int .i64 d.id, .bool d.over, .string d.to, .string d.bs]
theorem dcell_len (d : DD) : (dcell d).length = 4 := rfl
theorem dcell_one (d : DD) : ∀ u ∈ dcell d, u.oneCell' = true := by
  intro u hu
  simp [dcell] at hu
  rcases hu with rfl | rfl | rfl | rfl <;> rfl
def cTT (cs : List CC) : TM := match cTop cs with
  | some (_, c) => (cAt c, c.id)
  | none => (0, 0)
theorem tt_some {cs : List CC} {k : Nat} {c : CC} (h : cTop cs = some (k, c)) : cTT cs = (cAt c, c.id) := by unfold cTT; rw [h]
theorem Cl.next {w : World} {p : Nat} {most last : Int} {cs : List CC} {F : Nat → Prop} (H : Cl w p most last cs F) :
    ∃ pw l FW, Wh w pw l FW ∧ w.cell? ⟨p, 4, none⟩ = some (.pointer (some ⟨pw, 0, none⟩)) ∧ rTop l = cTT cs ∧ (!l.isEmpty) = (cTop cs).isSome := by
  obtain ⟨xs, l, bn, bc, pw, kn, kc, FW, rfl, H, P⟩ := H
  refine ⟨pw, l, FW, H.wh, H.top.cell 4, ?_⟩
  have hso : l.Pairwise ah := by obtain ⟨_, _, _, _, h⟩ := H.wh; exact h.so
  cases hl : l with
  | nil =>
    have h0 := P.len_l
    rw [hl] at h0
    have : xs.map (·.2) = [] := List.eq_nil_of_length_eq_zero h0.symm
    rw [this]
    exact ⟨rfl, rfl⟩
  | cons t r =>
    obtain ⟨k, c, h1, h2, h3⟩ := P.top hso hl
    rw [tt_some h1, h1]
    exact ⟨h3, rfl⟩
theorem Cl.made {w : World} {p : Nat} {most last : Int} {cs : List CC} {F : Nat → Prop} (H : Cl w p most last cs F) :
    Calls Try.prog 62 #[.pointer (some ⟨p, 0, none⟩)] w fun e w' => e = .returned (.bool true) ∧ w = w' := by
  obtain ⟨xs, l, bn, bc, pw, kn, kc, FW, rfl, H, P⟩ := H
  exact cmade_any H.top
def CStepPost (w : World) (p : Nat) (most last : Int) (cs : List CC) (now : Int) (F : Nat → Prop) (e : Ending) (w' : World) : Prop :=
  ∃ v F', e = .returned v ∧ w'.ownsRow w.heap.size 77 4 v (cStep cs now).2.length (rows dcell (cStep cs now).2) ∧ Cl w' p most last (cStep cs now).1 F' ∧ Fr F w w' ∧ Ext F F' w
/-- a state of the loop -/
structure CSt (w : World) (p : Nat) (most last : Int) (F : Nat → Prop) (cs : List CC) (o : List DD) (F' : Nat → Prop) (v : Value) (wr : World) : Prop where
  own : wr.ownsRow w.heap.size 77 4 v o.length (rows dcell o)
  cl : Cl wr p most last cs F'
  fr : Fr F w wr
  ex : Ext F F' w
section
variable {w wr w1 : World} {p : Nat} {most last : Int} {F F' F2 G : Nat → Prop} {cs cs2 : List CC} {o : List DD} {v v' : Value}
theorem CSt.nown (H : CSt w p most last F cs o F' v wr) {k : Nat} (hk : v.ownBlock = some k) : ¬ F' k ∧ w.heap.size ≤ k := by
  refine ⟨?_, (H.own.lt k hk).1⟩
  rcases H.own.2 with ⟨e, _⟩ | ⟨gb, cap, cur, e, _, hb, _⟩
  · rw [e] at hk; cases hk
  · rw [e] at hk
    have : gb = k := by simpa [Value.ownBlock] using hk
    subst this
    exact H.cl.notT hb (by decide) (by decide) (by decide) (by decide) (by decide)
theorem CSt.frG (H : CSt w p most last F cs o F' v wr) (hf : Fr G wr w1) (h1 : ∀ k, F' k → ¬ G k) (h2 : ∀ k, v.ownBlock = some k → ¬ G k) (h3 : ∀ k, G k → w.heap.size ≤ k) : CSt w p most last F cs o F' v w1 :=
  ⟨own_fr H.own hf h2, H.cl.fr hf h1, H.fr.trans hf fun k hk q => absurd (h3 k q) (by omega), H.ex⟩
theorem CSt.below (H : CSt w p most last F cs o F' v wr) (hb : Below wr.heap.size wr w1) : CSt w p most last F cs o F' v w1 :=
  H.frG (Fr.of_below (F := fun _ => False) hb) (fun _ _ h => h) (fun _ _ h => h) (fun _ h => h.elim)
theorem CSt.app (H : CSt w p most last F cs o F' v wr) {d : DD} (ho : w1.ownsRow w.heap.size 77 4 v' (o.length + 1) (rows dcell o ++ dcell d)) (hg : wr.grownBy w1 v.ownBlock) : CSt w p most last F cs (o ++ [d]) F' v' w1 := by
  have hf : Fr (fun k => v.ownBlock = some k) wr w1 := Fr.of_grown hg fun k h => h
  refine ⟨?_, H.cl.fr hf fun k hk e => (H.nown e).1 hk, H.fr.trans hf fun k hk q => absurd (H.nown q).2 (by omega), H.ex⟩
  rw [rows_snoc, List.length_append, List.length_singleton]; exact ho
theorem CSt.step (H : CSt w p most last F cs o F' v wr) (hf : Fr F' wr w1) (hx : Ext F' F2 wr) (hc : Cl w1 p most last cs2 F2) : CSt w p most last F cs2 o F2 v w1 :=
  ⟨own_fr H.own hf fun k hk q => (H.nown hk).1 q, hc, H.fr.ext hf H.ex, H.ex.trans hx H.fr.size⟩
theorem CSt.keepB (H : CSt w p most last F cs o F' v wr) (hf : Fr F' wr w1) {b : Nat} {ds : Array Value} (hb : Blk wr b 36 ds) : Blk w1 b 36 ds :=
  hb.fr hf (H.cl.notT hb (by decide) (by decide) (by decide) (by decide) (by decide))
theorem CSt.keepG (H : CSt w p most last F cs o F' v wr) (hg : wr.grownBy w1 v.ownBlock) {b : Nat} {ds : Array Value} (hb : Blk wr b 36 ds) : Blk w1 b 36 ds :=
  (hg.block b hb.lt fun e => own_blk_ne H.own hb (by decide) e.symm).trans hb
end
def CStepRel (p : Nat) (most last : Int) (cs0 : List CC) (now : Int) (F : Nat → Prop) (w : World) (gk : Nat) (v t ok : Value) (wr : World) : Prop :=
  ∃ (cs : List CC) (o : List DD) (tb : Nat) (F' : Nat → Prop), cRun gk cs now o = cStep cs0 now ∧ cMs cs ≤ gk ∧ o.length + gk ≤ 100000 ∧ t = .pointer (some ⟨tb, 0, none⟩) ∧ ok = .bool (cTop cs).isSome ∧
    Blk wr tb 36 #[.int .i64 (cTT cs).1, .int .i64 (cTT cs).2] ∧ w.heap.size ≤ tb ∧ CSt w p most last F cs o F' v wr
/-- what a transaction that is due may do: it is dropped -/
theorem after_drop {cs : List CC} {k : Nat} {c : CC} (h : ¬ (c.rest < 0 ∧ cNx c.tm < 320)) : cAfter cs k c = cs.eraseIdx k := by unfold cAfter; rw [if_neg h]
theorem after_set {cs : List CC} {k : Nat} {c : CC} (h : c.rest < 0 ∧ cNx c.tm < 320) : cAfter cs k c = cs.set k { c with tm := c.tm + 1 } := by unfold cAfter; rw [if_pos h]
end Go.Proofs.Ytgfoobgkpnknmaa
