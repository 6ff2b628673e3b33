/- The wheel's heap in memory, and what its methods Len, Less, Swap, Push, Pop do. -/
import Derived.Test.YtgfoobgkpnknmaaProg
import Derived.Test.YtgfoobgkpnknmaaM
import Derived.Test.YtgfoobgkpnknmaaH
import Derived.BigQuiet
import Derived.Deep.QuietTactic
import Derived.RegionTactic
import Derived.BigRegion
import Derived.ChangeAlike
namespace Go.Proofs.Ytgfoobgkpnknmaa
set_option linter.unusedSimpArgs false
set_option linter.unusedVariables false
open Go.RowKit
def ptr (b : Nat) : Value := .pointer (some ⟨b, 0, none⟩)
def lsB (a b : TM) : Bool := decide (ah a b)

theorem lsB_lt {a1 i1 a2 i2 : Int} (h : a1 ≠ a2) : decide (a1 < a2) = lsB (a1, i1) (a2, i2) := by exact decide_eq_decide.2 ⟨fun q => .inl q, fun q => q.elim id fun q => absurd q.1 h⟩
theorem lsB_eq {a i1 i2 : Int} : decide (i1 < i2) = lsB (a, i1) (a, i2) := by unfold lsB ah; rw [Bool.eq_iff_iff]; simp

set_option maxHeartbeats 400000 in
theorem less_any (g n cap i j bi bj : Nat) (ai ii aj ij : Int) (w : World) (hi : i < n) (hj : j < n) (hn : n ≤ 9223372036854775807)
    (c1 : w.cell? ⟨g, i, none⟩ = some (.pointer (some ⟨bi, 0, none⟩))) (c2 : w.cell? ⟨g, j, none⟩ = some (.pointer (some ⟨bj, 0, none⟩)))
    (d1 : w.cell? ⟨bi, 0, none⟩ = some (.int .i64 ai)) (d2 : w.cell? ⟨bi, 1, none⟩ = some (.int .i64 ii))
    (e1 : w.cell? ⟨bj, 0, none⟩ = some (.int .i64 aj)) (e2 : w.cell? ⟨bj, 1, none⟩ = some (.int .i64 ij)) :
    Calls Try.prog 120 #[.slice (some ⟨g, 0, none⟩) n cap, .int .i64 i, .int .i64 j] w fun e w' => e = .returned (.bool (lsB (ai, ii) (aj, ij))) ∧ ∃ k, w' = w.drewN k := by
  have hi0 : (0 : Int) ≤ i := by omega
  have hj0 : (0 : Int) ≤ j := by omega
  have hi1 : (i : Int) < n := by omega
  have hj1 : (j : Int) < n := by omega
  by_cases h : ai = aj
  · subst h
    have hb : (ai != ai) = false := by simp
    go_enter Try.func120, Try.ntmps120
    go_wp2
    go_quiet (fail)
    go_wp2
    go_quiet (fail)
    go_wp2
    go_ret
    exact ⟨ret_bool lsB_eq, _, World.drewN_drewN _ _ _⟩
  · have hb : (ai != aj) = true := by simpa using h
    have H := Lib.hid h
    clear h
    go_enter Try.func120, Try.ntmps120
    go_wp2
    go_quiet (fail)
    go_wp2
    go_quiet (fail)
    go_wp2
    go_ret
    exact ⟨ret_bool (lsB_lt H.out), _, World.drewN_drewN _ _ _⟩

set_option maxHeartbeats 1000000 in
theorem swap_any (g n cap i j bi bj : Nat) (vi vj : Value) (w : World) (hi : i < n) (hj : j < n) (hij : i ≠ j) (hb : bi ≠ bj) (hgi : g ≠ bi) (hgj : g ≠ bj) (hn : n ≤ 9223372036854775807)
    (c1 : w.cell? ⟨g, i, none⟩ = some (.pointer (some ⟨bi, 0, none⟩))) (c2 : w.cell? ⟨g, j, none⟩ = some (.pointer (some ⟨bj, 0, none⟩)))
    (f1 : w.frozen? ⟨g, i, none⟩ = false) (f2 : w.frozen? ⟨g, j, none⟩ = false)
    (d1 : w.cell? ⟨bi, 2, none⟩ = some vi) (e1 : w.cell? ⟨bj, 2, none⟩ = some vj) (f3 : w.frozen? ⟨bi, 2, none⟩ = false) (f4 : w.frozen? ⟨bj, 2, none⟩ = false) :
    Calls Try.prog 121 #[.slice (some ⟨g, 0, none⟩) n cap, .int .i64 i, .int .i64 j] w fun e w' => e = .returned (.tuple #[]) ∧
      (w'.Alike ((((w.setCell ⟨g, i, none⟩ (.pointer (some ⟨bj, 0, none⟩))).setCell ⟨g, j, none⟩ (.pointer (some ⟨bi, 0, none⟩))).setCell ⟨bj, 2, none⟩ (.int .i64 i)).setCell ⟨bi, 2, none⟩ (.int .i64 j)) ∧ w'.tape = w.tape) := by
  have hi0 : (0 : Int) ≤ i := by omega
  have hj0 : (0 : Int) ≤ j := by omega
  have hi1 : (i : Int) < n := by omega
  have hj1 : (j : Int) < n := by omega
  go_enter Try.func121, Try.ntmps121
  go_wp2
  go_region
  go_wp2
  go_region
  all_goals (go_end0; exact ⟨rfl, ⟨rfl, rfl, rfl⟩, rfl⟩)

/-- the wheel's heap in memory: block p is the wheel, bm its map, hv its slice of items -/
structure Hp (w : World) (p bm : Nat) (hv : Value) (xs : List X) : Prop where
  top : Blk w p 63 #[hv, .map (some bm)]
  row : w.ownsRow 0 130 1 hv xs.length (xs.map fun x => ptr x.1)
  its : ∀ (i : Nat) (x : X), xs[i]? = some x → Blk w x.1 133 #[.int .i64 x.2.1, .int .i64 x.2.2, .int .i64 i]
  nd : (xs.map (·.1)).Nodup
def Foot (hv : Value) (xs : List X) (k : Nat) : Prop := hv.ownBlock = some k ∨ k ∈ xs.map (·.1)
theorem Foot.perm {hv : Value} {xs ys : List X} (h : ys.Perm xs) (k : Nat) : Foot hv ys k → Foot hv xs k
  | .inl e => .inl e
  | .inr e => .inr (((h.map _).mem_iff).1 e)
section
variable {w w' : World} {p bm : Nat} {hv : Value} {xs : List X}
theorem Hp.it (H : Hp w p bm hv xs) {i : Nat} (hi : i < xs.length) : Blk w (g xs i).1 133 #[.int .i64 (g xs i).2.1, .int .i64 (g xs i).2.2, .int .i64 i] := by
  have := H.its i xs[i] (List.getElem?_eq_getElem hi)
  rwa [← g_at hi] at this
theorem Hp.ne {i j : Nat} (H : Hp w p bm hv xs) (hi : i < xs.length) (hj : j < xs.length) (hij : i ≠ j) : (g xs i).1 ≠ (g xs j).1 := by
  rw [g_at hi, g_at hj]
  intro e
  have hn := List.pairwise_iff_getElem.1 (List.nodup_iff_pairwise_ne.1 H.nd)
  rcases Nat.lt_or_gt_of_ne hij with h | h
  · exact hn i j (by simpa using hi) (by simpa using hj) h (by simpa using e)
  · exact hn j i (by simpa using hj) (by simpa using hi) h (by simpa using e.symm)
theorem Hp.form (H : Hp w p bm hv xs) (h : 0 < xs.length) : ∃ gb cap, hv = .slice (some ⟨gb, 0, none⟩) xs.length cap ∧ cap ≤ maxLen ∧ xs.length ≤ cap := by
  rcases H.row.2 with ⟨_, h0⟩ | ⟨gb, cap, cur, e, _, _, h1, h2, _⟩
  · omega
  · exact ⟨gb, cap, e, h2, h1⟩
theorem Hp.rowcell (H : Hp w p bm hv xs) {gb cap i : Nat} (e : hv = .slice (some ⟨gb, 0, none⟩) xs.length cap) (hi : i < xs.length) : w.cell? ⟨gb, i, none⟩ = some (.pointer (some ⟨(g xs i).1, 0, none⟩)) := by
  have := World.ownsRow.cellAt (e ▸ H.row) i (by omega)
  rw [this, List.getElem?_map, List.getElem?_eq_getElem hi, g_at hi]
  rfl
theorem Hp.drewN (H : Hp w p bm hv xs) (n : Nat) : Hp (w.drewN n) p bm hv xs := ⟨H.top, H.row, H.its, H.nd⟩
theorem Hp.fr {F : Nat → Prop} (H : Hp w p bm hv xs) (hb : Fr F w w') (h1 : ¬ F p) (h2 : ∀ k, Foot hv xs k → ¬ F k) : Hp w' p bm hv xs :=
  ⟨H.top.fr hb h1, own_fr H.row hb fun k hk => h2 k (.inl hk), fun i x hx => (H.its i x hx).fr hb (h2 _ (.inr (List.mem_map.2 ⟨x, List.mem_of_getElem? hx, rfl⟩))), H.nd⟩

theorem hless {i j : Nat} (H : Hp w p bm hv xs) (hi : i < xs.length) (hj : j < xs.length) :
    Calls Try.prog 120 #[hv, .int .i64 i, .int .i64 j] w fun e w' => e = .returned (.bool (lsB (g xs i).2 (g xs j).2)) ∧ ∃ k, w' = w.drewN k := by
  obtain ⟨gb, cap, e, hcap, hlen⟩ := H.form (by omega)
  have hml : xs.length ≤ 9223372036854775807 := by unfold maxLen at hcap; omega
  have hi' := H.it hi
  have hj' := H.it hj
  have r1 := H.rowcell e hi
  have r2 := H.rowcell e hj
  subst e
  exact less_any gb xs.length cap i j _ _ _ _ _ _ w hi hj hml r1 r2 (hi'.cell 0) (hi'.cell 1) (hj'.cell 0) (hj'.cell 1)

theorem hswap {i j : Nat} (H : Hp w p bm hv xs) (hi : i < xs.length) (hj : j < xs.length) (hij : i ≠ j) :
    Calls Try.prog 121 #[hv, .int .i64 i, .int .i64 j] w fun e w' => e = .returned (.tuple #[]) ∧ Hp w' p bm hv (swapL xs i j) ∧ Fr (Foot hv xs) w w' := by
  obtain ⟨gb, cap, e, hcap, hlen⟩ := H.form (by omega)
  have hml : xs.length ≤ 9223372036854775807 := by unfold maxLen at hcap; omega
  have hi' := H.it hi
  have hj' := H.it hj
  have r1 := H.rowcell e hi
  have r2 := H.rowcell e hj
  have hne := H.ne hi hj hij
  have fi : (g xs i).1 ∈ xs.map (·.1) := List.mem_map.2 ⟨g xs i, by rw [g_at hi]; exact List.getElem_mem hi, rfl⟩
  have fj : (g xs j).1 ∈ xs.map (·.1) := List.mem_map.2 ⟨g xs j, by rw [g_at hj]; exact List.getElem_mem hj, rfl⟩
  subst e
  have ng : ∀ {b : Nat} {cs : Array Value}, Blk w b 133 cs → gb ≠ b := fun hb e => own_blk_ne H.row hb (by decide) (by rw [e]; rfl)
  have np : ∀ {b : Nat} {cs : Array Value}, Blk w b 133 cs → p ≠ b := fun hb => Blk.ne_ H.top hb (by decide)
  have npg : p ≠ gb := fun e => own_blk_ne H.row H.top (by decide) (by rw [e]; rfl)
  refine (swap_any gb xs.length cap i j _ _ _ _ w hi hj hij hne (ng hi') (ng hj') hml r1 r2 (World.ownsRow.frozenAt H.row i) (World.ownsRow.frozenAt H.row j) (hi'.cell 2) (hj'.cell 2) (hi'.frozen 2) (hj'.frozen 2)).mono fun e w' ⟨he, ha, ht⟩ => ⟨he, ?_, ?_⟩
  · have row1 := (World.ownsRow.stored H.row i (.pointer (some ⟨(g xs j).1, 0, none⟩))).1
    have row2 := (World.ownsRow.stored (n := xs.length) row1 j (.pointer (some ⟨(g xs i).1, 0, none⟩))).1
    have row3 := own_fr row2 ((Fr.refl (fun k => k = (g xs j).1) _).set (p := ⟨(g xs j).1, 2, none⟩) (fun _ => rfl) (.int .i64 i)) (fun k hk e => by simp [Value.ownBlock] at hk; exact ng hj' (hk.trans e))
    have row4 := own_fr row3 ((Fr.refl (fun k => k = (g xs i).1) _).set (p := ⟨(g xs i).1, 2, none⟩) (fun _ => rfl) (.int .i64 j)) (fun k hk e => by simp [Value.ownBlock] at hk; exact ng hi' (hk.trans e))
    refine ⟨?_, ?_, ?_, ?_⟩
    · exact ((((H.top.far (p := ⟨gb, i, none⟩) npg _).far (p := ⟨gb, j, none⟩) npg _).far (p := ⟨(g xs j).1, 2, none⟩) (np hj') _).far (p := ⟨(g xs i).1, 2, none⟩) (np hi') _).alike ha
    · have := own_alike row4 ha
      rw [swap_len]
      have e : (swapL xs i j).map (fun x => ptr x.1) = ((xs.map fun x => ptr x.1).set i (.pointer (some ⟨(g xs j).1, 0, none⟩))).set j (.pointer (some ⟨(g xs i).1, 0, none⟩)) := by
        simp [swapL, List.map_set, ptr]
      rw [e]; exact this
    · intro k x hx
      refine Blk.alike ?_ ha
      have hk : k < xs.length := by have := (List.getElem?_eq_some_iff.1 hx).1; rwa [swap_len] at this
      have hgx : x = g (swapL xs i j) k := by rw [g_at (by rw [swap_len]; exact hk)]; exact ((List.getElem?_eq_some_iff.1 hx).2).symm
      rw [g_swap xs hi hj] at hgx
      by_cases hkj : k = j
      · subst hkj
        rw [if_pos rfl] at hgx
        subst hgx
        exact (((hi'.far (p := ⟨gb, i, none⟩) (ng hi').symm _).far (p := ⟨gb, k, none⟩) (ng hi').symm _).far (p := ⟨(g xs k).1, 2, none⟩) hne _).set_ 2 _
      · rw [if_neg hkj] at hgx
        by_cases hki : k = i
        · subst hki
          rw [if_pos rfl] at hgx
          subst hgx
          exact (((hj'.far (p := ⟨gb, k, none⟩) (ng hj').symm _).far (p := ⟨gb, j, none⟩) (ng hj').symm _).set_ 2 _).far (p := ⟨(g xs k).1, 2, none⟩) hne.symm _
        · rw [if_neg hki] at hgx
          subst hgx
          have hk' := H.it hk
          exact (((hk'.far (p := ⟨gb, i, none⟩) (ng hk').symm _).far (p := ⟨gb, j, none⟩) (ng hk').symm _).far (p := ⟨(g xs j).1, 2, none⟩) (H.ne hk hj hkj) _).far (p := ⟨(g xs i).1, 2, none⟩) (H.ne hk hi hki) _
    · exact (((swap_perm xs hi hj).map _).nodup_iff).2 H.nd
  · refine Fr.alike ?_ ha ht
    exact ((((Fr.refl _ w).set (p := ⟨gb, i, none⟩) (fun _ => .inl rfl) _).set (p := ⟨gb, j, none⟩) (fun _ => .inl rfl) _).set (p := ⟨(g xs j).1, 2, none⟩) (fun _ => .inr fj) _).set (p := ⟨(g xs i).1, 2, none⟩) (fun _ => .inr fi) _
end
end Go.Proofs.Ytgfoobgkpnknmaa
