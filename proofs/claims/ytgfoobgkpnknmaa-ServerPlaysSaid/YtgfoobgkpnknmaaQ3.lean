/- The reference's table of the server: Expire. -/
import Derived.Test.YtgfoobgkpnknmaaQ2
namespace Go.Proofs.Ytgfoobgkpnknmaa
set_option linter.unusedSimpArgs false
set_option linter.unusedVariables false
open Go.RowKit
theorem keep_take {cs : List SC} {now : Int} {j : Nat} (hj : j < cs.length) (h : now < cs[j].over) : sKeep now (cs.take (j + 1)) = sKeep now (cs.take j) ++ [cs[j]] ∧ sGone now (cs.take (j + 1)) = sGone now (cs.take j) := by
  rw [List.take_succ_eq_append_getElem hj]
  unfold sKeep sGone
  rw [List.filter_append, List.filter_append, List.filter_cons_of_pos (by simpa using h), List.filter_cons_of_neg (by simp; omega)]
  simp
theorem gone_take {cs : List SC} {now : Int} {j : Nat} (hj : j < cs.length) (h : ¬ now < cs[j].over) : sKeep now (cs.take (j + 1)) = sKeep now (cs.take j) ∧ sGone now (cs.take (j + 1)) = sGone now (cs.take j) ++ [cs[j].id] := by
  rw [List.take_succ_eq_append_getElem hj]
  unfold sKeep sGone
  rw [List.filter_append, List.filter_append, List.filter_cons_of_neg (by simpa using h), List.filter_cons_of_pos (by simp; omega)]
  simp
structure RxAt (W : World) (cs : List SC) (now : Int) (j : Nat) (vl vg : Value) (wr : World) : Prop where
  l : wr.ownsRow W.heap.size 168 8 vl (sKeep now (cs.take j)).length (rows srcell (sKeep now (cs.take j)))
  g : wr.ownsRow W.heap.size 3 1 vg (sGone now (cs.take j)).length ((sGone now (cs.take j)).map (.int .i64))
  be : Below W.heap.size W wr
theorem rx_len (cs : List SC) (now : Int) (j : Nat) : (sKeep now (cs.take j)).length ≤ cs.length ∧ (sGone now (cs.take j)).length ≤ cs.length := by
  have h1 := List.length_filter_le (fun c : SC => decide (now < c.over)) (cs.take j)
  have h2 := List.length_filter_le (fun c : SC => decide (c.over ≤ now)) (cs.take j)
  have h3 := List.length_take_le j cs
  have h4 := List.length_take_le' j cs
  unfold sKeep sGone
  rw [List.length_map]
  omega
def RExpPost (w : World) (most last : Int) (cs : List SC) (now : Int) (e : Ending) (w' : World) : Prop :=
  ∃ v u, e = .returned (.tuple #[.agg #[.int .i64 most, .int .i64 last, v], u]) ∧ RdV w' 168 8 (sKeep now cs).length v (rows srcell (sKeep now cs)) ∧
    RdV w' 3 1 (sGone now cs).length u ((sGone now cs).map (.int .i64)) ∧ Below w.heap.size w w'
theorem own_ne {w : World} {b1 b2 : Nat} {e1 e2 : TypeId} {s1 s2 n1 n2 : Nat} {v1 v2 : Value} {x1 x2 : List Value} (h1 : w.ownsRow b1 e1 s1 v1 n1 x1) (h2 : w.ownsRow b2 e2 s2 v2 n2 x2) (hne : e1 ≠ e2) {k : Nat} (hk : v1.ownBlock = some k) : ¬ v2.ownBlock = some k := fun hk2 => by
  obtain ⟨c1, a1⟩ := own_ty h1 hk
  obtain ⟨c2, a2⟩ := own_ty h2 hk2
  rw [a1] at a2
  injection a2 with a2
  injection a2 with _ a2
  exact hne a2
theorem RxAt.keep {W wr w4 : World} {cs : List SC} {now : Int} {j : Nat} {vl vg v4 : Value} (H : RxAt W cs now j vl vg wr) (hj : j < cs.length) (h : now < cs[j].over) {o : Obj}
    (ho : w4.ownsRow W.heap.size 168 8 v4 ((sKeep now (cs.take j)).length + 1) (rows srcell (sKeep now (cs.take j)) ++ srcell cs[j])) (hb : Below W.heap.size wr w4) (hg : wr.grownBy w4 vl.ownBlock) : RxAt W cs now (j + 1) v4 vg w4 := by
  obtain ⟨e1, e2⟩ := keep_take hj h
  refine ⟨?_, ?_, H.be.trans hb⟩
  · rw [e1, rows_snoc, List.length_append]; exact ho
  · rw [e2]
    exact own_fr H.g (Fr.of_grown (F := fun k => vl.ownBlock = some k) hg (fun k e => e)) (fun k hk => own_ne H.g H.l (by decide) hk)
theorem RxAt.gone {W wr w4 : World} {cs : List SC} {now : Int} {j : Nat} {vl vg v4 : Value} (H : RxAt W cs now j vl vg wr) (hj : j < cs.length) (h : ¬ now < cs[j].over) {o : Obj}
    (ho : w4.ownsRow W.heap.size 3 1 v4 ((sGone now (cs.take j)).length + 1) ((sGone now (cs.take j)).map (.int .i64) ++ [.int .i64 cs[j].id])) (hb : Below W.heap.size wr w4) (hg : wr.grownBy w4 vg.ownBlock) : RxAt W cs now (j + 1) vl v4 w4 := by
  obtain ⟨e1, e2⟩ := gone_take hj h
  refine ⟨?_, ?_, H.be.trans hb⟩
  · rw [e1]
    exact own_fr H.l (Fr.of_grown (F := fun k => vg.ownBlock = some k) hg (fun k e => e)) (fun k hk => own_ne H.l H.g (by decide) hk)
  · rw [e2, List.map_append, List.length_append]; exact ho
set_option maxRecDepth 100000 in
set_option maxHeartbeats 4000000 in
theorem rexpire_any {w : World} {cs : List SC} {A : Option Addr} {c : Nat} (h : Rd w 168 8 cs.length A (rows srcell cs)) (hl : cs.length ≤ 1000000) (most last now : Int) :
    Calls Try.prog 73 #[.agg #[.int .i64 most, .int .i64 last, .slice A cs.length c], .int .i64 now] w (RExpPost w most last cs now) := by
  obtain ⟨W, hW⟩ : ∃ W, (w.alloc (.cells #[.int .i64 most, .int .i64 last, .slice A cs.length c] 117)).alloc (.cells #[.int .i64 0, .int .i64 0, .slice none 0 0] 117) = W := ⟨_, rfl⟩
  have hB : Below w.heap.size w W := hW ▸ ((Below.refl _ _).alloc (Nat.le_refl _) _).alloc (by simp) _
  have hs : W.heap.size = w.heap.size + 2 := by rw [← hW]; simp
  have hT : Blk W w.heap.size 117 #[.int .i64 most, .int .i64 last, .slice A cs.length c] := hW ▸ (Blk.new w 117 #[.int .i64 most, .int .i64 last, .slice A cs.length c]).alloc _
  have hR : Blk W (w.heap.size + 1) 117 #[.int .i64 0, .int .i64 0, .slice none 0 0] := hW ▸ Blk.new' (w.alloc (.cells #[.int .i64 most, .int .i64 last, .slice A cs.length c] 117)) _ _ (by simp)
  have HRD := Lib.hid (h.below hB)
  have HB := Lib.hid hB
  have HT := Lib.hid hT
  have HR := Lib.hid hR
  have HSZ := Lib.hid hs
  have HST : Hid (RxAt W cs now 0 (.slice none 0 0) (.slice none 0 0) W) := Lib.hid ⟨⟨rfl, .inl ⟨rfl, rfl⟩⟩, ⟨rfl, .inl ⟨rfl, rfl⟩⟩, Below.refl _ _⟩
  clear hB hT hR hs h
  go_enter Try.func73, Try.ntmps73
  go_wp2
  go_loopw [6, 7, 8] (fun vl vg i wr => ∃ j : Nat, j ≤ cs.length ∧ i = .int .i64 j ∧ RxAt W cs now j vl vg wr) (fun _ _ i _ => cs.length - (intOf i).toNat)
  case atStart => exact ⟨0, by omega, rfl, HST.out⟩
  case round =>
    obtain ⟨j, hj, rfl, hX⟩ := hrel
    have x0 : (0 : Int) ≤ j := by omega
    have hT1 := HT.out.fr (Fr.of_below (F := fun _ => False) hX.be) (fun h => h)
    have ht2 : wr.cell? ⟨w.heap.size, 2, none⟩ = some (.slice A cs.length c) := hT1.cell 2
    have hrl := rx_len cs now j
    obtain ⟨hr1, hr2⟩ := hrl
    have hwz := hX.be.size
    by_cases hlt : j < cs.length
    · have x1 : (j : Int) < cs.length := by omega
      obtain ⟨gb, off, rfl, hgl, hcj⟩ := rd_row srcell_len (HRD.out.below hX.be) hlt
      have c0 : wr.cell? ⟨gb, off + j * 8, none⟩ = some (.int .i64 cs[j].id) := hcj 0 (by omega)
      have c1 : wr.cell? ⟨gb, off + j * 8 + 1, none⟩ = some (.string cs[j].key.1) := hcj 1 (by omega)
      have c2 : wr.cell? ⟨gb, off + j * 8 + 2, none⟩ = some (.string cs[j].key.2.1) := hcj 2 (by omega)
      have c3 : wr.cell? ⟨gb, off + j * 8 + 3, none⟩ = some (.string cs[j].key.2.2) := hcj 3 (by omega)
      have c4 : wr.cell? ⟨gb, off + j * 8 + 4, none⟩ = some (.int .i64 cs[j].over) := hcj 4 (by omega)
      have c5 : wr.cell? ⟨gb, off + j * 8 + 5, none⟩ = some (.bool cs[j].told) := hcj 5 (by omega)
      have c6 : wr.cell? ⟨gb, off + j * 8 + 6, none⟩ = some (.string cs[j].to) := hcj 6 (by omega)
      have c7 : wr.cell? ⟨gb, off + j * 8 + 7, none⟩ = some (.string cs[j].bs) := hcj 7 (by omega)
      have HX := Lib.hid hX
      clear hcj hT1
      by_cases hn : now < cs[j].over
      · have z1 : decide (cs[j].over ≤ now) = false := decide_eq_false (by omega)
        have HO := Lib.hid hX.l
        have HEND : Hid (∀ v4 w4, w4.ownsRow W.heap.size 168 8 v4 ((sKeep now (cs.take j)).length + 1) (rows srcell (sKeep now (cs.take j)) ++ srcell cs[j]) → Below W.heap.size wr w4 → wr.grownBy w4 u6.ownBlock → RxAt W cs now (j + 1) v4 u7 w4) := Lib.hid (fun v4 w4 a b d => HX.out.keep (o := .map #[] 0) hlt hn a b d)
        clear hX
        go_wp2_with (at_builtin; go_must (refine wpList_app1' rfl (.tmp 33) (.tmp 39) 115 rfl W.heap.size 168 8 104 _ Try.underlying115 e168i rfl (by omega) _ _ _ rfl HO.out (srcell cs[j]) _ rfl (by rfl) rfl (srcell_one _) (by unfold maxLen; omega) (by omega) (by omega) ?_); intro v4 w4 hown4 hb4 hg4 hat4)
        have HN := Lib.hid (HEND.out v4 w4 hown4 hb4 hg4)
        clear hown4 hb4 hg4 hat4
        go_roundw
        case rel => exact ⟨j + 1, by omega, by go_num, HN.out⟩
        case measure => simp [intOf] <;> omega
      · have z1 : decide (cs[j].over ≤ now) = true := decide_eq_true (by omega)
        have HO := Lib.hid hX.g
        have HEND : Hid (∀ v4 w4, w4.ownsRow W.heap.size 3 1 v4 ((sGone now (cs.take j)).length + 1) ((sGone now (cs.take j)).map (.int .i64) ++ [.int .i64 cs[j].id]) → Below W.heap.size wr w4 → wr.grownBy w4 u7.ownBlock → RxAt W cs now (j + 1) u6 v4 w4) := Lib.hid (fun v4 w4 a b d => HX.out.gone (o := .map #[] 0) hlt hn a b d)
        clear hX
        go_wp2_with (at_builtin; go_must (refine wpList_app1' rfl (.tmp 24) (.tmp 31) 22 rfl W.heap.size 3 1 8 _ Try.underlying22 e3i rfl (by omega) _ _ _ rfl HO.out [.int .i64 cs[j].id] _ rfl (by rfl) rfl (by simp [Value.oneCell']) (by unfold maxLen; omega) (by omega) (by omega) ?_); intro v4 w4 hown4 hb4 hg4 hat4)
        have HN := Lib.hid (HEND.out v4 w4 hown4 hb4 hg4)
        clear hown4 hb4 hg4 hat4
        go_roundw
        case rel => exact ⟨j + 1, by omega, by go_num, HN.out⟩
        case measure => simp [intOf] <;> omega
    · obtain rfl : j = cs.length := by omega
      have hR1 := HR.out.fr (Fr.of_below (F := fun _ => False) hX.be) (fun h => h)
      have HR1 := Lib.hid hR1
      have HX := Lib.hid hX
      have t0 := hT1.cell 0
      have t1 := hT1.cell 1
      have r0 := hR1.cell 0
      have r1 := hR1.cell 1
      have r2 := hR1.cell 2
      have q0 := hR1.frozen 0
      have q1 := hR1.frozen 1
      have q2 := hR1.frozen 2
      clear hX hT1 hR1
      have hfs : Hid (∀ v, Fr (fun k => k = w.heap.size + 1) wr (((wr.setCell ⟨w.heap.size + 1, 0, none⟩ (.int .i64 most)).setCell ⟨w.heap.size + 1, 1, none⟩ (.int .i64 last)).setCell ⟨w.heap.size + 1, 2, none⟩ v)) :=
        Lib.hid fun v => (((Fr.refl (fun k => k = w.heap.size + 1) wr).set (p := ⟨w.heap.size + 1, 0, none⟩) (fun _ => rfl) _).set (p := ⟨w.heap.size + 1, 1, none⟩) (fun _ => rfl) _).set (p := ⟨w.heap.size + 1, 2, none⟩) (fun _ => rfl) _
      have HP : Hid (RExpPost w most last cs now (.returned (.tuple #[.agg #[.int .i64 most, .int .i64 last, u6], u7])) (((wr.setCell ⟨w.heap.size + 1, 0, none⟩ (.int .i64 most)).setCell ⟨w.heap.size + 1, 1, none⟩ (.int .i64 last)).setCell ⟨w.heap.size + 1, 2, none⟩ u6)) := Lib.hid (by
        have hl := HX.out.l
        have hg := HX.out.g
        rw [List.take_length] at hl hg
        have hsz := HSZ.out
        have hbs := HX.out.be.size
        refine ⟨u6, u7, rfl, RdV.of_own (own_fr hl (hfs.out u6) (fun k hk e => ?_)), RdV.of_own (own_fr hg (hfs.out u6) (fun k hk e => ?_)), (HB.out.trans (HX.out.be.mono HB.out.size)).trans ((hfs.out u6).to_below (by omega) (fun k e => by omega))⟩
        · have := (hl.lt k hk).1; omega
        · have := (hg.lt k hk).1; omega)
      obtain ⟨y0, y1, y2⟩ := HR1.out.three (.int .i64 most) (.int .i64 last) u6
      have HY := Lib.hid (And.intro y0 (And.intro y1 y2))
      obtain ⟨A6, n6, c6, e6⟩ : ∃ A6 n6 c6, u6 = .slice A6 n6 c6 := by
        obtain ⟨A6, c6, e6, _⟩ := RdV.of_own HX.out.l
        exact ⟨A6, _, c6, e6⟩
      subst e6
      clear y0 y1 y2
      go_wp2
      obtain ⟨y0, y1, y2⟩ := HY.out
      exact bodyPost_ret (v := .tuple #[.agg #[.int .i64 most, .int .i64 last, .slice A6 n6 c6], u7]) (by simp [results, Try.results73, go_sem, y0, y1, y2]) rfl HP.out
end Go.Proofs.Ytgfoobgkpnknmaa
