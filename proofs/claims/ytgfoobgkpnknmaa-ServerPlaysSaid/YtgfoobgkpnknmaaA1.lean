/- The laws of the wheel: awake, filled. -/
import Derived.Test.YtgfoobgkpnknmaaR3
import Derived.Test.YtgfoobgkpnknmaaK
namespace Go.Proofs.Ytgfoobgkpnknmaa
open Go.RowKit
theorem Wh.notT {w : World} {p : Nat} {l : List TM} {F : Nat → Prop} (H : Wh w p l F) {b : Nat} {cs : Array Value} {T : TypeId} {fr : Nat × Nat} (hb : w.heap[b]? = some (.cells cs T fr)) (h1 : T ≠ 63) (h2 : T ≠ 133) (h3 : T ≠ 130) : ¬ F b := by
  intro hF
  obtain ⟨bm, hv, xs, kvs, H⟩ := H
  rcases (H.ff b).1 hF with rfl | rfl | e | e
  · have := H.hp.top; unfold Blk at this; rw [hb] at this; injection this with this; injection this with _ q; exact h1 q
  · obtain ⟨es, c, h, _⟩ := H.mp; rw [hb] at h; cases h
  · rcases H.hp.row.2 with ⟨e', _⟩ | ⟨gb, cap, cur, e', _, hg, _⟩
    · rw [e'] at e; cases e
    · rw [e'] at e
      have : gb = b := by simpa [Value.ownBlock] using e
      subst this
      rw [hb] at hg; injection hg with hg; injection hg with _ q; exact h3 q
  · obtain ⟨x, hx, rfl⟩ := List.mem_map.1 e
    obtain ⟨i, hi⟩ := List.getElem?_of_mem hx
    have := H.hp.its i x hi
    unfold Blk at this; rw [hb] at this; injection this with this; injection this with _ q; exact h2 q
theorem Wh.keepB {w w' : World} {p : Nat} {l : List TM} {F : Nat → Prop} (H : Wh w p l F) (hf : Fr F w w') {b : Nat} {cs : Array Value} (hb : Blk w b 36 cs) : Blk w' b 36 cs := hb.fr hf (H.notT hb (by decide) (by decide) (by decide))
def awS : List TM := [(5, 7), (5, 3), (9, 1), (4, 7)]
def awL (j : Nat) : List TM := (awS.take j).foldl (fun l t => rSetL l t.2 t.1) []
theorem awE (j : Nat) (h : j < awS.length) : rSetE (awL j) awS[j].2 awS[j].1 = 0 := by
  have : ∀ j : Fin 4, rSetE (awL j.1) (awS[j.1]'(j.2)).2 (awS[j.1]'(j.2)).1 = 0 := by decide
  exact this ⟨j, h⟩
theorem awN (j : Nat) (h : j < awS.length) : rSetL (awL j) awS[j].2 awS[j].1 = awL (j + 1) := by
  unfold awL
  rw [List.take_succ_eq_append_getElem h, List.foldl_append]; rfl
theorem aw_cell {w : World} {lb : Nat} (h : Blk w lb 36 #[.int .i64 5, .int .i64 7, .int .i64 5, .int .i64 3, .int .i64 9, .int .i64 1, .int .i64 4, .int .i64 7]) (j : Nat) (hj : j < awS.length) :
    w.cell? ⟨lb, j * 2, none⟩ = some (.int .i64 awS[j].1) ∧ w.cell? ⟨lb, j * 2 + 1, none⟩ = some (.int .i64 awS[j].2) := by
  have e : (#[.int .i64 5, .int .i64 7, .int .i64 5, .int .i64 3, .int .i64 9, .int .i64 1, .int .i64 4, .int .i64 7] : Array Value) = (tcells awS).toArray := rfl
  rw [h.cell, h.cell, e, List.getElem?_toArray, List.getElem?_toArray]
  exact tcells_at (l := awS) hj
def AwRel (w : World) (p lb : Nat) (t : Value) (wr : World) : Prop :=
  ∃ (j : Nat) (F : Nat → Prop), j ≤ 4 ∧ t = .int .i64 j ∧ Wh wr p (awL j) F ∧ Blk wr lb 36 #[.int .i64 5, .int .i64 7, .int .i64 5, .int .i64 3, .int .i64 9, .int .i64 1, .int .i64 4, .int .i64 7] ∧ Below w.heap.size w wr ∧ ∀ k, F k → w.heap.size ≤ k
set_option maxRecDepth 100000 in
set_option maxHeartbeats 1000000 in
theorem awake_any (w : World) : Calls Try.prog 20 #[] w (LawPost w) := by
  go_enter Try.func20, Try.ntmps20
  go_wp2_with fail
  refine (new_any w).mono ?_
  rintro e w1 ⟨p, F, rfl, hW, hb1, hF⟩
  have hst : AwRel w p w1.heap.size (.int .i64 0) (w1.alloc (.cells #[.int .i64 5, .int .i64 7, .int .i64 5, .int .i64 3, .int .i64 9, .int .i64 1, .int .i64 4, .int .i64 7] 36)) :=
    ⟨0, F, by omega, rfl, hW.fr ((Fr.refl (fun _ => False) _).alloc _) (fun _ _ h => h), Blk.new _ _ _, hb1.alloc hb1.size _, hF⟩
  have HST := Lib.hid hst
  clear hst hW hb1 hF
  go_wp2_with fail
  go_loopg [14] 4 (fun k t wr => AwRel w p w1.heap.size t wr ∧ ∃ j : Nat, t = .int .i64 j ∧ j + k = 4)
  case atStart => exact ⟨HST.out, 0, rfl, rfl⟩
  case round =>
    obtain ⟨⟨j, F, hj, rfl, hW, hB, hbw, hF⟩, j', hj1, hj2⟩ := hrel
    obtain rfl : j = j' := by injection hj1 with _ h; omega
    have hbs := hbw.size
    by_cases hlt : j < awS.length
    · have hj4 : j < 4 := hlt
      obtain ⟨c0, c1⟩ := aw_cell hB j hlt
      have HE := Lib.hid (awE j hlt)
      have HN := Lib.hid (awN j hlt)
      have HWA := Lib.hid (fun o => hW.fr ((Fr.refl (fun _ => False) wr).alloc o) (fun _ _ h => h))
      have HBA := Lib.hid (fun o => hB.alloc o)
      have HBW := Lib.hid hbw
      have HF := Lib.hid hF
      clear hW hB hbw hF
      go_wp2_with fail
      refine (set_any (HWA.out _) _ _).mono ?_
      rintro e w2 ⟨rfl, F', hW2, hf2, hx2⟩
      rw [HE.out]
      rw [HN.out] at hW2
      have HP : Hid (AwRel w p w1.heap.size (.int .i64 ((j + 1 : Nat) : Int)) w2) := Lib.hid ⟨j + 1, F', by omega, rfl, hW2, (HWA.out _).keepB hf2 (HBA.out _), ((HBW.out).alloc hbs _).trans (hf2.to_below (by simp; omega) HF.out), fun k hk => by
        rcases hx2 k hk with q | q
        · exact HF.out k q
        · simp at q; omega⟩
      clear hW2 hf2 hx2
      go_wp2
      go_roundg (3 - j)
      case measure => omega
      case rel => exact ⟨HP.out, j + 1, by go_num, by omega⟩
    · obtain rfl : j = 4 := by have : awS.length = 4 := rfl; omega
      have HL := Lib.hid (show awL 4 = [(4, 7), (5, 3), (9, 1)] by decide)
      have HWA := Lib.hid hW
      have HBW := Lib.hid hbw
      have HF := Lib.hid hF
      clear hW hB hbw hF
      go_wp2_with fail
      refine (due_any (HWA.out) 5).mono ?_
      rintro e w2 ⟨v, F', rfl, hown, hW2, hf2, hx2⟩
      rw [HL.out] at hown hW2
      rw [show rDueA [(4, 7), (5, 3), (9, 1)] 5 = [(4, 7), (5, 3)] by decide] at hown
      rw [show rDueB [(4, 7), (5, 3), (9, 1)] 5 = [(9, 1)] by decide] at hW2
      have hb2 := hf2.to_below hbs HF.out
      have HB2 := Lib.hid ((HBW.out).trans hb2)
      obtain ⟨A, c, e, hc1, hc2, hrd⟩ := RdV.of_own hown
      have HR := Lib.hid hrd
      have HW2 := Lib.hid hW2
      have hs2 := hf2.size
      clear hown hf2 hb2 hx2 hrd hW2
      rw [e]
      clear e
      go_wp2_with fail
      refine (next_any (HW2.out)).mono ?_
      rintro e w3 ⟨rfl, hb3⟩
      have HB3 := Lib.hid hb3
      have hs3 := hb3.size
      have hal : Hid (Below w3.heap.size w3 ((w3.alloc (.cells #[.int .i64 9, .int .i64 1] 36)).alloc (.cells #[.int .i64 4, .int .i64 7, .int .i64 5, .int .i64 3] 36))) := Lib.hid (((Below.refl _ _).alloc (Nat.le_refl _) _).alloc (by simp) _)
      have hnb : Hid (Blk ((w3.alloc (.cells #[.int .i64 9, .int .i64 1] 36)).alloc (.cells #[.int .i64 4, .int .i64 7, .int .i64 5, .int .i64 3] 36)) (w3.heap.size + 1) 36 #[.int .i64 4, .int .i64 7, .int .i64 5, .int .i64 3]) := Lib.hid (by
        have := Blk.new (w3.alloc (.cells #[.int .i64 9, .int .i64 1] 36)) 36 #[.int .i64 4, .int .i64 7, .int .i64 5, .int .i64 3]
        simpa using this)
      have hr1 : Hid (Rd ((w3.alloc (.cells #[.int .i64 9, .int .i64 1] 36)).alloc (.cells #[.int .i64 4, .int .i64 7, .int .i64 5, .int .i64 3] 36)) 36 2 2 (some ⟨w3.heap.size + 1, 0, none⟩) (tcells [(4, 7), (5, 3)])) := Lib.hid (by
        refine ⟨rfl, fun _ => ⟨w3.heap.size + 1, 0, _, _, rfl, hnb.out, fun j u hj => ?_⟩⟩
        rw [Nat.zero_add]
        have e : (#[.int .i64 4, .int .i64 7, .int .i64 5, .int .i64 3] : Array Value) = (tcells [(4, 7), (5, 3)]).toArray := rfl
        rw [e, List.getElem?_toArray]; exact hj)
      clear hb3
      have hrt : rTop [((9 : Int), (1 : Int))] = (9, 1) := rfl
      have hr0 : Hid (Rd ((w3.alloc (.cells #[.int .i64 9, .int .i64 1] 36)).alloc (.cells #[.int .i64 4, .int .i64 7, .int .i64 5, .int .i64 3] 36)) 36 2 2 A (tcells [(4, 7), (5, 3)])) := Lib.hid ((HR.out.below HB3.out).below hal.out)
      have hsm := Lib.hid (rsame_any (l := [(4, 7), (5, 3)]) (m := [(4, 7), (5, 3)]) (c := c) (d := 2) hr0.out hr1.out (by simp) (by simp))
      have hsb : Hid (sameB [(4, 7), (5, 3)] [(4, 7), (5, 3)] = true) := Lib.hid (by decide)
      have hs3c0 := (hal.out)
      go_wp2_with fail
      refine (hsm.out).mono ?_
      rintro e w4 ⟨rfl, n4, rfl⟩
      rw [hsb.out]
      have HH := Lib.hid hs3c0
      clear hs3c0
      go_wp2
      go_ret
      exact ⟨rfl, (HB2.out.trans ((HB3.out.mono (by omega)).trans (HH.out.mono (by omega)))).trans (below_drewN (Below.refl _ _) _)⟩
end Go.Proofs.Ytgfoobgkpnknmaa
