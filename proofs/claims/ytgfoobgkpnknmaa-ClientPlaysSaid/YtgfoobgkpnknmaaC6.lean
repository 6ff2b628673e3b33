/- The client's table as an object: Response. -/
import Derived.Test.YtgfoobgkpnknmaaC5
namespace Go.Proofs.Ytgfoobgkpnknmaa
set_option linter.unusedSimpArgs false
set_option linter.unusedVariables false
open Go.RowKit
theorem ClI.put {w : World} {p bn bc pw : Nat} {most last : Int} {xs : List XC} {l : List TM} {F FW : Nat → Prop} {kn : List (ByteArray × Value)} {kc : List (Int × Value)}
    (H : ClI w p most last xs l F bn bc pw kn kc FW) {i : Nat} {x : XC} (hx : xs[i]? = some x) {c' : CC} {j : Nat} {u : Value} (hid : c'.id = x.2.id) (hbr : c'.br = x.2.br) (hcc : (ccell x.2).setIfInBounds j u = ccell c') :
    ClI (w.setCell ⟨x.1, j, none⟩ u) p most last (xs.set i (x.1, c')) l F bn bc pw kn kc FW ∧ Fr F w (w.setCell ⟨x.1, j, none⟩ u) := by
  have hb := H.its i x hx
  have hi : i < xs.length := (List.getElem?_eq_some_iff.1 hx).1
  have hmem : x.1 ∈ xs.map (·.1) := List.mem_map.2 ⟨x, List.mem_of_getElem? hx, rfl⟩
  have h1 : (xs.set i (x.1, c')).map (·.1) = xs.map (·.1) := map_set_same _ hx rfl
  have hfr : Fr (fun k => k = x.1) w (w.setCell ⟨x.1, j, none⟩ u) := (Fr.refl (fun k => k = x.1) w).set (p := ⟨x.1, j, none⟩) (fun _ => rfl) _
  have hFx : F x.1 := (H.ff x.1).2 (.inr (.inr (.inr (.inl hmem))))
  refine ⟨⟨H.top.fr hfr (H.top.ne_ hb (by decide)), H.nm.fr hfr (H.nm.ne hb), H.cm.fr hfr (H.cm.ne hb), H.wh.fr hfr (fun k hk e => H.fwx (List.mem_of_getElem? hx) (e ▸ hk)), fun k y hy => ?_, by rw [h1]; exact H.nd, ?_, ?_, H.dn, H.fn, H.fc, fun k => ?_⟩, hfr.mono (fun k _ e => e ▸ hFx)⟩
  · rw [List.getElem?_set] at hy
    by_cases hk : i = k
    · subst hk
      rw [if_pos rfl, if_pos hi] at hy
      injection hy with hy
      subst hy
      exact hcc ▸ hb.set_ j u
    · rw [if_neg hk] at hy
      refine (H.its k y hy).far (p := ⟨x.1, j, none⟩) (fun e => hk ?_) _
      have hp := List.pairwise_iff_getElem.1 H.nd
      obtain ⟨g1, e1⟩ := List.getElem?_eq_some_iff.1 hx
      obtain ⟨g2, e2⟩ := List.getElem?_eq_some_iff.1 hy
      have e' : y.1 = x.1 := e
      rcases Nat.lt_trichotomy i k with q | q | q
      · exact (hp i k (by simpa using g1) (by simpa using g2) q (by simp [e1, e2, e'])).elim
      · exact q
      · exact (hp k i (by simpa using g2) (by simpa using g1) q (by simp [e1, e2, e'])).elim
  · rw [map_set_same _ hx (by simp [hid, hbr])]; exact H.pn
  · rw [map_set_same _ hx (by simp [hid])]; exact H.pc
  · unfold CF; rw [h1]; exact H.ff k
theorem nodup_at {α β : Type} {f : α → β} {l : List α} (hn : (l.map f).Nodup) {i j : Nat} {a b : α} (ha : l[i]? = some a) (hb : l[j]? = some b) (h : f a = f b) : i = j := by
  have hp := List.pairwise_iff_getElem.1 hn
  obtain ⟨g1, e1⟩ := List.getElem?_eq_some_iff.1 ha
  obtain ⟨g2, e2⟩ := List.getElem?_eq_some_iff.1 hb
  rcases Nat.lt_trichotomy i j with q | q | q
  · exact (hp i j (by simpa using g1) (by simpa using g2) q (by simp [e1, e2, h])).elim
  · exact q
  · exact (hp j i (by simpa using g2) (by simpa using g1) q (by simp [e1, e2, h])).elim
theorem who_at {cs : List CC} (hn : (cs.map (·.br)).Nodup) {i : Nat} {c : CC} (hi : cs[i]? = some c) (hr : c.rest < 0) : cWho c.br cs = some (i, c) := by
  cases h : cWho c.br cs with
  | none => exact absurd ⟨rfl, hr⟩ (who_none c.br h c (List.mem_of_getElem? hi))
  | some kd =>
    obtain ⟨k, d⟩ := kd
    obtain ⟨h1, h2, _, _⟩ := who_spec c.br h
    obtain rfl := nodup_at hn h1 hi h2
    have := h1.symm.trans hi
    injection this with this
    rw [this]
theorem who_done {cs : List CC} (hn : (cs.map (·.br)).Nodup) {i : Nat} {c : CC} (hi : cs[i]? = some c) (hr : ¬ c.rest < 0) : cWho c.br cs = none := by
  cases h : cWho c.br cs with
  | none => rfl
  | some kd =>
    obtain ⟨k, d⟩ := kd
    obtain ⟨h1, h2, h3, _⟩ := who_spec c.br h
    obtain rfl := nodup_at hn h1 hi h2
    have := h1.symm.trans hi
    injection this with this
    rw [this] at h3
    exact absurd h3 hr
theorem who_no {cs : List CC} {br : ByteArray} (hn : br ∉ cs.map (·.br)) : cWho br cs = none := by
  cases h : cWho br cs with
  | none => rfl
  | some kd =>
    obtain ⟨k, d⟩ := kd
    obtain ⟨h1, h2, _, _⟩ := who_spec br h
    exact absurd (List.mem_map.2 ⟨d, List.mem_of_getElem? h1, h2⟩) hn
def CRespPost (w : World) (p : Nat) (most last : Int) (cs : List CC) (br : ByteArray) (st now : Int) (F : Nat → Prop) (e : Ending) (w' : World) : Prop :=
  e = .returned (.tuple #[.int .i64 (cRespI cs br st now), .bool (cRespG cs br st now), .int .i64 (cRespE cs br st now)]) ∧
    ∃ F', Cl w' p most last (cRespL cs br st now) F' ∧ Fr F w w' ∧ Ext F F' w
theorem resp_same {w : World} {p : Nat} {most last : Int} {cs : List CC} {br : ByteArray} {st now n i : Int} {F : Nat → Prop} (H : Cl w p most last cs F) (h : cRespE cs br st now = n) (hn : n ≠ 0 ∨ st < 200) (hi : cRespI cs br st now = i) :
    CRespPost w p most last cs br st now F (.returned (.tuple #[.int .i64 i, .bool false, .int .i64 n])) w := by
  have hc : ¬ (cRespE cs br st now = 0 ∧ 200 ≤ st) := by omega
  have e2 : cRespG cs br st now = false := decide_eq_false hc
  have e3 : cRespL cs br st now = cs := by unfold cRespL; rw [if_neg hc]
  refine ⟨by rw [hi, h, e2], F, ?_, Fr.refl _ _, fun k hk => .inl hk⟩
  rw [e3]
  exact H
theorem respI_no {cs : List CC} {br : ByteArray} {st now n : Int} (h : cRespE cs br st now = n) (hn : n ≠ 0) : cRespI cs br st now = 0 := by unfold cRespI; rw [if_neg (by omega)]
set_option maxRecDepth 100000 in
set_option maxHeartbeats 2000000 in
theorem cresp_any {w : World} {p : Nat} {most last : Int} {cs : List CC} {F : Nat → Prop} (H : Cl w p most last cs F) (br : ByteArray) (st now : Int) :
    Calls Try.prog 40 #[.pointer (some ⟨p, 0, none⟩), .string br, .int .i64 st, .int .i64 now] w (CRespPost w p most last cs br st now F) := by
  have HC := Lib.hid H
  obtain ⟨xs, l, bn, bc, pw, kn, kc, FW, rfl, H1, P⟩ := H
  have hm := Lib.hid (cmade_any H1.top)
  by_cases ha : now < 0 ∨ 1099511627456 < now ∨ st < 100 ∨ 699 < st
  · have e1 : cRespE (xs.map (·.2)) br st now = 1 := by unfold cRespE; rw [if_pos ha]
    have HE := Lib.hid (resp_same HC.out e1 (by omega) (respI_no e1 (by omega)))
    clear H1 P e1
    by_cases a1 : now < 0 <;> by_cases a2 : 1099511627456 < now <;> by_cases a3 : st < 100 <;> by_cases a4 : 699 < st
    all_goals first | (exfalso; omega) | skip
    all_goals
      clear ha
      go_enter Try.func40, Try.ntmps40
      go_wp2_with fail
      refine (hm.out).mono ?_
      rintro e w' ⟨rfl, rfl⟩
      go_wp2
      go_ret3
      exact HE.out
  · have hn1 : 0 ≤ now := by omega
    have hn2 : now ≤ 1099511627456 := by omega
    have hs1 : 100 ≤ st := by omega
    have hs2 : st ≤ 699 := by omega
    have k2 := H1.top.cell 2
    have k3 := H1.top.cell 3
    have k4 := H1.top.cell 4
    have hlk := H1.nm.lookup (T := 96) (E := 3) (strLaw Try.underlying9) Try.underlying96 (zint w) br true
    by_cases hin : br ∈ (xs.map (·.2)).map (·.br)
    · obtain ⟨c, hcx, hbr⟩ := List.mem_map.1 hin
      obtain ⟨x, hx, rfl⟩ := List.mem_map.1 hcx
      obtain ⟨i, hi⟩ := List.getElem?_of_mem hx
      have hci : (xs.map (·.2))[i]? = some x.2 := by rw [List.getElem?_map, hi]; rfl
      obtain rfl : x.2.br = br := hbr
      rw [H1.getn P.brs hi] at hlk
      have hlk' : (Instr.lookup 96 (.map (some bn)) (.string x.2.br) true).run Try.prog w = .ok (.tuple #[.int .i64 x.2.id, .bool true]) w := hlk
      have hlc := cm_at H1 (H1.getc P.idnd hi)
      have c5 : w.cell? ⟨x.1, 5, none⟩ = some (.bool (decide (0 ≤ x.2.rest))) := (H1.its i x hi).cell 5
      have f5 := (H1.its i x hi).frozen 5
      by_cases hr : x.2.rest < 0
      · have hw := who_at P.brs hci hr
        have e1 : cRespE (xs.map (·.2)) x.2.br st now = 0 := by unfold cRespE; rw [if_neg ha, hw]; rfl
        have e2 : cRespI (xs.map (·.2)) x.2.br st now = x.2.id := by unfold cRespI; rw [if_pos e1, hw]; rfl
        rw [decide_eq_false (by omega)] at c5
        by_cases hst : st < 200
        · have HE := Lib.hid (resp_same HC.out e1 (by omega) e2)
          clear hlk H1 P hin hcx hx hi hci ha hw e1 e2 hr
          go_enter Try.func40, Try.ntmps40
          go_wp2_with fail
          refine (hm.out).mono ?_
          rintro e w' ⟨rfl, rfl⟩
          go_wp2
          go_ret3
          exact HE.out
        · have hcell : (ccell x.2).setIfInBounds 5 (.bool true) = ccell { x.2 with rest := now + 50 } := by
            unfold ccell; simp; omega
          have hput := H1.put hi (c' := { x.2 with rest := now + 50 }) rfl rfl hcell
          have HPUT := Lib.hid hput
          have hat : cAt { x.2 with rest := now + 50 } = now + 50 := by unfold cAt; rw [if_pos (by show 0 ≤ now + 50; omega)]
          have hps := P.set_ hci (c' := { x.2 with rest := now + 50 }) rfl rfl rfl (P.each x.2 hcx |>.2.2.2.2 |> fun h => ⟨h.1, h.2.1⟩) (.inr (by show 0 ≤ now + 50 ∧ now + 50 ≤ 1099511627506; omega))
          rw [hat] at hps
          have HPS := Lib.hid hps.2
          have HSET := Lib.hid (set_any hput.1.wh x.2.id (now + 50))
          have e3 : cRespG (xs.map (·.2)) x.2.br st now = true := decide_eq_true ⟨e1, by omega⟩
          have e4 : cRespL (xs.map (·.2)) x.2.br st now = (xs.map (·.2)).set i { x.2 with rest := now + 50 } := by unfold cRespL; rw [if_pos ⟨e1, by omega⟩, hw]
          have HFIN : Hid (∀ w2 FW', Wh w2 pw (rSetL l x.2.id (now + 50)) FW' → Fr FW (w.setCell ⟨x.1, 5, none⟩ (.bool true)) w2 → Ext FW FW' (w.setCell ⟨x.1, 5, none⟩ (.bool true)) → CRespPost w p most last (xs.map (·.2)) x.2.br st now F (.returned (.tuple #[.int .i64 x.2.id, .bool true, .int .i64 0])) w2) := Lib.hid (fun w2 FW' h1 h2 h3 => by
            obtain ⟨q1, q2, q3⟩ := HPUT.out.1.wheel h1 h2 h3
            refine ⟨by rw [e1, e2, e3], _, ?_, HPUT.out.2.trans q2 (fun _ _ h => h), fun k hk => (q3 k hk).elim .inl fun h => .inr (by have := HPUT.out.2.size; omega)⟩
            rw [e4]
            exact ⟨xs.set i (x.1, { x.2 with rest := now + 50 }), _, bn, bc, pw, kn, kc, _, by rw [List.map_set], q1, HPS.out⟩)
          have k4' := hput.1.top.cell 4
          clear hlk H1 P hin hcx hx hi hci ha hw e1 e2 e3 e4 hr hput hps hcell hat
          go_enter Try.func40, Try.ntmps40
          go_wp2_with fail
          refine (hm.out).mono ?_
          rintro e w' ⟨rfl, rfl⟩
          go_wp2_with fail
          refine (HSET.out).mono ?_
          rintro e w2 ⟨rfl, FW', h1, h2, h3⟩
          have HX := Lib.hid (HFIN.out w2 FW' h1 h2 h3)
          clear h1 h2 h3
          go_wp2
          go_ret3
          exact HX.out
      · have hw := who_done P.brs hci hr
        have e1 : cRespE (xs.map (·.2)) x.2.br st now = 6 := by unfold cRespE; rw [if_neg ha, hw]; rfl
        have HE := Lib.hid (resp_same HC.out e1 (by omega) (respI_no e1 (by omega)))
        rw [decide_eq_true (by omega)] at c5
        clear hlk H1 P hin hcx hx hi hci ha hw e1 hr
        go_enter Try.func40, Try.ntmps40
        go_wp2_with fail
        refine (hm.out).mono ?_
        rintro e w' ⟨rfl, rfl⟩
        go_wp2
        go_ret3
        exact HE.out
    · have e1 : cRespE (xs.map (·.2)) br st now = 6 := by unfold cRespE; rw [if_neg ha, who_no hin]; rfl
      have HE := Lib.hid (resp_same HC.out e1 (by omega) (respI_no e1 (by omega)))
      rw [H1.non hin] at hlk
      have hlk' : (Instr.lookup 96 (.map (some bn)) (.string br) true).run Try.prog w = .ok (.tuple #[.int .i64 0, .bool false]) w := hlk
      clear hlk H1 P hin e1 ha
      go_enter Try.func40, Try.ntmps40
      go_wp2_with fail
      refine (hm.out).mono ?_
      rintro e w' ⟨rfl, rfl⟩
      go_wp2
      go_ret3
      exact HE.out
end Go.Proofs.Ytgfoobgkpnknmaa
