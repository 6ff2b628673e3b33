/- The reference's table: Response. -/
import Derived.Test.YtgfoobgkpnknmaaD3
import Derived.Laws.OwnMore
namespace Go.Proofs.Ytgfoobgkpnknmaa
set_option linter.unusedSimpArgs false
set_option linter.unusedVariables false
open Go.RowKit
theorem who_append (br : ByteArray) (r : List CC) : ∀ l : List CC, cWho br l = none → cWho br (l ++ r) = (cWho br r).map fun x => (x.1 + l.length, x.2)
  | [], _ => by cases h : cWho br r <;> simp [h]
  | a :: l, h => by
    unfold cWho at h
    split at h
    · cases h
    · rename_i ha
      simp only [Option.map_eq_none_iff] at h
      rw [List.cons_append]
      conv => lhs; unfold cWho
      rw [if_neg ha, who_append br r l h]
      cases cWho br r <;> simp <;> omega
theorem who_skip {cs : List CC} {br : ByteArray} {j : Nat} (hj : j < cs.length) (h : cWho br (cs.take j) = none) (hn : ¬ (cs[j].br = br ∧ cs[j].rest < 0)) : cWho br (cs.take (j + 1)) = none := by
  rw [List.take_succ_eq_append_getElem hj, who_append br _ _ h]
  unfold cWho
  rw [if_neg hn]
  rfl
theorem who_hit {cs : List CC} {br : ByteArray} {j : Nat} (hj : j < cs.length) (h : cWho br (cs.take j) = none) (hn : cs[j].br = br ∧ cs[j].rest < 0) : cWho br cs = some (j, cs[j]) := by
  have e : cs = cs.take j ++ cs[j] :: cs.drop (j + 1) := by rw [← List.drop_eq_getElem_cons hj]; exact (List.take_append_drop j cs).symm
  have hl : (cs.take j).length = j := by rw [List.length_take]; omega
  have h2 := who_append br (cs[j] :: cs.drop (j + 1)) (cs.take j) h
  rw [← e] at h2
  rw [h2]
  unfold cWho
  rw [if_pos hn, hl]
  simp
theorem rows_set {α : Type} {f : α → List Value} {sz : Nat} (hf : ∀ a, (f a).length = sz) {l : List α} {i j : Nat} {a' : α} {u : Value} (hi : i < l.length) (hj : j < sz) (h : (f l[i]).set j u = f a') : (rows f l).set (i * sz + j) u = rows f (l.set i a') := by
  induction l generalizing i with
  | nil => simp at hi
  | cons a r ih =>
    cases i with
    | zero =>
      rw [rows_cons, List.set_cons_zero, rows_cons, Nat.zero_mul, Nat.zero_add, List.set_append_left _ _ (by rw [hf]; exact hj)]
      rw [show (f a).set j u = f a' from h]
    | succ i =>
      rw [rows_cons, List.set_cons_succ, rows_cons, List.set_append_right _ _ (by rw [hf, Nat.add_mul]; omega), hf, show (i + 1) * sz + j - sz = i * sz + j by rw [Nat.add_mul]; omega]
      rw [ih (by simpa using hi) h]
def RRespPost (w : World) (most last : Int) (cs : List CC) (br : ByteArray) (st now : Int) (e : Ending) (w' : World) : Prop :=
  ∃ v, e = .returned (.tuple #[.agg #[.int .i64 most, .int .i64 last, v], .int .i64 (cRespI cs br st now), .bool (cRespG cs br st now), .int .i64 (cRespE cs br st now)]) ∧
    RdV w' 153 7 (cRespL cs br st now).length v (rows rcell (cRespL cs br st now)) ∧ Below w.heap.size w w'
theorem rresp_same {w w' : World} {most last : Int} {cs : List CC} {br : ByteArray} {st now n i : Int} {v : Value} (hr : RdV w' 153 7 cs.length v (rows rcell cs)) (hb : Below w.heap.size w w') (h : cRespE cs br st now = n) (hn : n ≠ 0 ∨ st < 200) (hi : cRespI cs br st now = i) :
    RRespPost w most last cs br st now (.returned (.tuple #[.agg #[.int .i64 most, .int .i64 last, v], .int .i64 i, .bool false, .int .i64 n])) w' := by
  have hc : ¬ (cRespE cs br st now = 0 ∧ 200 ≤ st) := by omega
  have e2 : cRespG cs br st now = false := decide_eq_false hc
  have e3 : cRespL cs br st now = cs := by unfold cRespL; rw [if_neg hc]
  exact ⟨v, by rw [hi, h, e2], by rw [e3]; exact hr, hb⟩
set_option maxRecDepth 100000 in
set_option maxHeartbeats 4000000 in
theorem rresp_any {w : World} {cs : List CC} {A : Option Addr} {c : Nat} (h : Rd w 153 7 cs.length A (rows rcell cs)) (hl : cs.length ≤ 1000000) (hlc : cs.length ≤ c) (hc : c ≤ maxLen) (most last : Int) (br : ByteArray) (st now : Int) :
    Calls Try.prog 66 #[.agg #[.int .i64 most, .int .i64 last, .slice A cs.length c], .string br, .int .i64 st, .int .i64 now] w (RRespPost w most last cs br st now) := by
  obtain ⟨W, hW⟩ : ∃ W, (w.alloc (.cells #[.int .i64 most, .int .i64 last, .slice A cs.length c] 90)).alloc (.cells #[.int .i64 0, .int .i64 0, .slice none 0 0] 90) = W := ⟨_, rfl⟩
  have hB : Below w.heap.size w W := hW ▸ ((Below.refl _ _).alloc (Nat.le_refl _) _).alloc (by simp) _
  have hs : W.heap.size = w.heap.size + 2 := by rw [← hW]; simp
  have hT : Blk W w.heap.size 90 #[.int .i64 most, .int .i64 last, .slice A cs.length c] := hW ▸ (Blk.new w 90 #[.int .i64 most, .int .i64 last, .slice A cs.length c]).alloc _
  have hR : Blk W (w.heap.size + 1) 90 #[.int .i64 0, .int .i64 0, .slice none 0 0] := hW ▸ Blk.new' (w.alloc (.cells #[.int .i64 most, .int .i64 last, .slice A cs.length c] 90)) _ _ (by simp)
  have HRD := Lib.hid (h.below hB)
  have HB := Lib.hid hB
  have HT := Lib.hid hT
  have HR := Lib.hid hR
  have HW := Lib.hid hW
  have HSZ := Lib.hid hs
  have t0 := hT.cell 0
  have t1 := hT.cell 1
  have t2 := hT.cell 2
  have r0 := hR.cell 0
  have r1 := hR.cell 1
  have r2 := hR.cell 2
  have q0 := hR.frozen 0
  have q1 := hR.frozen 1
  have q2 := hR.frozen 2
  have HEND : Hid (∀ w' n i, Below w.heap.size w w' → cRespE cs br st now = n → n ≠ 0 ∨ st < 200 → cRespI cs br st now = i → RRespPost w most last cs br st now (.returned (.tuple #[.agg #[.int .i64 most, .int .i64 last, .slice A cs.length c], .int .i64 i, .bool false, .int .i64 n])) w') := Lib.hid (fun w' n i hb h1 h2 h3 =>
    rresp_same ⟨A, c, rfl, hlc, hc, h.below hb⟩ hb h1 h2 h3)
  clear hW hB hT hR hs h
  by_cases ha : now < 0 ∨ 1099511627456 < now ∨ st < 100 ∨ 699 < st
  · have e1 : cRespE cs br st now = 1 := by unfold cRespE; rw [if_pos ha]
    have HE := Lib.hid e1
    clear HRD t0 t1 t2 r0 r1 r2 q0 q1 q2 e1
    by_cases a1 : now < 0 <;> by_cases a2 : 1099511627456 < now <;> by_cases a3 : st < 100 <;> by_cases a4 : 699 < st
    all_goals first | (exfalso; omega) | skip
    all_goals
      clear ha
      go_enter Try.func66, Try.ntmps66
      go_wp2
      exact bodyPost_ret (v := .tuple #[.agg #[.int .i64 most, .int .i64 last, .slice A cs.length c], .int .i64 0, .bool false, .int .i64 1]) (by simp [results, Try.results66, go_sem]) rfl (HEND.out _ 1 0 (by repeat (first | exact Below.refl _ _ | refine Below.setCell ?_ (by simp <;> omega) _ | refine Below.alloc ?_ (by simp <;> omega) _)) HE.out (by omega) (respI_no HE.out (by omega)))
  · have hn1 : 0 ≤ now := by omega
    have hn2 : now ≤ 1099511627456 := by omega
    have hs1 : 100 ≤ st := by omega
    have hs2 : st ≤ 699 := by omega
    have HA := Lib.hid ha
    clear ha
    go_enter Try.func66, Try.ntmps66
    go_wp2
    rw [HW.out]
    go_loop [12] (fun i => ∃ j : Nat, j ≤ cs.length ∧ i = .int .i64 j ∧ cWho br (cs.take j) = none) (fun i => cs.length - (intOf i).toNat)
    case atStart => exact ⟨0, by omega, rfl, rfl⟩
    case round =>
      obtain ⟨j, hj, rfl, hrel⟩ := hrel
      have x0 : (0 : Int) ≤ j := by omega
      by_cases hlt : j < cs.length
      · have x1 : (j : Int) < cs.length := by omega
        obtain ⟨gb, off, rfl, _, hcj⟩ := rd_row rcell_len HRD.out hlt
        have c0 : W.cell? ⟨gb, off + j * 7, none⟩ = some (.int .i64 cs[j].id) := hcj 0 (by omega)
        have c1 : W.cell? ⟨gb, off + j * 7 + 1, none⟩ = some (.string cs[j].br) := hcj 1 (by omega)
        have c4 : W.cell? ⟨gb, off + j * 7 + 4, none⟩ = some (.int .i64 cs[j].rest) := hcj 4 (by omega)
        by_cases he : cs[j].br = br
        · by_cases hr : cs[j].rest < 0
          · have hw := who_hit hlt hrel ⟨he, hr⟩
            have e1 : cRespE cs br st now = 0 := by unfold cRespE; rw [if_neg HA.out, hw]; rfl
            have e2 : cRespI cs br st now = cs[j].id := by unfold cRespI; rw [if_pos e1, hw]; rfl
            have HE1 := Lib.hid e1
            have HE2 := Lib.hid e2
            have HWH := Lib.hid hw
            have heb := beq_yes he
            have HCJ := Lib.hid hcj
            clear hcj hrel he hw e1 e2
            by_cases hst : st < 200
            · have hgb : gb ≠ w.heap.size + 1 := by
                rintro rfl
                obtain ⟨gb2, off2, cs2, fr2, e, hb2, _⟩ := HRD.out.2 (by omega)
                injection e with e
                injection e with e1 e2
                subst e1
                have := HR.out
                unfold Blk at this
                rw [hb2] at this
                injection this with this
                injection this with _ q
                exact absurd q (by decide)
              have HS : Hid (∀ W', Fr (fun k => k = w.heap.size + 1) W W' → W'.cell? ⟨w.heap.size, 0, none⟩ = some (.int .i64 most) ∧ W'.cell? ⟨w.heap.size, 1, none⟩ = some (.int .i64 last) ∧ W'.cell? ⟨w.heap.size, 2, none⟩ = some (.slice (some ⟨gb, off, none⟩) cs.length c) ∧ W'.cell? ⟨gb, off + j * 7, none⟩ = some (.int .i64 cs[j].id)) := Lib.hid (fun W' hf => by
                have q1 := HT.out.fr hf (by omega)
                exact ⟨q1.cell 0, q1.cell 1, q1.cell 2, (hf.cell (p := ⟨gb, off + j * 7, none⟩) (World.block_lt_of_cell? W _ c0) hgb).trans c0⟩)
              go_wp2_with fail
              clear c0 c1 c4 t0 t1 t2
              go_region_held3 (fun w' => w'.cell? ⟨w.heap.size, 0, none⟩ = some (.int .i64 most) ∧ w'.cell? ⟨w.heap.size, 1, none⟩ = some (.int .i64 last) ∧ w'.cell? ⟨w.heap.size, 2, none⟩ = some (.slice (some ⟨gb, off, none⟩) cs.length c) ∧ w'.cell? ⟨gb, off + j * 7, none⟩ = some (.int .i64 cs[j].id))
                (first | exact HS.out _ (Fr.refl (fun k => k = w.heap.size + 1) _) | exact HS.out _ (Fr.refl (fun k => k = w.heap.size + 1) _).drew | exact HS.out _ ((((Fr.refl (fun k => k = w.heap.size + 1) W).set (p := ⟨w.heap.size + 1, 0, none⟩) (fun _ => rfl) _).set (p := ⟨w.heap.size + 1, 1, none⟩) (fun _ => rfl) _).set (p := ⟨w.heap.size + 1, 2, none⟩) (fun _ => rfl) _).drew)
                (first | fail)
              go_wp2
              obtain ⟨z0, z1, z2⟩ := HR.out.three (.int .i64 most) (.int .i64 last) (.slice (some ⟨gb, off, none⟩) cs.length c)
              exact bodyPost_ret (v := .tuple #[.agg #[.int .i64 most, .int .i64 last, .slice (some ⟨gb, off, none⟩) cs.length c], .int .i64 cs[j].id, .bool false, .int .i64 0]) (by simp [results, Try.results66, go_sem, z0, z1, z2]) rfl (HEND.out _ 0 cs[j].id ((((HB.out.setCell (by simp <;> omega) _).setCell (by simp <;> omega) _).setCell (by simp <;> omega) _).drew) HE1.out (.inr hst) HE2.out)
            · have hoe : Hid ((W.alloc (.cells #[] 153)).ownsRow W.heap.size 153 7 (.slice (some ⟨W.heap.size, 0, none⟩) 0 0) 0 []) := Lib.hid (own_empty (Blk.new W _ _) (Nat.le_refl _))
              have hra : Hid (Rd (W.alloc (.cells #[] 153)) 153 7 cs.length (some ⟨gb, off, none⟩) (rows rcell cs)) := Lib.hid (HRD.out.alloc _)
              have ta2 := (HT.out.alloc (.cells #[] 153)).cell 2
              go_wp2_with (at_builtin; go_must (refine wpList_app_rd _ rfl (.tmp 62) (.tmp 64) 88 rfl W.heap.size 153 7 80 _ Try.underlying88 e153i rfl (by omega) _ _ _ rfl hoe.out _ _ _ _ rfl hra.out (rows_one rcell_one cs) (by unfold maxLen; omega) (by omega) (by simp) ?_); intro v1 w5 hown5 hb5 hg5 hat5; rw [Nat.zero_add, List.nil_append] at hown5; obtain ⟨gg, cg, rfl⟩ := own_pos hown5 (by omega); have c5 : w5.cell? ⟨gg, j * 7 + 4, none⟩ = some (.int .i64 cs[j].rest) := (hown5.cellAt (j * 7 + 4) (by omega)).trans (rows_at rcell_len hlt (j := 4) (by omega)); have f5 := hown5.frozenAt (j * 7 + 4); have g5 : (0 : Int) ≤ (cs.length : Int) := by omega)
              have hgw := (hown5.lt gg rfl).1
              have hst5 := hown5.stored (j * 7 + 4) (.int .i64 (now + 50))
              have hf6 : Fr (fun k => k = gg) W (w5.setCell ⟨gg, j * 7 + 4, none⟩ (.int .i64 (now + 50))) := ((Fr.of_below (F := fun k => k = gg) (((Below.refl W.heap.size W).alloc (Nat.le_refl _) (.cells #[] 153)).trans hb5)).trans (G := fun k => k = gg) (Fr.of_grown hst5.2 (fun k h => by injection h with h; exact h.symm)) (fun _ _ h => h))
              have hrs : (rows rcell cs).set (j * 7 + 4) (.int .i64 (now + 50)) = rows rcell (cs.set j { cs[j] with rest := now + 50 }) := rows_set rcell_len hlt (by omega) (by simp [rcell])
              have hown6 : (w5.setCell ⟨gg, j * 7 + 4, none⟩ (.int .i64 (now + 50))).ownsRow W.heap.size 153 7 (.slice (some ⟨gg, 0, none⟩) cs.length cg) cs.length (rows rcell (cs.set j { cs[j] with rest := now + 50 })) := hrs ▸ hst5.1
              generalize w5.setCell ⟨gg, j * 7 + 4, none⟩ (.int .i64 (now + 50)) = w6 at *
              have hT6 := HT.out.fr hf6 (by have := HSZ.out; omega)
              have hR6 := HR.out.fr hf6 (by have := HSZ.out; omega)
              have hlen6 : (cs.set j { cs[j] with rest := now + 50 }).length = cs.length := List.length_set
              have hid6 : w6.cell? ⟨gg, j * 7, none⟩ = some (.int .i64 cs[j].id) := by
                have h0 := rows_at rcell_len (l := cs.set j { cs[j] with rest := now + 50 }) (i := j) (by rw [hlen6]; exact hlt) (j := 0) (by omega)
                rw [Nat.add_zero] at h0
                rw [hown6.cellAt (j * 7) (by omega), h0]
                simp [rcell]
              have HS : Hid (∀ W', Fr (fun k => k = w.heap.size + 1) w6 W' → W'.cell? ⟨w.heap.size, 0, none⟩ = some (.int .i64 most) ∧ W'.cell? ⟨w.heap.size, 1, none⟩ = some (.int .i64 last) ∧ W'.cell? ⟨gg, j * 7, none⟩ = some (.int .i64 cs[j].id)) := Lib.hid (fun W' hf => by
                have q1 := hT6.fr hf (by omega)
                exact ⟨q1.cell 0, q1.cell 1, (hf.cell (p := ⟨gg, j * 7, none⟩) (World.block_lt_of_cell? w6 _ hid6) (by have := HSZ.out; show ¬ gg = _; omega)).trans hid6⟩)
              have HOW := Lib.hid hown6
              have HF6 := Lib.hid hf6
              have HR6 := Lib.hid hR6
              have z0 := hR6.cell 0
              have z1 := hR6.cell 1
              have z2 := hR6.cell 2
              have y0 := hR6.frozen 0
              have y1 := hR6.frozen 1
              have y2 := hR6.frozen 2
              have HX : Hid (RRespPost w most last cs br st now (.returned (.tuple #[.agg #[.int .i64 most, .int .i64 last, .slice (some ⟨gg, 0, none⟩) cs.length cg], .int .i64 cs[j].id, .bool true, .int .i64 0])) (((w6.setCell ⟨w.heap.size + 1, 0, none⟩ (.int .i64 most)).setCell ⟨w.heap.size + 1, 1, none⟩ (.int .i64 last)).setCell ⟨w.heap.size + 1, 2, none⟩ (.slice (some ⟨gg, 0, none⟩) cs.length cg)).drew) := Lib.hid (by
                have hfs : Fr (fun k => k = w.heap.size + 1) w6 (((w6.setCell ⟨w.heap.size + 1, 0, none⟩ (.int .i64 most)).setCell ⟨w.heap.size + 1, 1, none⟩ (.int .i64 last)).setCell ⟨w.heap.size + 1, 2, none⟩ (.slice (some ⟨gg, 0, none⟩) cs.length cg)).drew := ((((Fr.refl (fun k => k = w.heap.size + 1) w6).set (p := ⟨w.heap.size + 1, 0, none⟩) (fun _ => rfl) _).set (p := ⟨w.heap.size + 1, 1, none⟩) (fun _ => rfl) _).set (p := ⟨w.heap.size + 1, 2, none⟩) (fun _ => rfl) _).drew
                have e3 : cRespG cs br st now = true := decide_eq_true ⟨HE1.out, by omega⟩
                have e4 : cRespL cs br st now = cs.set j { cs[j] with rest := now + 50 } := by unfold cRespL; rw [if_pos ⟨HE1.out, by omega⟩, HWH.out]
                refine ⟨_, by rw [HE1.out, HE2.out, e3], ?_, HB.out.trans ((HF6.out.to_below (B := w.heap.size) (by have := HSZ.out; omega) (fun k e => by have := HSZ.out; omega)).trans (hfs.to_below (by have := HF6.out.size; have := HSZ.out; omega) (fun k e => by omega)))⟩
                rw [e4, hlen6]
                exact RdV.of_own (own_fr HOW.out hfs (fun k hk e => by have := (HOW.out.lt k hk).1; have := HSZ.out; omega)))
              clear hst5 hf6 hown5 hrs hown6 hT6 hR6 hb5 hg5 hat5 c5 f5 hid6 hlen6 c0 c1 c4 t0 t1 t2 r0 r1 r2 q0 q1 q2 ta2
              go_region_held3 (fun w' => w'.cell? ⟨w.heap.size, 0, none⟩ = some (.int .i64 most) ∧ w'.cell? ⟨w.heap.size, 1, none⟩ = some (.int .i64 last) ∧ w'.cell? ⟨gg, j * 7, none⟩ = some (.int .i64 cs[j].id))
                (first | exact HS.out _ (Fr.refl (fun k => k = w.heap.size + 1) _) | exact HS.out _ (Fr.refl (fun k => k = w.heap.size + 1) _).drew | exact HS.out _ ((((Fr.refl (fun k => k = w.heap.size + 1) w6).set (p := ⟨w.heap.size + 1, 0, none⟩) (fun _ => rfl) _).set (p := ⟨w.heap.size + 1, 1, none⟩) (fun _ => rfl) _).set (p := ⟨w.heap.size + 1, 2, none⟩) (fun _ => rfl) _).drew)
                (first | fail)
              go_wp2
              obtain ⟨p0, p1, p2⟩ := HR6.out.three (.int .i64 most) (.int .i64 last) (.slice (some ⟨gg, 0, none⟩) cs.length cg)
              exact bodyPost_ret (v := .tuple #[.agg #[.int .i64 most, .int .i64 last, .slice (some ⟨gg, 0, none⟩) cs.length cg], .int .i64 cs[j].id, .bool true, .int .i64 0]) (by simp [results, Try.results66, go_sem, p0, p1, p2]) rfl HX.out
          · have HH := Lib.hid (who_skip hlt hrel (fun q => hr q.2))
            have heb := beq_yes he
            clear hcj hrel he
            go_wp2
            go_round
            case rel => exact ⟨j + 1, by omega, by go_num, HH.out⟩
            case measure => simp [intOf] <;> omega
        · have HH := Lib.hid (who_skip hlt hrel (fun q => he q.1))
          have heb := beq_no he
          clear hcj hrel he
          go_wp2
          go_round
          case rel => exact ⟨j + 1, by omega, by go_num, HH.out⟩
          case measure => simp [intOf] <;> omega
      · obtain rfl : j = cs.length := by omega
        rw [List.take_length] at hrel
        have e1 : cRespE cs br st now = 6 := by unfold cRespE; rw [if_neg HA.out, hrel]; rfl
        have HE := Lib.hid e1
        clear hrel e1
        go_wp2
        obtain ⟨z0, z1, z2⟩ := HR.out.three (.int .i64 most) (.int .i64 last) (.slice A cs.length c)
        exact bodyPost_ret (v := .tuple #[.agg #[.int .i64 most, .int .i64 last, .slice A cs.length c], .int .i64 0, .bool false, .int .i64 6]) (by simp [results, Try.results66, go_sem, z0, z1, z2]) rfl (HEND.out _ 6 0 (((HB.out.setCell (by simp <;> omega) _).setCell (by simp <;> omega) _).setCell (by simp <;> omega) _) HE.out (by omega) (respI_no HE.out (by omega)))
end Go.Proofs.Ytgfoobgkpnknmaa
