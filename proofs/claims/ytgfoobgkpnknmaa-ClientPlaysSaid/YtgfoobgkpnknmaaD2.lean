/- The reference's table: next, Live. (Printed by wip/tools/d2.py.) -/
import Derived.Test.YtgfoobgkpnknmaaD1
namespace Go.Proofs.Ytgfoobgkpnknmaa
set_option linter.unusedSimpArgs false
set_option linter.unusedVariables false
open Go.RowKit
theorem isTop_first {cs : List CC} (h : 0 < cs.length) : IsTop (cs.take 1) 0 cs[0] := by
  have e : cs.take 1 = [cs[0]] := by
    cases cs with
    | nil => simp at h
    | cons a r => rfl
  rw [e]
  refine ⟨rfl, fun i d hd => ?_, fun i d _ hi => by omega⟩
  cases i with
  | zero => simp at hd; subst hd; omega
  | succ i => simp at hd
theorem isTop_new {cs : List CC} {j m : Nat} {d : CC} (hj : j < cs.length) (h : IsTop (cs.take j) m d) (hlt : cAt cs[j] < cAt d) : IsTop (cs.take (j + 1)) j cs[j] := by
  rw [List.take_succ_eq_append_getElem hj]
  have hl : (cs.take j).length = j := by rw [List.length_take]; omega
  refine ⟨by rw [List.getElem?_append_right (by omega), hl, Nat.sub_self]; rfl, fun i e he => ?_, fun i e he hi => ?_⟩
  · rw [List.getElem?_append] at he
    split at he
    · have := h.le i e he; omega
    · rw [List.getElem?_singleton] at he
      split at he
      · injection he with he; rw [he]; omega
      · cases he
  · rw [List.getElem?_append_left (by omega)] at he
    have := h.le i e he; omega
theorem isTop_old {cs : List CC} {j m : Nat} {d : CC} (hj : j < cs.length) (h : IsTop (cs.take j) m d) (hge : ¬ cAt cs[j] < cAt d) : IsTop (cs.take (j + 1)) m d := by
  rw [List.take_succ_eq_append_getElem hj]
  have hl : (cs.take j).length = j := by rw [List.length_take]; omega
  have hm : m < j := by have := (List.getElem?_eq_some_iff.1 h.at_).1; omega
  refine ⟨by rw [List.getElem?_append_left (by omega)]; exact h.at_, fun i e he => ?_, fun i e he hi => ?_⟩
  · rw [List.getElem?_append] at he
    split at he
    · exact h.le i e he
    · rw [List.getElem?_singleton] at he
      split at he
      · injection he with he; rw [← he]; omega
      · cases he
  · rw [List.getElem?_append_left (by omega)] at he
    exact h.lt i e he hi
def cTopI (cs : List CC) : Int := match cTop cs with
  | some (k, _) => k
  | none => -1
def NextRel (cs : List CC) (j : Nat) (k : Value) : Prop := (j = 0 ∧ k = .int .i64 (-1)) ∨ ∃ (m : Nat) (d : CC), IsTop (cs.take j) m d ∧ k = .int .i64 m
theorem next_end {cs : List CC} {k : Value} (h : NextRel cs cs.length k) : k = .int .i64 (cTopI cs) := by
  rcases h with ⟨h, rfl⟩ | ⟨m, d, h, rfl⟩
  · have : cs = [] := List.eq_nil_of_length_eq_zero h
    rw [this]; rfl
  · rw [List.take_length] at h
    unfold cTopI; rw [h.eq]
set_option maxRecDepth 100000 in
set_option maxHeartbeats 2000000 in
theorem rnext_any {w : World} {cs : List CC} {A : Option Addr} {c : Nat} (h : Rd w 153 7 cs.length A (rows rcell cs)) (hl : cs.length ≤ 1000000) (hok : ∀ x ∈ cs, CcOk x) (most last : Int) :
    Calls Try.prog 78 #[.agg #[.int .i64 most, .int .i64 last, .slice A cs.length c]] w fun e w' => e = .returned (.int .i64 (cTopI cs)) ∧ Below w.heap.size w w' := by
  go_enter Try.func78, Try.ntmps78
  go_wp2
  obtain ⟨W, hW⟩ : ∃ W, w.alloc (.cells #[.int .i64 most, .int .i64 last, .slice A cs.length c] 90) = W := ⟨_, rfl⟩
  have HT := Lib.hid (hW ▸ Blk.new w 90 #[.int .i64 most, .int .i64 last, .slice A cs.length c])
  have HR := Lib.hid (hW ▸ h.alloc (.cells #[.int .i64 most, .int .i64 last, .slice A cs.length c] 90))
  have HB : Hid (Below w.heap.size w W) := Lib.hid (hW ▸ (Below.refl _ _).alloc (Nat.le_refl _) _)
  have HOK := Lib.hid hok
  rw [hW]
  clear hW h hok
  go_loopw [3, 4] (fun k i wr => ∃ j : Nat, j ≤ cs.length ∧ i = .int .i64 j ∧ NextRel cs j k ∧ Below W.heap.size W wr) (fun _ i _ => cs.length - (intOf i).toNat)
  case atStart => exact ⟨0, by omega, rfl, .inl ⟨rfl, rfl⟩, Below.refl _ _⟩
  case round =>
    obtain ⟨j, hj, rfl, hrel, hb⟩ := hrel
    have ht := (HT.out.fr (Fr.of_below (F := fun _ => False) hb) (fun h => h)).cell 2
    have ht2 : wr.cell? ⟨w.heap.size, 2, none⟩ = some (.slice A cs.length c) := ht
    clear ht
    by_cases hlt : j < cs.length
    · have x0 : (0 : Int) ≤ j := by omega
      have x1 : (j : Int) < cs.length := by omega
      rcases hrel with ⟨rfl, rfl⟩ | ⟨m, d, hT, rfl⟩
      · have hneg : decide ((-1 : Int) < 0) = true := rfl
        have HREL := Lib.hid (isTop_first hlt)
        have HBB := Lib.hid (fun n => below_drewN hb n)
        clear hb
        go_wp2
        go_quiet (fail)
        go_wp2
        go_roundw
        case rel => exact ⟨1, by omega, by go_num, .inr ⟨0, _, HREL.out, by go_num⟩, HBB.out _⟩
        case measure => simp [intOf] <;> omega
      · have hm : m < j := by have := (List.getElem?_eq_some_iff.1 hT.at_).1; rw [List.length_take] at this; omega
        have hmd : cs[m]? = some d := by have := hT.at_; rw [List.getElem?_take, if_pos hm] at this; exact this
        obtain ⟨gb, off, rfl, _, hcj⟩ := rd_row rcell_len (HR.out.below hb) hlt
        obtain ⟨gb', off', e', _, hcm⟩ := rd_row rcell_len (HR.out.below hb) (i := m) (by omega)
        injection e' with e'
        injection e' with e1 e2
        subst e1 e2
        have hdm : cs[m] = d := (List.getElem?_eq_some_iff.1 hmd).2
        rw [hdm] at hcm
        have y0 : (0 : Int) ≤ m := by omega
        have y1 : (m : Int) < cs.length := by omega
        have hneg : decide ((m : Int) < 0) = false := decide_eq_false (by omega)
        have HS : Hid (∀ W', Below wr.heap.size wr W' → W'.cell? ⟨w.heap.size, 2, none⟩ = some (.slice (some ⟨gb, off, none⟩) cs.length c) ∧ W'.cell? ⟨gb, off + j * 7, none⟩ = some (.int .i64 cs[j].id) ∧ W'.cell? ⟨gb, off + j * 7 + 1, none⟩ = some (.string cs[j].br) ∧ W'.cell? ⟨gb, off + j * 7 + 2, none⟩ = some (.int .i64 cs[j].bg) ∧ W'.cell? ⟨gb, off + j * 7 + 3, none⟩ = some (.int .i64 cs[j].tm) ∧ W'.cell? ⟨gb, off + j * 7 + 4, none⟩ = some (.int .i64 cs[j].rest) ∧ W'.cell? ⟨gb, off + j * 7 + 5, none⟩ = some (.string cs[j].to) ∧ W'.cell? ⟨gb, off + j * 7 + 6, none⟩ = some (.string cs[j].bs) ∧ W'.cell? ⟨gb, off + m * 7, none⟩ = some (.int .i64 d.id) ∧ W'.cell? ⟨gb, off + m * 7 + 1, none⟩ = some (.string d.br) ∧ W'.cell? ⟨gb, off + m * 7 + 2, none⟩ = some (.int .i64 d.bg) ∧ W'.cell? ⟨gb, off + m * 7 + 3, none⟩ = some (.int .i64 d.tm) ∧ W'.cell? ⟨gb, off + m * 7 + 4, none⟩ = some (.int .i64 d.rest) ∧ W'.cell? ⟨gb, off + m * 7 + 5, none⟩ = some (.string d.to) ∧ W'.cell? ⟨gb, off + m * 7 + 6, none⟩ = some (.string d.bs)) := Lib.hid (fun W' hb' => by
          have q0 := (HT.out.fr (Fr.of_below (F := fun _ => False) (hb.trans (hb'.mono hb.size))) (fun h => h)).cell 2
          have k : ∀ p v, wr.cell? p = some v → W'.cell? p = some v := fun p v h => (hb'.cell (World.block_lt_of_cell? wr _ h)).trans h
          exact ⟨q0, k _ _ (hcj 0 (by omega)), k _ _ (hcj 1 (by omega)), k _ _ (hcj 2 (by omega)), k _ _ (hcj 3 (by omega)), k _ _ (hcj 4 (by omega)), k _ _ (hcj 5 (by omega)), k _ _ (hcj 6 (by omega)), k _ _ (hcm 0 (by omega)), k _ _ (hcm 1 (by omega)), k _ _ (hcm 2 (by omega)), k _ _ (hcm 3 (by omega)), k _ _ (hcm 4 (by omega)), k _ _ (hcm 5 (by omega)), k _ _ (hcm 6 (by omega))⟩)
        have HA := Lib.hid (rcat_any cs[j] (HOK.out _ (List.getElem_mem hlt)))
        have HD := Lib.hid (rcat_any d (HOK.out _ (List.mem_of_getElem? hmd)))
        have HBB := Lib.hid hb
        have HTT := Lib.hid hT
        have HMD := Lib.hid hmd
        clear hcj hcm hdm hT hmd hb
        have hsb : Hid (∀ W1 W2, Below wr.heap.size wr W1 → Below W1.heap.size W1 W2 → Below wr.heap.size wr W2) := Lib.hid fun W1 W2 h1 h2 => h1.trans (h2.mono h1.size)
        go_wp2_with fail
        generalize hxj : cs[j] = xj at *
        have HXJ := Lib.hid hxj
        clear hxj
        go_region_held3 (fun w' => w'.cell? ⟨w.heap.size, 2, none⟩ = some (.slice (some ⟨gb, off, none⟩) cs.length c) ∧ w'.cell? ⟨gb, off + j * 7, none⟩ = some (.int .i64 xj.id) ∧ w'.cell? ⟨gb, off + j * 7 + 1, none⟩ = some (.string xj.br) ∧ w'.cell? ⟨gb, off + j * 7 + 2, none⟩ = some (.int .i64 xj.bg) ∧ w'.cell? ⟨gb, off + j * 7 + 3, none⟩ = some (.int .i64 xj.tm) ∧ w'.cell? ⟨gb, off + j * 7 + 4, none⟩ = some (.int .i64 xj.rest) ∧ w'.cell? ⟨gb, off + j * 7 + 5, none⟩ = some (.string xj.to) ∧ w'.cell? ⟨gb, off + j * 7 + 6, none⟩ = some (.string xj.bs) ∧ w'.cell? ⟨gb, off + m * 7, none⟩ = some (.int .i64 d.id) ∧ w'.cell? ⟨gb, off + m * 7 + 1, none⟩ = some (.string d.br) ∧ w'.cell? ⟨gb, off + m * 7 + 2, none⟩ = some (.int .i64 d.bg) ∧ w'.cell? ⟨gb, off + m * 7 + 3, none⟩ = some (.int .i64 d.tm) ∧ w'.cell? ⟨gb, off + m * 7 + 4, none⟩ = some (.int .i64 d.rest) ∧ w'.cell? ⟨gb, off + m * 7 + 5, none⟩ = some (.string d.to) ∧ w'.cell? ⟨gb, off + m * 7 + 6, none⟩ = some (.string d.bs))
          (first | exact HS.out _ (Below.refl _ _) | exact HS.out _ (Below.refl _ _).drew | exact HS.out _ ((Below.refl _ _).drew.trans (hbc)) | exact HS.out _ ((Below.refl _ _).drew.trans (hbc.trans (hbd.mono hbc.size))) | exact HS.out _ ((Below.refl _ _).drew.trans (hbd)) | exact HS.out _ ((Below.refl _ _).drew.trans (hbd.trans (hbc.mono hbd.size))))
          (first | (go_at_call 79; (with_reducible refine (HA.out _).mono ?_); rintro e wc ⟨rfl, hbc⟩) | (go_at_call 79; (with_reducible refine (HD.out _).mono ?_); rintro e wd ⟨rfl, hbd⟩))
        have HF : Hid (Below W.heap.size W wd) := Lib.hid (HBB.out.trans (((Below.refl _ _).drew.trans (hbc.trans (hbd.mono hbc.size))).mono HBB.out.size))
        clear hbc hbd
        by_cases hq : cAt xj < cAt d
        · have HN := Lib.hid (isTop_new hlt HTT.out (by rw [HXJ.out]; exact hq))
          go_wp2
          go_roundw
          case rel => exact ⟨j + 1, by omega, by go_num, .inr ⟨j, _, HN.out, rfl⟩, HF.out⟩
          case measure => simp [intOf] <;> omega
        · have HN := Lib.hid (isTop_old hlt HTT.out (by rw [HXJ.out]; exact hq))
          go_wp2
          go_roundw
          case rel => exact ⟨j + 1, by omega, by go_num, .inr ⟨m, _, HN.out, rfl⟩, HF.out⟩
          case measure => simp [intOf] <;> omega
    · obtain rfl : j = cs.length := by omega
      have HE := Lib.hid (next_end hrel)
      have HBB := Lib.hid (HB.out.trans (hb.mono HB.out.size))
      clear hrel hb
      go_wp2
      go_ret
      exact ⟨ret_val HE.out, HBB.out⟩
theorem live_skip {cs : List CC} {i : Nat} {id : Int} (hi : i < cs.length) (h : cs[i].id ≠ id) : cLive (cs.drop i) id = cLive (cs.drop (i + 1)) id := by
  rw [List.drop_eq_getElem_cons hi]
  unfold cLive
  rw [List.find?_cons_of_neg (by simpa using h)]
theorem live_hit {cs : List CC} {i : Nat} {id : Int} (hi : i < cs.length) (h : cs[i].id = id) : cLive (cs.drop i) id = decide (cs[i].rest < 0) := by
  rw [List.drop_eq_getElem_cons hi]
  unfold cLive
  rw [List.find?_cons_of_pos (by simpa using h)]
set_option maxHeartbeats 1000000 in
theorem rlive_any {w : World} {cs : List CC} {A : Option Addr} {c : Nat} (h : Rd w 153 7 cs.length A (rows rcell cs)) (hl : cs.length ≤ 1000000) (most last id : Int) :
    Calls Try.prog 45 #[.agg #[.int .i64 most, .int .i64 last, .slice A cs.length c], .int .i64 id] w fun e w' => e = .returned (.bool (cLive cs id)) ∧ Below w.heap.size w w' := by
  go_enter Try.func45, Try.ntmps45
  go_wp2
  obtain ⟨W, hW⟩ : ∃ W, w.alloc (.cells #[.int .i64 most, .int .i64 last, .slice A cs.length c] 90) = W := ⟨_, rfl⟩
  have ht := (hW ▸ Blk.new w 90 #[.int .i64 most, .int .i64 last, .slice A cs.length c] : Blk W w.heap.size 90 _).cell 2
  have ht2 : W.cell? ⟨w.heap.size, 2, none⟩ = some (.slice A cs.length c) := ht
  have HR := Lib.hid (hW ▸ h.alloc (.cells #[.int .i64 most, .int .i64 last, .slice A cs.length c] 90))
  have HB : Hid (Below w.heap.size w W) := Lib.hid (hW ▸ (Below.refl _ _).alloc (Nat.le_refl _) _)
  rw [hW]
  clear hW h ht
  go_loop [5] (fun i => ∃ j : Nat, j ≤ cs.length ∧ i = .int .i64 j ∧ cLive cs id = cLive (cs.drop j) id) (fun i => cs.length - (intOf i).toNat)
  case atStart => exact ⟨0, by omega, rfl, rfl⟩
  case round =>
    obtain ⟨j, hj, rfl, hrel⟩ := hrel
    by_cases hlt : j < cs.length
    · have x0 : (0 : Int) ≤ j := by omega
      have x1 : (j : Int) < cs.length := by omega
      obtain ⟨gb, off, rfl, _, hcj⟩ := rd_row rcell_len HR.out hlt
      have c0 : W.cell? ⟨gb, off + j * 7, none⟩ = some (.int .i64 cs[j].id) := hcj 0 (by omega)
      have c4 : W.cell? ⟨gb, off + j * 7 + 4, none⟩ = some (.int .i64 cs[j].rest) := hcj 4 (by omega)
      by_cases he : cs[j].id = id
      · have HV := Lib.hid (hrel.trans (live_hit hlt he))
        have heb : (cs[j].id == id) = true := by rw [he]; exact beq_self_eq_true _
        clear hrel he hcj
        go_wp2
        go_ret
        exact ⟨ret_bool HV.out.symm, HB.out⟩
      · have HV := Lib.hid (hrel.trans (live_skip hlt he))
        have heb : (cs[j].id == id) = false := beq_eq_false_iff_ne.2 he
        clear hrel he hcj
        go_wp2
        go_round
        case rel => exact ⟨j + 1, by omega, by go_num, HV.out⟩
        case measure => simp [intOf] <;> omega
    · have HV := Lib.hid (show cLive cs id = false by rw [hrel, List.drop_eq_nil_of_le (by omega)]; rfl)
      clear hrel
      go_wp2
      go_ret
      exact ⟨ret_bool HV.out.symm, HB.out⟩
end Go.Proofs.Ytgfoobgkpnknmaa
