/- The laws of the wheel: filled; WheelSteps, WheelNobody. -/
import Derived.Test.YtgfoobgkpnknmaaA1
namespace Go.Proofs.Ytgfoobgkpnknmaa
set_option linter.unusedSimpArgs false
set_option linter.unusedVariables false
open Go.RowKit
def icells (l : List Int) : List Value := l.map fun n => .int .i64 n
theorem rd_int {w : World} {B : Nat} {l : List Int} {A : Option Addr} (h : RdB w B 1 l.length A (icells l)) {i : Nat} (hi : i < l.length) :
    ∃ gb off, A = some ⟨gb, off, none⟩ ∧ w.cell? ⟨gb, off + i, none⟩ = some (.int .i64 l[i]) := by
  obtain ⟨gb, off, e, _, hc⟩ := h.at_ (by omega)
  exact ⟨gb, off, e, hc _ _ (by simp [icells, hi])⟩
def fillL (ats : List Int) : Nat → List TM
  | 0 => []
  | j + 1 => rSetL (fillL ats j) ((j % 97 : Nat) : Int) (ats.getD j 0)
def FillPost (ats : List Int) (w : World) (e : Ending) (w' : World) : Prop :=
  ∃ p F, e = .returned (.pointer (some ⟨p, 0, none⟩)) ∧ Wh w' p (fillL ats (min ats.length 500)) F ∧ Below w.heap.size w w' ∧ ∀ k, F k → w.heap.size ≤ k
set_option maxRecDepth 100000 in
set_option maxHeartbeats 1000000 in
theorem filled_any {w : World} {B : Nat} {ats : List Int} {A : Option Addr} {c : Nat} (h : RdB w B 1 ats.length A (icells ats)) (hB : B ≤ w.heap.size) (hl : ats.length ≤ 9223372036854775807) :
    Calls Try.prog 21 #[.slice A ats.length c] w (FillPost ats w) := by
  go_enter Try.func21, Try.ntmps21
  go_wp2_with fail
  refine (new_any w).mono ?_
  rintro e w1 ⟨p, F, rfl, hW, hb1, hF⟩
  have HST := Lib.hid (show Wh w1 p (fillL ats 0) F from hW)
  have HB1 := Lib.hid hb1
  have HF1 := Lib.hid hF
  clear hW hb1 hF
  go_wp2
  go_loopw [4] (fun i wr => ∃ (j : Nat) (F : Nat → Prop), j ≤ ats.length ∧ j ≤ 500 ∧ i = .int .i64 j ∧ Wh wr p (fillL ats j) F ∧ Below w.heap.size w wr ∧ ∀ k, F k → w.heap.size ≤ k) (fun i _ => 500 - (intOf i).toNat)
  case atStart => exact ⟨0, F, by omega, by omega, rfl, HST.out, HB1.out, HF1.out⟩
  case round =>
    obtain ⟨j, F, hj, hj5, rfl, hW, hb, hF⟩ := hrel
    have hbs := hb.size
    have HW := Lib.hid hW
    have HF := Lib.hid hF
    have HB := Lib.hid hb
    by_cases hlt : j < ats.length ∧ j < 500
    · obtain ⟨h1, h2⟩ := hlt
      obtain ⟨gb, off, rfl, c0⟩ := rd_int (h.below (hb.mono hB)) h1
      have hm : (j : Int) % 97 = ((j % 97 : Nat) : Int) := by omega
      have HN := Lib.hid (show rSetL (fillL ats j) ((j % 97 : Nat) : Int) ats[j] = fillL ats (j + 1) by show _ = rSetL _ _ (ats.getD j 0); rw [List.getD_eq_getElem?_getD, List.getElem?_eq_getElem h1]; rfl)
      have HM := Lib.hid hm
      clear hW hb hF hm
      go_wp2_with fail
      rw [HM.out]
      refine (set_any (HW.out) _ _).mono ?_
      rintro e w2 ⟨rfl, F', hW2, hf2, hx2⟩
      rw [HN.out] at hW2
      have HW2 := Lib.hid hW2
      have HB2 := Lib.hid (hf2.to_below hbs HF.out)
      have HF2 : Hid (∀ k, F' k → w.heap.size ≤ k) := Lib.hid (fun k hk => (hx2 k hk).elim (HF.out k) (fun q => by omega))
      clear hW2 hf2 hx2
      go_wp2
      go_roundw
      case rel => exact ⟨j + 1, F', by omega, by omega, by go_num, HW2.out, HB.out.trans HB2.out, HF2.out⟩
      case measure => simp [intOf] <;> omega
    · have hmin : min ats.length 500 = j := by omega
      have HM := Lib.hid hmin
      clear hW hb hF hmin
      have hlt2 : ats.length ≤ j ∨ 500 ≤ j := by omega
      clear hlt
      rcases hlt2 with hlt | hlt
      all_goals
        go_wp2
        all_goals
          go_ret
          exact ⟨p, F, rfl, by rw [HM.out]; exact HW.out, HB.out, HF.out⟩
theorem steps_split (l : List TM) (a b : Int) (h : a ≤ b) : rDueA l a ++ rDueA (rDueB l a) b = rDueA l b ∧ rDueB (rDueB l a) b = rDueB l b := by
  induction l with
  | nil => exact ⟨rfl, rfl⟩
  | cons t r ih =>
    unfold rDueA rDueB at *
    by_cases h1 : t.1 ≤ a
    · have h2 : t.1 ≤ b := by omega
      rw [List.takeWhile_cons_of_pos (by simpa using h1), List.dropWhile_cons_of_pos (by simpa using h1), List.takeWhile_cons_of_pos (by simpa using h2), List.dropWhile_cons_of_pos (by simpa using h2)]
      exact ⟨by rw [List.cons_append, ih.1], ih.2⟩
    · rw [List.takeWhile_cons_of_neg (by simpa using h1), List.dropWhile_cons_of_neg (by simpa using h1)]
      exact ⟨rfl, rfl⟩
theorem own_empty (w : World) (T : TypeId) (sz : Nat) (hsz : 0 < sz) : (w.alloc (.cells #[] T)).ownsRow w.heap.size T sz (.slice (some ⟨w.heap.size, 0, none⟩) 0 0) 0 [] :=
  ⟨by simp, .inr ⟨w.heap.size, 0, #[], rfl, Nat.le_refl _, heap_alloc_new w _, Nat.le_refl _, by unfold maxLen; omega, by simp, by simp⟩⟩
theorem due_len (l : List TM) (now : Int) : (rDueA l now).length ≤ l.length := (List.takeWhile_sublist _).length_le
theorem dueB_len (l : List TM) (now : Int) : (rDueB l now).length ≤ l.length := (List.dropWhile_sublist _).length_le
theorem Wh.le {w : World} {p : Nat} {l : List TM} {F : Nat → Prop} (H : Wh w p l F) : l.length ≤ 4096 := by obtain ⟨_, _, _, _, H⟩ := H; exact H.le
set_option maxRecDepth 100000 in
set_option maxHeartbeats 2000000 in
theorem law_steps {w : World} {ats : List Int} {A : Option Addr} {c : Nat} (h : RdB w w.heap.size 1 ats.length A (icells ats)) (hl : ats.length ≤ 9223372036854775807) (fs sn : Int) :
    Calls Try.prog 3 #[.slice A ats.length c, .int .i64 fs, .int .i64 sn] w (LawPost w) := by
  by_cases hfs : sn < fs
  · go_enter Try.func3, Try.ntmps3
    go_wp2_with fail
    refine (awake_any w).mono ?_
    rintro e w1 ⟨rfl, hb⟩
    go_wp2
    go_ret
    exact ⟨rfl, hb⟩
  · obtain ⟨hs1, hs2⟩ := steps_split (fillL ats (min ats.length 500)) fs sn (by omega)
    generalize hL : fillL ats (min ats.length 500) = L at *
    have HL := Lib.hid hL
    have HS1 := Lib.hid hs1
    have HS2 := Lib.hid hs2
    have HR := Lib.hid h
    have hl1 := due_len L fs
    have hl2 := due_len (rDueB L fs) sn
    have hl3 := dueB_len L fs
    have hl4 := due_len L sn
    clear hL hs1 hs2 h
    go_enter Try.func3, Try.ntmps3
    go_wp2_with fail
    refine (filled_any (c := c) HR.out (Nat.le_refl _) hl).mono ?_
    rintro e w1 ⟨p, F, rfl, hW1, hb1, hF1⟩
    rw [HL.out] at hW1
    have HW1 := Lib.hid hW1
    have HB1 := Lib.hid hb1
    have HF1 := Lib.hid hF1
    have hs1 := hb1.size
    have hLe := hW1.le
    clear hW1 hb1 hF1
    go_wp2_with fail
    refine (filled_any (c := c) (HR.out.below HB1.out) hs1 hl).mono ?_
    rintro e w2 ⟨q, G, rfl, hW2, hb2, hG⟩
    rw [HL.out] at hW2
    have HQ2 := Lib.hid hW2
    have HP2 := Lib.hid (HW1.out.below hb2)
    have HB2 := Lib.hid hb2
    have HG := Lib.hid hG
    have HFl := Lib.hid fun k (hk : F k) => HW1.out.lt hk
    have HGl := Lib.hid fun k (hk : G k) => hW2.lt hk
    have hs2 := hb2.size
    clear hW2 hb2 hG
    have HPa := Lib.hid (HP2.out.fr ((Fr.refl (fun _ => False) w2).alloc (.cells #[] 36)) (fun _ _ h => h))
    have HQa := Lib.hid (HQ2.out.fr ((Fr.refl (fun _ => False) w2).alloc (.cells #[] 36)) (fun _ _ h => h))
    have hoe := Lib.hid (own_empty w2 36 2 (by omega))
    go_wp2_with fail
    refine (due_any HPa.out fs).mono ?_
    rintro e w3 ⟨v1, F1, rfl, ho1, hW3, hf3, hx3⟩
    have hs3 := hf3.size
    simp only [World.size_alloc] at hs3
    obtain ⟨A1, c1, e1, _, _, hr1⟩ := RdV.of_own ho1
    have HR1 := Lib.hid hr1
    have hoe3 := Lib.hid (own_fr hoe.out hf3 (fun k hk hF => by
      have := HFl.out k hF; simp [Value.ownBlock] at hk; omega))
    have HQ3 := Lib.hid (HQa.out.fr hf3 (fun k hk hF => by have := HFl.out k hF; have := HG.out k hk; omega))
    have HP3 := Lib.hid hW3
    have HX3 := Lib.hid hx3
    have HF3 := Lib.hid hf3
    clear ho1 hr1 hW3 hf3 hx3
    rw [e1]
    clear e1
    go_wp2_with (at_builtin; go_must (refine wpList_app_rd _ rfl (.tmp 18) (.tmp 21) 26 rfl w2.heap.size 36 2 16 _ Try.underlying26 e36i rfl (by omega) _ _ _ rfl hoe3.out _ _ _ _ rfl HR1.out (one_tcells _) (by unfold maxLen; omega) (by omega) (by omega) ?_); intro v2 w4 ho4 hb4 hg4 hat4)
    have hs4 := hb4.size
    have hf4 := Fr.of_belowB hb4
    have HP4 := Lib.hid (HP3.out.fr hf4 (fun k hk hq => by have := HFl.out k (HX3.out k hk); omega))
    have HQ4 := Lib.hid (HQ3.out.fr hf4 (fun k hk hq => by have := HGl.out k hk; omega))
    have HO4 := Lib.hid ho4
    have HF4 := Lib.hid hf4
    clear ho4 hb4 hg4 hat4 hf4
    refine (due_any HP4.out sn).mono ?_
    rintro e w5 ⟨v3, F5, rfl, ho5, hW5, hf5, hx5⟩
    have hs5 := hf5.size
    obtain ⟨A3, c3, e3, _, _, hr3⟩ := RdV.of_own ho5
    have HR3 := Lib.hid hr3
    have HO5 := Lib.hid (own_fr HO4.out hf5 (fun k hk hF => by have := HFl.out k (HX3.out k hF); have := (HO4.out.lt k hk).1; omega))
    have HQ5 := Lib.hid (HQ4.out.fr hf5 (fun k hk hF => by have := HFl.out k (HX3.out k hF); have := HG.out k hk; omega))
    have HP5 := Lib.hid hW5
    have HX5 := Lib.hid hx5
    have HF5 := Lib.hid hf5
    clear ho5 hr3 hW5 hf5 hx5
    rw [e3]
    clear e3
    go_wp2_with (at_builtin; go_must (refine wpList_app_rd _ rfl (.tmp 22) (.tmp 25) 26 rfl w2.heap.size 36 2 16 _ Try.underlying26 e36i rfl (by omega) _ _ _ rfl HO5.out _ _ _ _ rfl HR3.out (one_tcells _) (by unfold maxLen; omega) (by omega) (by omega) ?_); intro v4 w6 ho6 hb6 hg6 hat6)
    have hs6 := hb6.size
    have hf6 := Fr.of_belowB hb6
    have HP6 := Lib.hid (HP5.out.fr hf6 (fun k hk hq => by have := HFl.out k (HX3.out k (HX5.out k hk)); omega))
    have HQ6 := Lib.hid (HQ5.out.fr hf6 (fun k hk hq => by have := HGl.out k hk; omega))
    have HO6 := Lib.hid ho6
    have HF6 := Lib.hid hf6
    clear ho6 hb6 hg6 hat6 hf6
    refine (due_any HQ6.out sn).mono ?_
    rintro e w7 ⟨v5, G7, rfl, ho7, hW7, hf7, hx7⟩
    have hs7 := hf7.size
    have HO7 := Lib.hid (own_fr HO6.out hf7 (fun k hk hF => by have := HGl.out k hF; have := (HO6.out.lt k hk).1; omega))
    have HP7 := Lib.hid (HP6.out.fr hf7 (fun k hk hF => by have := HFl.out k (HX3.out k (HX5.out k hk)); have := HG.out k hF; omega))
    have HQ7 := Lib.hid hW7
    have HF7 := Lib.hid hf7
    obtain ⟨A5, c5, e5, _, _, hr5⟩ := RdV.of_own ho7
    obtain ⟨A4, c4, e4, _, _, hr4⟩ := RdV.of_own HO7.out
    have HR5 := Lib.hid hr5
    have hcat : [] ++ tcells (rDueA L fs) ++ tcells (rDueA (rDueB L fs) sn) = tcells (rDueA L fs ++ rDueA (rDueB L fs) sn) := by simp [tcells]
    have hln : 0 + (rDueA L fs).length + (rDueA (rDueB L fs) sn).length = (rDueA L fs ++ rDueA (rDueB L fs) sn).length := by rw [List.length_append]; omega
    rw [hcat, hln] at hr4
    rw [hln] at e4
    rw [HS1.out] at hr4 e4
    have HR4 := Lib.hid hr4
    clear ho7 hr5 hr4 hW7 hf7 hx7 hcat hln
    rw [e5, e4]
    clear e5 e4
    go_wp2_with fail
    refine (rsame_any HR4.out HR5.out (by omega) (by omega)).mono ?_
    rintro e w8 ⟨rfl, n8, rfl⟩
    rw [show sameB (rDueA L sn) (rDueA L sn) = true from decide_eq_true rfl]
    go_wp2_with fail
    refine (len_any (HP7.out.below (below_drewN (Below.refl _ _) n8))).mono ?_
    rintro e w8 ⟨rfl, rfl⟩
    go_wp2_with fail
    refine (len_any (HQ7.out.below (below_drewN (Below.refl _ _) n8))).mono ?_
    rintro e w8 ⟨rfl, rfl⟩
    rw [HS2.out]
    go_wp2_with fail
    refine (awake_any _).mono ?_
    rintro e w9 ⟨rfl, hb9⟩
    go_wp2
    go_ret
    refine LawPost.via ?_ ⟨rfl, hb9⟩
    have b2 := (HB1.out.trans (HB2.out.mono hs1)).alloc (by omega) (.cells #[] 36)
    have b3 := HF3.out.to_below (B := w.heap.size) (by simp only [World.size_alloc]; omega) (fun k hk => HF1.out k hk)
    have b4 := HF4.out.to_below (B := w.heap.size) (by omega) (fun k hk => by omega)
    have b5 := HF5.out.to_below (B := w.heap.size) (by omega) (fun k hk => HF1.out k (HX3.out k hk))
    have b6 := HF6.out.to_below (B := w.heap.size) (by omega) (fun k hk => by omega)
    have b7 := HF7.out.to_below (B := w.heap.size) (by omega) (fun k hk => by have := HG.out k hk; omega)
    exact below_drewN (((((b2.trans b3).trans b4).trans b5).trans b6).trans b7) n8
end Go.Proofs.Ytgfoobgkpnknmaa
