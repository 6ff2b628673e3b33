/- The reference's wheel: Set. -/
import Derived.Test.YtgfoobgkpnknmaaR2
import Derived.Test.YtgfoobgkpnknmaaM5
namespace Go.Proofs.Ytgfoobgkpnknmaa
open Go.RowKit
def RSetPost (l : List TM) (id at_ : Int) (w : World) (e : Ending) (w' : World) : Prop :=
  ∃ v, e = .returned (.tuple #[v, .int .i64 (rSetE l id at_)]) ∧ RdV w' 36 2 (rSetL l id at_).length v (tcells (rSetL l id at_)) ∧ Below w.heap.size w w'
theorem ins_split (t : TM) : ∀ (l : List TM) (j : Nat), j ≤ l.length → (∀ s ∈ l.take j, ah s t) → (∀ s r, l.drop j = s :: r → ¬ ah s t) → rIns t l = l.take j ++ t :: l.drop j
  | [], _, _, _, _ => by simp [rIns]
  | s :: r, 0, _, _, h => by unfold rIns; rw [if_neg (h s r rfl)]; rfl
  | s :: r, j + 1, hj, ha, h => by
    unfold rIns
    rw [if_pos (ha s (by simp)), ins_split t r j (by simpa using hj) (fun u hu => ha u (by simp [hu])) (fun u q e => h u q (by simpa using e))]
    rfl
theorem one_tcells (l : List TM) : ∀ u ∈ tcells l, u.oneCell' = true := by
  intro u hu
  unfold tcells at hu
  rw [List.mem_flatMap] at hu
  obtain ⟨t, _, h⟩ := hu
  simp at h
  rcases h with rfl | rfl <;> rfl
theorem rset_same {l : List TM} {id at_ n : Int} {w w' : World} {v : Value} (h : rSetE l id at_ = n) (hn : n ≠ 0) (hr : RdV w' 36 2 l.length v (tcells l)) (hb : Below w.heap.size w w') : RSetPost l id at_ w (.returned (.tuple #[v, .int .i64 n])) w' := by
  have e : rSetL l id at_ = l := by unfold rSetL; rw [if_neg (by omega)]
  exact ⟨v, by rw [h], by rw [e]; exact hr, hb⟩
set_option maxRecDepth 100000 in
set_option maxHeartbeats 2000000 in
theorem rset_any {w : World} {l : List TM} {A : Option Addr} {c : Nat} (h : Rd w 36 2 l.length A (tcells l)) (hl : l.length ≤ 100000) (hlc : l.length ≤ c) (hc : c ≤ maxLen) (id at_ : Int) :
    Calls Try.prog 30 #[.slice A l.length c, .int .i64 id, .int .i64 at_] w (RSetPost l id at_ w) := by
  by_cases hA : id < 0 ∨ at_ < 0 ∨ 1099511627776 < at_
  · have HP := Lib.hid (rset_same (w := w) (w' := w) (v := .slice A l.length c) (setE_arg (l := l) hA) (by omega) ⟨A, c, rfl, hlc, hc, h⟩ (Below.refl _ _))
    rcases hA with hA | hA | hA
    all_goals
      go_enter Try.func30, Try.ntmps30
      go_wp2
      all_goals
        go_ret2
        exact HP.out
  have h0 : 0 ≤ id := by omega
  have h1 : 0 ≤ at_ := by omega
  have h2 : at_ ≤ 1099511627776 := by omega
  clear hA
  have hsl : (rStop l id).length ≤ l.length := (stop_sub l id).length_le
  by_cases hB : (rStop l id).length = l.length ∧ 4096 ≤ l.length
  · have hE : rSetE l id at_ = 5 := by unfold rSetE; rw [if_neg (by omega), if_pos hB]
    have hd : decide ((rStop l id).length < l.length) = false := decide_eq_false (by omega)
    have hst := Lib.hid (rstop_any (c := c) h (by omega) id)
    have hx : (4096 : Int) ≤ l.length := by omega
    have HR := Lib.hid h
    have HE := Lib.hid hE
    have HD := Lib.hid hd
    clear h hE hd hB hsl
    go_enter Try.func30, Try.ntmps30
    go_wp2_with fail
    refine (hst.out).mono ?_
    rintro e w1 ⟨v, rfl, _, hb⟩
    rw [HD.out]
    go_wp2
    go_ret2
    exact rset_same HE.out (by omega) ⟨A, c, rfl, hlc, hc, HR.out.below hb⟩ hb
  · have hE : rSetE l id at_ = 0 := by unfold rSetE; rw [if_neg (by omega), if_neg hB]
    have hst := Lib.hid (rstop_any (c := c) h (by omega) id)
    have HE := Lib.hid hE
    clear h hE
    have hdec : decide ((rStop l id).length < l.length) = true ∨ (decide ((rStop l id).length < l.length) = false ∧ ¬ (4096 : Int) ≤ l.length) := by
      by_cases q : (rStop l id).length < l.length
      · exact .inl (decide_eq_true q)
      · exact .inr ⟨decide_eq_false q, by omega⟩
    clear hB
    generalize hrr : rStop l id = rr at *
    have HRR := Lib.hid hrr
    clear hrr
    generalize hdd : decide (rr.length < l.length) = dd at *
    have HDD := Lib.hid hdd
    clear hdd
    go_enter Try.func30, Try.ntmps30
    go_wp2_with fail
    refine (hst.out).mono ?_
    rintro e w1 ⟨v, rfl, hrv, hb⟩
    rw [HRR.out] at hrv
    obtain ⟨A', c', e, k1, k2, k3⟩ := hrv
    have HK := Lib.hid k3
    have HB := Lib.hid hb
    clear hb k3
    have k4 : c' ≤ 9223372036854775807 := by unfold maxLen at k2; omega
    rw [e, HRR.out, HDD.out]
    rcases hdec with rfl | ⟨rfl, hx⟩
    all_goals
      go_wp2
      obtain ⟨W, hW⟩ : ∃ W, w1.alloc (.cells #[.int .i64 at_, .int .i64 id] 36) = W := ⟨_, rfl⟩
      have HBT := Lib.hid (hW ▸ Blk.new w1 36 #[.int .i64 at_, .int .i64 id])
      have HKW := Lib.hid (hW ▸ (HK.out).alloc (.cells #[.int .i64 at_, .int .i64 id] 36))
      have HBW : Hid (Below w.heap.size w W) := Lib.hid (hW ▸ HB.out.alloc HB.out.size _)
      rw [hW]
      clear hW
      go_loopw [11] (fun i wr => ∃ j : Nat, j ≤ rr.length ∧ i = .int .i64 j ∧ (∀ s ∈ rr.take j, ah s (at_, id)) ∧ Below W.heap.size W wr) (fun i _ => rr.length - (intOf i).toNat)
      case atStart => exact ⟨0, by omega, rfl, by simp, Below.refl _ _⟩
      case round =>
        obtain ⟨j, hj, rfl, hall, hbw⟩ := hrel
        have hjl : j ≤ 100000 := by omega
        by_cases hlt : j < rr.length
        · have hdl : decide ((j : Int) < rr.length) = true := by simp; omega
          obtain ⟨gb, off, e1, c0, c1⟩ := rd_tm (HKW.out.below hbw) hlt
          have hbt := (HBT.out).fr (Fr.of_below (F := fun _ => False) hbw) (fun h => h)
          have t0 := hbt.cell 0
          have t1 := hbt.cell 1
          have HBWR := Lib.hid hbw
          have HALL := Lib.hid hall
          have hah := Lib.hid (fun W2 => ahead_any rr[j] (at_, id) W2)
          have b0 : (0 : Int) ≤ j := by omega
          have b1 : (j : Int) < rr.length := by omega
          subst e1
          clear hbw hall hbt
          by_cases hq : ah rr[j] (at_, id)
          · have HQ := Lib.hid hq
            have HQB := Lib.hid (show lsB rr[j] (at_, id) = true from decide_eq_true hq)
            clear hq
            go_wp2
            go_still_tail 10, (by kernel_rfl)
            go_wp2_with fail
            refine (hah.out _).mono ?_
            rintro e w2 ⟨rfl, hb2⟩
            rw [HQB.out]
            have HB2 := Lib.hid hb2
            clear hb2
            go_wp2
            go_roundw
            case rel =>
              refine ⟨j + 1, by omega, by go_num, fun s hs => ?_, ?_⟩
              · rw [List.take_succ_eq_append_getElem hlt] at hs
                rcases List.mem_append.1 hs with q | q
                · exact HALL.out s q
                · simp at q; subst q; exact HQ.out
              · exact HBWR.out.trans ((Below.refl _ _).drew.trans (HB2.out.mono HBWR.out.size))
            case measure => simp [intOf] <;> omega
          · have HQ := Lib.hid hq
            have HQB := Lib.hid (show lsB rr[j] (at_, id) = false from decide_eq_false hq)
            clear hq
            go_wp2
            go_still_tail 10, (by kernel_rfl)
            go_wp2_with fail
            refine (hah.out _).mono ?_
            rintro e w2 ⟨rfl, hb2⟩
            rw [HQB.out]
            have hbx : Below W.heap.size W w2 := HBWR.out.trans ((Below.refl _ _).drew.trans (hb2.mono HBWR.out.size))
            clear hb2
            have hcj : ¬ c' = j := by omega
            have hR1 : Hid (∀ W2, Below w2.heap.size w2 W2 → Rd W2 36 2 j (some ⟨gb, off, none⟩) (tcells (rr.take j))) := Lib.hid (fun W2 hbw => by
              rw [tcells_take]; exact ((HKW.out.below hbx).below hbw).take hj)
            have hR2 : Hid (∀ W2, Below w2.heap.size w2 W2 → Rd W2 36 2 (rr.length - j) (some ⟨gb, off + j * 2, none⟩) (tcells (rr.drop j))) := Lib.hid (fun W2 hbw => by
              have := ((HKW.out.below hbx).below hbw).cut hj k1
              rw [if_neg hcj, show (some (⟨gb, off, none⟩ : Addr)).map (·.add (j * 2)) = some ⟨gb, off + j * 2, none⟩ by simp only [Option.map_some, Addr.add]; by_cases e : j * 2 = 0 <;> simp [e], ← tcells_drop] at this
              exact this)
            have hsp := ins_split (at_, id) rr j hj HALL.out (fun s r e => by
              rw [List.drop_eq_getElem_cons hlt] at e
              injection e with e1 e2
              rw [← e1]; exact HQ.out)
            have HFIN : Hid (∀ W2 v3, Below w2.heap.size w2 W2 → W2.ownsRow w2.heap.size 36 2 v3 (0 + j + 1 + (rr.length - j)) ([] ++ tcells (rr.take j) ++ [.int .i64 at_, .int .i64 id] ++ tcells (rr.drop j)) → RSetPost l id at_ w (.returned (.tuple #[v3, .int .i64 0])) W2) := Lib.hid (fun W2 v3 hbw ho => by
              have e : rSetL l id at_ = rr.take j ++ (at_, id) :: rr.drop j := by unfold rSetL; rw [if_pos HE.out, HRR.out, hsp]
              refine ⟨v3, by rw [HE.out], ?_, HBW.out.trans ((hbx.mono HBW.out.size).trans (hbw.mono (Nat.le_trans HBW.out.size hbx.size)))⟩
              rw [e]
              have e2 : tcells (rr.take j ++ (at_, id) :: rr.drop j) = [] ++ tcells (rr.take j) ++ [.int .i64 at_, .int .i64 id] ++ tcells (rr.drop j) := by simp [tcells]
              rw [e2, List.length_append, List.length_cons, List.length_take, List.length_drop, show min j rr.length + (rr.length - j + 1) = 0 + j + 1 + (rr.length - j) from by omega]
              exact RdV.of_own ho)
            clear hsp
            have b2 : (j : Int) ≤ rr.length := by omega
            have b3 : (j : Int) ≤ c' := by omega
            have b4 : (rr.length : Int) ≤ c' := by omega
            have b5 : (0 : Int) ≤ rr.length := by omega
            have hbs := hbx.size
            have HBX := Lib.hid hbx
            have HBT2 := Lib.hid (fun (W2 : World) (hbw : Below w2.heap.size w2 W2) => ((HBT.out).fr (Fr.of_below (F := fun _ => False) hbx) (fun h => h)).fr (Fr.of_below (F := fun _ => False) hbw) (fun h => h))
            have hoe : Hid ((w2.alloc (.cells #[] 36)).ownsRow w2.heap.size 36 2 (.slice (some ⟨w2.heap.size, 0, none⟩) 0 0) 0 []) := Lib.hid ⟨rfl, .inr ⟨w2.heap.size, 0, #[], rfl, Nat.le_refl _, heap_alloc_new w2 _, Nat.le_refl _, by unfold maxLen; omega, rfl, rfl⟩⟩
            have hal : Hid (Below w2.heap.size w2 (w2.alloc (.cells #[] 36))) := Lib.hid ((Below.refl _ _).alloc (Nat.le_refl _) _)
            clear hbx
            go_wp2_with (first
  | (at_builtin; (refine wpList_app_rd _ rfl (.tmp 64) (.tmp 67) 26 rfl w2.heap.size 36 2 16 _ Try.underlying26 e36i rfl (by omega) _ _ _ rfl hown4 _ _ _ _ rfl (hR2.out _ ((hal.out.trans hb3).trans hb4)) (one_tcells _) (by unfold maxLen; omega) (by omega) (by have := hb4.size; simp at hs3; omega) ?_); intro v3 w5 hown5 hb5 hg5 hat5)
  | (at_builtin; (refine wpList_app1' rfl (.tmp 60) (.tmp 62) 26 rfl w2.heap.size 36 2 16 _ Try.underlying26 e36i rfl (by omega) _ _ _ rfl hown3 [_, _] _ rfl (by simp) rfl (by simp [Value.oneCell']) (by unfold maxLen; omega) (by omega) (by simp at hs3; omega) ?_); intro v2 w4 hown4 hb4 hg4 hat4)
  | (at_builtin; go_must (refine wpList_app_rd _ rfl (.tmp 55) (.tmp 58) 26 rfl w2.heap.size 36 2 16 _ Try.underlying26 e36i rfl (by omega) _ _ _ rfl hoe.out _ j c' _ rfl (hR1.out _ hal.out) (one_tcells _) (by unfold maxLen; omega) (by omega) (by simp) ?_); intro v1 w3 hown3 hb3 hg3 hat3; have t30 := (HBT2.out _ (hal.out.trans hb3)).cell 0; have t31 := (HBT2.out _ (hal.out.trans hb3)).cell 1; have hs3 := hb3.size))
            go_ret2
            exact HFIN.out _ v3 (((hal.out.trans hb3).trans hb4).trans hb5) hown5
        · have hdl : decide ((j : Int) < rr.length) = false := by simp; omega
          have hjl2 : j = rr.length := by omega
          subst hjl2
          have hbx : Below W.heap.size W wr.drew := hbw.drew
          have hR1 : Hid (∀ W2, Below wr.drew.heap.size wr.drew W2 → Rd W2 36 2 rr.length A' (tcells rr)) := Lib.hid (fun W2 hbw => (HKW.out.below hbx).below hbw)
          have hR2 : Hid (∀ W2, Below wr.drew.heap.size wr.drew W2 → ∀ A2, Rd W2 36 2 0 A2 (tcells [])) := Lib.hid (fun W2 hbw A2 => Rd.nil _ _ _ _)
          rw [List.take_length] at hall
          have hsp := ins_split (at_, id) rr rr.length (Nat.le_refl _) (by rw [List.take_length]; exact hall) (fun s r e => by rw [List.drop_length] at e; cases e)
          have HFIN : Hid (∀ W2 v3, Below wr.drew.heap.size wr.drew W2 → W2.ownsRow wr.drew.heap.size 36 2 v3 (0 + rr.length + 1 + 0) ([] ++ tcells rr ++ [.int .i64 at_, .int .i64 id] ++ tcells []) → RSetPost l id at_ w (.returned (.tuple #[v3, .int .i64 0])) W2) := Lib.hid (fun W2 v3 hbw ho => by
            have e : rSetL l id at_ = rr ++ [(at_, id)] := by unfold rSetL; rw [if_pos HE.out, HRR.out, hsp, List.take_length, List.drop_length]
            refine ⟨v3, by rw [HE.out], ?_, HBW.out.trans ((hbx.mono HBW.out.size).trans (hbw.mono (Nat.le_trans HBW.out.size hbx.size)))⟩
            rw [e]
            have e2 : tcells (rr ++ [(at_, id)]) = [] ++ tcells rr ++ [.int .i64 at_, .int .i64 id] ++ tcells [] := by simp [tcells]
            rw [e2, List.length_append, List.length_singleton, show rr.length + 1 = 0 + rr.length + 1 + 0 from by omega]
            exact RdV.of_own ho)
          clear hall hbw hsp
          have b2 : (rr.length : Int) ≤ c' := by omega
          have b3 : (0 : Int) ≤ rr.length := by omega
          go_wp2
          go_still_tail 10, (by kernel_rfl)
          change wpList _ _ _ _ _ wr.drew
          generalize wr.drew = wx at *
          have hcc : c' = rr.length ∨ ¬ c' = rr.length := Classical.em _
          rcases hcc with rfl | hcj
          all_goals
            have hbs := hbx.size
            have HBX := Lib.hid hbx
            have HBT2 := Lib.hid (fun (W2 : World) (hbw : Below wx.heap.size wx W2) => ((HBT.out).fr (Fr.of_below (F := fun _ => False) hbx) (fun h => h)).fr (Fr.of_below (F := fun _ => False) hbw) (fun h => h))
            have hoe : Hid ((wx.alloc (.cells #[] 36)).ownsRow wx.heap.size 36 2 (.slice (some ⟨wx.heap.size, 0, none⟩) 0 0) 0 []) := Lib.hid ⟨rfl, .inr ⟨wx.heap.size, 0, #[], rfl, Nat.le_refl _, heap_alloc_new wx _, Nat.le_refl _, by unfold maxLen; omega, rfl, rfl⟩⟩
            have hal : Hid (Below wx.heap.size wx (wx.alloc (.cells #[] 36))) := Lib.hid ((Below.refl _ _).alloc (Nat.le_refl _) _)
            clear hbx
            go_wp2_with (first
  | (at_builtin; (refine wpList_app_rd _ rfl (.tmp 64) (.tmp 67) 26 rfl wx.heap.size 36 2 16 _ Try.underlying26 e36i rfl (by omega) _ _ _ rfl hown4 _ _ _ _ rfl (hR2.out _ ((hal.out.trans hb3).trans hb4) _) (one_tcells _) (by unfold maxLen; omega) (by omega) (by have := hb4.size; simp at hs3; omega) ?_); intro v3 w5 hown5 hb5 hg5 hat5)
  | (at_builtin; (refine wpList_app1' rfl (.tmp 60) (.tmp 62) 26 rfl wx.heap.size 36 2 16 _ Try.underlying26 e36i rfl (by omega) _ _ _ rfl hown3 [_, _] _ rfl (by simp) rfl (by simp [Value.oneCell']) (by unfold maxLen; omega) (by omega) (by simp at hs3; omega) ?_); intro v2 w4 hown4 hb4 hg4 hat4)
  | (at_builtin; go_must (refine wpList_app_rd _ rfl (.tmp 55) (.tmp 58) 26 rfl wx.heap.size 36 2 16 _ Try.underlying26 e36i rfl (by omega) _ _ _ rfl hoe.out _ rr.length _ _ rfl (hR1.out _ hal.out) (one_tcells _) (by unfold maxLen; omega) (by omega) (by simp) ?_); intro v1 w3 hown3 hb3 hg3 hat3; have t30 := (HBT2.out _ (hal.out.trans hb3)).cell 0; have t31 := (HBT2.out _ (hal.out.trans hb3)).cell 1; have hs3 := hb3.size))
            go_ret2
            exact HFIN.out _ v3 (((hal.out.trans hb3).trans hb4).trans hb5) hown5
end Go.Proofs.Ytgfoobgkpnknmaa
