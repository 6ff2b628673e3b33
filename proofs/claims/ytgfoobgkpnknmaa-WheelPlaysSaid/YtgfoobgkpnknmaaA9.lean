/- The laws of the wheel: WheelPlays. -/
import Derived.Test.YtgfoobgkpnknmaaA8
import Derived.Test.YtgfoobgkpnknmaaK3
namespace Go.Proofs.Ytgfoobgkpnknmaa
set_option linter.unusedSimpArgs false
set_option linter.unusedVariables false
open Go.RowKit
theorem stop_dec {l : List TM} {id : Int} (h : (l.map (·.2)).Nodup) : decide ((rStop l id).length < l.length) = decide (id ∈ l.map (·.2)) := by
  by_cases hm : id ∈ l.map (·.2)
  · obtain ⟨t, ht, rfl⟩ := List.mem_map.1 hm
    have := stop_len_in h ht
    rw [decide_eq_true hm, decide_eq_true (by omega)]
  · rw [decide_eq_false hm, stop_none hm, decide_eq_false (by omega)]
set_option maxRecDepth 100000 in
set_option maxHeartbeats 4000000 in
theorem law_plays {w : World} {n c : Nat} {A : Option Addr} (h : RowI w w.heap.size 3 n A) (hl : n ≤ 9223372036854775807) :
    Calls Try.prog 6 #[.slice A n c] w (LawPost w) := by
  have HR := Lib.hid h
  clear h
  go_enter Try.func6, Try.ntmps6
  go_wp2_with fail
  refine (new_any w).mono ?_
  rintro e w1 ⟨p, F, rfl, hW, hb1, hF⟩
  have HST := Lib.hid hW
  have HB1 := Lib.hid hb1
  have HF1 := Lib.hid hF
  clear hW hb1 hF
  go_wp2
  go_loopw [4, 5] (fun v i wr => ∃ (j : Nat) (l : List TM) (F : Nat → Prop), j ≤ n ∧ j ≤ 100 ∧ i = .int .i64 j ∧ Wh wr p l F ∧ RdV wr 36 2 l.length v (tcells l) ∧ Below w.heap.size w wr ∧ ∀ k, F k → w.heap.size ≤ k) (fun _ i _ => 100 - (intOf i).toNat)
  case atStart => exact ⟨0, [], F, by omega, by omega, rfl, HST.out, RdV.nil _ _ _, HB1.out, HF1.out⟩
  case round =>
    obtain ⟨j, l, F, hj, hj5, rfl, hW, ⟨B, cb, rfl, hc1, hc2, hrd⟩, hb, hF⟩ := hrel
    have hbs := hb.size
    have hle := hW.le
    have HB := Lib.hid hb
    by_cases hlt : j < n ∧ j < 100
    · obtain ⟨h1, h2⟩ := hlt
      obtain ⟨gb, off, rfl, hgb, hcc⟩ := (HR.out.below hb) (by omega)
      obtain ⟨kd, c0⟩ := hcc j 0 h1 (by omega)
      obtain ⟨id, c1⟩ := hcc j 1 h1 (by omega)
      obtain ⟨at_, c2⟩ := hcc j 2 h1 (by omega)
      rw [Nat.add_zero] at c0
      clear hcc
      have HWA := Lib.hid (hW.below ((Below.refl _ _).alloc (Nat.le_refl _) (.cells #[.int .i64 kd, .int .i64 id, .int .i64 at_] 43)))
      have HRA := Lib.hid (hrd.alloc (.cells #[.int .i64 kd, .int .i64 id, .int .i64 at_] 43))
      have HBA := Lib.hid (hb.alloc hbs (.cells #[.int .i64 kd, .int .i64 id, .int .i64 at_] 43))
      have HBk := Lib.hid (Blk.new wr 43 #[.int .i64 kd, .int .i64 id, .int .i64 at_])
      have HF := Lib.hid hF
      clear hW hrd hb hF
      by_cases hk0 : kd = 0
      · subst hk0
        go_wp2_with fail
        refine (when_any HWA.out _).mono ?_
        rintro e w2 ⟨rfl, rfl⟩
        go_wp2_with fail
        refine (rwhen_any HRA.out (by omega) _).mono ?_
        rintro e w2 ⟨rfl, rfl⟩
        generalize (rWhen l id).1 = x1
        generalize (rWhen l id).2 = x2
        cases x2
        all_goals
          go_wp2_with fail
          refine (rset_any HRA.out (by omega) hc1 hc2 _ _).mono ?_
          rintro e w3 ⟨v3, rfl, ⟨A3, c3, rfl, hz1, hz2, hr3⟩, hb3⟩
          have hs3 := hb3.size
          have HB3 := Lib.hid hb3
          have HR3 := Lib.hid hr3
          have HW3 := Lib.hid (HWA.out.below hb3)
          have HBK := Lib.hid (HBk.out.fr (Fr.of_below (F := fun _ => False) hb3) (fun h => h))
          have k1 : w3.cell? ⟨wr.heap.size, 1, none⟩ = some (.int .i64 id) := HBK.out.cell 1
          have k2 : w3.cell? ⟨wr.heap.size, 2, none⟩ = some (.int .i64 at_) := HBK.out.cell 2
          clear hb3 hr3
          go_wp2_with fail
          refine (set_any HW3.out _ _).mono ?_
          rintro e w4 ⟨rfl, FZ, hW4, hf4, hx4⟩
          have HWZ := Lib.hid hW4
          have HRZ := Lib.hid (HR3.out.fr hf4 (fun gb cs fr hh => HW3.out.notT hh (by decide) (by decide) (by decide)))
          have HBZ := Lib.hid ((HBA.out.trans (HB3.out.mono HBA.out.size)).trans (hf4.to_below (by have := HBA.out.size; omega) HF.out))
          have HFZ : Hid (∀ k, FZ k → w.heap.size ≤ k) := Lib.hid (fun k hk => (hx4 k hk).elim (HF.out k) (fun q => by have := HBA.out.size; omega))
          have hs4 := hf4.size
          clear hW4 hf4 hx4 k1 k2
          generalize rSetE l id at_ = ee
          go_wp2_with fail
          refine (shows_any HWZ.out HRZ.out).mono ?_
          rintro e w8 ⟨rfl, hb8⟩
          have hs8 := hb8.size
          have HW8 := Lib.hid (HWZ.out.below hb8)
          have HR8 := Lib.hid (HRZ.out.below hb8)
          have HB8 := Lib.hid (HBZ.out.trans (hb8.mono HBZ.out.size))
          clear hb8
          go_wp2
          go_roundw
          case rel => exact ⟨j + 1, _, FZ, by omega, by omega, by go_num, HW8.out, ⟨_, _, rfl, hz1, hz2, HR8.out⟩, HB8.out, HFZ.out⟩
          case measure => simp [intOf] <;> omega
      · by_cases hk1 : kd = 1
        · subst hk1
          clear hk0
          go_wp2_with fail
          refine (when_any HWA.out _).mono ?_
          rintro e w2 ⟨rfl, rfl⟩
          go_wp2_with fail
          refine (rwhen_any HRA.out (by omega) _).mono ?_
          rintro e w2 ⟨rfl, rfl⟩
          generalize (rWhen l id).1 = x1
          generalize (rWhen l id).2 = x2
          cases x2
          all_goals
            go_wp2_with fail
            refine (rstop_any HRA.out (by omega) _).mono ?_
            rintro e w3 ⟨v3, rfl, ⟨A3, c3, rfl, hz1, hz2, hr3⟩, hb3⟩
            have hs3 := hb3.size
            have HB3 := Lib.hid hb3
            have HR3 := Lib.hid hr3
            have HW3 := Lib.hid (HWA.out.below hb3)
            have HBK := Lib.hid (HBk.out.fr (Fr.of_below (F := fun _ => False) hb3) (fun h => h))
            have k1 : w3.cell? ⟨wr.heap.size, 1, none⟩ = some (.int .i64 id) := HBK.out.cell 1
            have hsd := stop_dec (id := id) HW3.out.nd
            rw [hsd]
            clear hb3 hr3 hsd
            go_wp2_with fail
            refine (stop_any HW3.out _).mono ?_
            rintro e w4 ⟨rfl, FZ, hW4, hf4, hx4⟩
            have HWZ := Lib.hid hW4
            have HRZ := Lib.hid (HR3.out.fr hf4 (fun gb cs fr hh => HW3.out.notT hh (by decide) (by decide) (by decide)))
            have HBZ := Lib.hid ((HBA.out.trans (HB3.out.mono HBA.out.size)).trans (hf4.to_below (by have := HBA.out.size; omega) HF.out))
            have HFZ : Hid (∀ k, FZ k → w.heap.size ≤ k) := Lib.hid (fun k hk => HF.out k (hx4 k hk))
            have hs4 := hf4.size
            clear hW4 hf4 hx4 k1
            generalize decide (id ∈ l.map (·.2)) = dd
            cases dd
            all_goals
              go_wp2_with fail
              refine (shows_any HWZ.out HRZ.out).mono ?_
              rintro e w8 ⟨rfl, hb8⟩
              have hs8 := hb8.size
              have HW8 := Lib.hid (HWZ.out.below hb8)
              have HR8 := Lib.hid (HRZ.out.below hb8)
              have HB8 := Lib.hid (HBZ.out.trans (hb8.mono HBZ.out.size))
              clear hb8
              go_wp2
              go_roundw
              case rel => exact ⟨j + 1, _, FZ, by omega, by omega, by go_num, HW8.out, ⟨_, _, rfl, hz1, hz2, HR8.out⟩, HB8.out, HFZ.out⟩
              case measure => simp [intOf] <;> omega
        · skip
          go_wp2_with fail
          refine (when_any HWA.out _).mono ?_
          rintro e w2 ⟨rfl, rfl⟩
          go_wp2_with fail
          refine (rwhen_any HRA.out (by omega) _).mono ?_
          rintro e w2 ⟨rfl, rfl⟩
          generalize (rWhen l id).1 = x1
          generalize (rWhen l id).2 = x2
          cases x2
          all_goals
            go_wp2_with fail
            refine (rdue_any HRA.out (by omega) hc1 hc2 _).mono ?_
            rintro e w3 ⟨v3, u3, n3, rfl, ⟨A3, c3, rfl, hy1, hy2, hr3⟩, ⟨A4, c4, rfl, hz1, hz2, hr4⟩, rfl⟩
            have HR3 := Lib.hid hr3
            have HR4 := Lib.hid hr4
            have HW3 := Lib.hid (HWA.out.below (below_drewN (Below.refl _ _) n3))
            have hdl := due_len l at_
            clear hr3 hr4
            go_wp2_with fail
            refine (due_any HW3.out _).mono ?_
            rintro e w4 ⟨v5, FZ, rfl, ho5, hW4, hf4, hx4⟩
            have hs4 := hf4.size
            obtain ⟨A5, c5, rfl, _, _, hr5⟩ := RdV.of_own ho5
            have HR5 := Lib.hid hr5
            have HW4 := Lib.hid hW4
            have HR3' := Lib.hid (HR3.out.fr hf4 (fun gb cs fr hh => HW3.out.notT hh (by decide) (by decide) (by decide)))
            have HR4' := Lib.hid (HR4.out.fr hf4 (fun gb cs fr hh => HW3.out.notT hh (by decide) (by decide) (by decide)))
            have HB4 := Lib.hid ((below_drewN HBA.out n3).trans (hf4.to_below (by have := HBA.out.size; exact this) HF.out))
            have HF4 : Hid (∀ k, FZ k → w.heap.size ≤ k) := Lib.hid (fun k hk => HF.out k (hx4 k hk))
            clear ho5 hr5 hW4 hf4 hx4
            go_wp2_with fail
            refine (rsame_any HR5.out HR3'.out (by omega) (by omega)).mono ?_
            rintro e w5 ⟨rfl, n5, rfl⟩
            rw [show sameB (rDueA l at_) (rDueA l at_) = true from decide_eq_true rfl]
            have hd5 := Lib.hid (below_drewN (Below.refl w4.heap.size w4) n5)
            have HWZ := Lib.hid (HW4.out.below hd5.out)
            have HRZ := Lib.hid (HR4'.out.below hd5.out)
            have HBZ := Lib.hid (below_drewN HB4.out n5)
            have HFZ := HF4
            generalize w4.drewN n5 = wz at *
            go_wp2_with fail
            refine (shows_any HWZ.out HRZ.out).mono ?_
            rintro e w8 ⟨rfl, hb8⟩
            have hs8 := hb8.size
            have HW8 := Lib.hid (HWZ.out.below hb8)
            have HR8 := Lib.hid (HRZ.out.below hb8)
            have HB8 := Lib.hid (HBZ.out.trans (hb8.mono HBZ.out.size))
            clear hb8
            go_wp2
            go_roundw
            case rel => exact ⟨j + 1, _, FZ, by omega, by omega, by go_num, HW8.out, ⟨_, _, rfl, hz1, hz2, HR8.out⟩, HB8.out, HFZ.out⟩
            case measure => simp [intOf] <;> omega
    · have hlt2 : n ≤ j ∨ 100 ≤ j := by omega
      clear hlt hW hrd hb hF
      rcases hlt2 with hlt | hlt
      all_goals
        go_wp2_with fail
        all_goals
          refine (awake_any _).mono ?_
          rintro e w8 ⟨rfl, hb8⟩
          go_wp2
          go_ret
          exact LawPost.via HB.out ⟨rfl, hb8⟩
end Go.Proofs.Ytgfoobgkpnknmaa
