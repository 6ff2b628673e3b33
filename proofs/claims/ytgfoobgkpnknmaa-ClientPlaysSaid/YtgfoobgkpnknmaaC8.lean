/- The client's table as an object: Step. (Printed by wip/tools/cstep.py.) -/
import Derived.Test.YtgfoobgkpnknmaaC7
namespace Go.Proofs.Ytgfoobgkpnknmaa
set_option linter.unusedSimpArgs false
set_option linter.unusedVariables false
open Go.RowKit
set_option maxRecDepth 100000 in
set_option maxHeartbeats 4000000 in
theorem cstep_any {w : World} {p : Nat} {most last : Int} {cs : List CC} {F : Nat → Prop} (H : Cl w p most last cs F) (now : Int) :
    Calls Try.prog 39 #[.pointer (some ⟨p, 0, none⟩), .int .i64 now] w (CStepPost w p most last cs now F) := by
  obtain ⟨pw, l, FW, hW, hc4, hrt, hie⟩ := H.next
  have hm := Lib.hid H.made
  have HN := Lib.hid (next_any hW)
  have HR := Lib.hid hrt
  have HI := Lib.hid hie
  have HC := Lib.hid H
  have hms : cMs cs ≤ 100000 := by
    obtain ⟨xs, l, bn, bc, pw, kn, kc, FW, e, H, P⟩ := H
    have := P.ms; have := P.len; have := P.most; omega
  clear H hW hrt hie
  go_enter Try.func39, Try.ntmps39
  go_wp2_with fail
  refine (hm.out).mono ?_
  rintro e w' ⟨rfl, rfl⟩
  go_wp2_with fail
  refine (HN.out).mono ?_
  rintro e w1 ⟨rfl, hb1⟩
  rw [HR.out, HI.out]
  have HST : Hid (CStepRel p most last cs now F w 100000 (.slice none 0 0) (.pointer (some ⟨w1.heap.size, 0, none⟩)) (.bool (cTop cs).isSome) (w1.alloc (.cells #[.int .i64 (cTT cs).1, .int .i64 (cTT cs).2] 36))) := Lib.hid (by
    have hba := hb1.alloc hb1.size (.cells #[.int .i64 (cTT cs).1, .int .i64 (cTT cs).2] 36)
    exact ⟨cs, [], w1.heap.size, F, rfl, hms, by simp, rfl, rfl, Blk.new _ _ _, hb1.size, ⟨⟨rfl, .inl ⟨rfl, rfl⟩⟩, HC.out.below hba, Fr.of_below hba, fun _ h => .inl h⟩⟩)
  clear hb1 hc4
  go_wp2_with fail
  go_loopg [5, 6, 7] 100000 (fun k v t ok wr => CStepRel p most last cs now F w k v t ok wr)
  case atStart => exact HST.out
  case round =>
    obtain ⟨cs', o, tb, F', hrun, hmsr, hol, rfl, rfl, hblk, htb, hS⟩ := hrel
    have hend : (cTop cs' = none ∨ ∃ k c, cTop cs' = some (k, c) ∧ now < cAt c) → CStepPost w p most last cs now F (.returned u5) wr := fun hq => by
      have e : cStep cs now = (cs', o) := by
        rw [← hrun]
        rcases hq with q | ⟨k, c, q, hlt⟩
        · exact run_none q
        · exact run_stop q hlt
      exact ⟨u5, F', rfl, by rw [e]; exact hS.own, by rw [e]; exact hS.cl, hS.fr, hS.ex⟩
    have HEND := Lib.hid hend
    clear hend
    cases hT : cTop cs' with
    | none =>
      have HX := Lib.hid (HEND.out (.inl hT))
      rw [show (none : Option (Nat × CC)).isSome = false from rfl]
      clear hblk hS hrun hT
      go_wp2
      go_ret
      exact HX.out
    | some kc0 =>
      obtain ⟨i, c⟩ := kc0
      rw [show (some (i, c) : Option (Nat × CC)).isSome = true from rfl]
      rw [tt_some hT] at hblk
      by_cases hle : now < cAt c
      · have HX := Lib.hid (HEND.out (.inr ⟨i, c, hT, hle⟩))
        have t0 := hblk.cell 0
        clear hblk hS hrun hT
        go_wp2
        go_ret
        exact HX.out
      · have HT := Lib.hid hT
        have hSS := hS
        obtain ⟨own, ⟨xs, l, bn, bc, pw, kn, kc, FW, rfl, H1, P⟩, fr, ex⟩ := hS
        have hci := (top_spec hT).at_
        have hpos := P.ms_pos hci
        have haft := P.after hci
        obtain ⟨k, rfl⟩ : ∃ k, gk = k + 1 := ⟨gk - 1, by omega⟩
        have hrun' := hrun
        rw [run_go hT hle] at hrun'
        have hxi : ∃ x, xs[i]? = some x ∧ x.2 = c := by
          rw [List.getElem?_map] at hci
          cases hq : xs[i]? with
          | none => rw [hq] at hci; cases hci
          | some x => rw [hq] at hci; injection hci with hci; exact ⟨x, rfl, hci⟩
        obtain ⟨x, hx, rfl⟩ := hxi
        have heach := P.each x.2 (List.mem_of_getElem? hci)
        have hnx := nx_bd x.2.tm
        have t0 := hblk.cell 0
        have t1 := hblk.cell 1
        have k3 := H1.top.cell 3
        have hgc := H1.getc P.idnd hx
        have hgn := H1.getn P.brs hx
        have hlk := fun n => cm_at (H1.drewN n) hgc
        have HGC := Lib.hid hgc
        have HGN := Lib.hid hgn
        have HS := Lib.hid hSS
        have HB := Lib.hid hblk
        have HI1 := Lib.hid H1
        have HP := Lib.hid P
        have HX := Lib.hid hx
        have HCI := Lib.hid hci
        have HRUN := Lib.hid hrun'
        have hd : ¬ now < cAt x.2 := hle
        have hle' : cAt x.2 ≤ now := by omega
        have hown : Hid (wr.ownsRow w.heap.size 77 4 u5 o.length (rows dcell o)) := Lib.hid own
        have hom : o.length + 1 ≤ 100000 := by omega
        have HAFT := Lib.hid haft
        clear hrun hrun' hgc hgn hSS hblk H1 P hx hci hT own fr ex hle haft hpos
        go_wp2_with fail
        go_quiet (fail)
        have HSq := Lib.hid (HS.out.below (below_drewN (Below.refl _ _) nq))
        have HBq := Lib.hid (HB.out.drewN nq)
        have HIq := Lib.hid (HI1.out.drewN nq)
        have c5 : (wr.drewN nq).cell? ⟨x.1, 5, none⟩ = some (.bool (decide (0 ≤ x.2.rest))) := (HIq.out.its i x HX.out).cell 5
        have hwq := HSq.out.fr.size
        clear t0 t1 k3 hlk
        generalize wr.drewN nq = wq at *
        have s0 := HBq.out.cell 0
        have s1 := HBq.out.cell 1
        by_cases hr : x.2.rest < 0
        · rw [decide_eq_false (show ¬ 0 ≤ x.2.rest by omega)] at c5
          have hca : cAt x.2 = x.2.bg + cNx x.2.tm := by unfold cAt; rw [if_neg (by omega)]
          have hwsub : IntKind.i64.wrap (cAt x.2 - x.2.bg) = cNx x.2.tm := by rw [hca, show x.2.bg + cNx x.2.tm - x.2.bg = cNx x.2.tm by omega]; exact IntWalk.i64_in _ (by omega)
          have c1 : wq.cell? ⟨x.1, 1, none⟩ = some (.int .i64 x.2.bg) := (HIq.out.its i x HX.out).cell 1
          have HCA := Lib.hid hca
          clear hca
          by_cases hn : cNx x.2.tm < 320
          · have hdn : decide (320 ≤ cNx x.2.tm) = false := decide_eq_false (by omega)
            go_wp2_with fail
            go_quiet (fail)
            have HSr := Lib.hid (HSq.out.below (below_drewN (Below.refl _ _) nq))
            have HBr := Lib.hid (HBq.out.drewN nq)
            have HIr := Lib.hid (HIq.out.drewN nq)
            have hwr := HSr.out.fr.size
            have hoq : Hid ((wq.drewN nq).ownsRow w.heap.size 77 4 u5 o.length (rows dcell o)) := Lib.hid HSr.out.own
            clear s0 s1 c5 c1 HSq HBq HIq
            generalize wq.drewN nq = wq2 at *
            have s1 := HBr.out.cell 1
            have c3 : wq2.cell? ⟨x.1, 3, none⟩ = some (.string x.2.to) := (HIr.out.its i x HX.out).cell 3
            have c4 : wq2.cell? ⟨x.1, 4, none⟩ = some (.string x.2.bs) := (HIr.out.its i x HX.out).cell 4
            have hS3 : Hid (∀ (G : Nat → Prop) W, Fr G wq2 W → ¬ G tb → ¬ G x.1 → W.cell? ⟨tb, 1, none⟩ = some (.int .i64 x.2.id) ∧ W.cell? ⟨x.1, 3, none⟩ = some (.string x.2.to) ∧ W.cell? ⟨x.1, 4, none⟩ = some (.string x.2.bs)) := Lib.hid (fun G W hf h1 h2 =>
              ⟨(HBr.out.fr hf h1).cell 1, ((HIr.out.its i x HX.out).fr hf h2).cell 3, ((HIr.out.its i x HX.out).fr hf h2).cell 4⟩)
            have hOW : Hid (∀ W, Fr (fun _ => False) wq2 W → W.ownsRow w.heap.size 77 4 u5 o.length (rows dcell o)) := Lib.hid (fun W hf => own_fr hoq.out hf (fun _ _ h => h))
            have hnt : Hid (u5.ownBlock ≠ some tb) := Lib.hid (own_blk_ne hoq.out HBr.out (by decide))
            have hnx1 : Hid (u5.ownBlock ≠ some x.1) := Lib.hid (own_blk_ne hoq.out (HIr.out.its i x HX.out) (by decide))
            have hGW : Hid (∀ W W', Fr (fun _ => False) wq2 W → W.grownBy W' u5.ownBlock → Fr (fun k => u5.ownBlock = some k) wq2 W') := Lib.hid (fun W W' h1 h2 => (h1.mono fun _ _ q => q.elim).trans (Fr.of_grown h2 fun k h => h) (fun _ _ q => q))
            clear s1 c3 c4
            go_wp2_with fail
            go_region_held3 (fun w' => w'.cell? ⟨tb, 1, none⟩ = some (.int .i64 x.2.id) ∧ w'.cell? ⟨x.1, 3, none⟩ = some (.string x.2.to) ∧ w'.cell? ⟨x.1, 4, none⟩ = some (.string x.2.bs))
              (first | exact hS3.out _ _ (Fr.refl (fun _ => False) _) (fun h => h) (fun h => h) | exact hS3.out _ _ (Fr.refl (fun _ => False) _).drew (fun h => h) (fun h => h) | exact hS3.out _ _ ((Fr.refl (fun _ => False) _).alloc _).drew (fun h => h) (fun h => h) | exact hS3.out _ _ ((Fr.refl (fun _ => False) _).alloc _) (fun h => h) (fun h => h) | exact hS3.out _ _ hfg.out hnt.out hnx1.out)
              ((refine step_app1 (by rfl) (.tmp 42) (.tmp 50) 74 (by rfl) w.heap.size 77 4 48 (.agg #[.int .i64 0, .bool false, .string ⟨#[]⟩, .string ⟨#[]⟩]) Try.underlying74 e77i (by rfl) (by omega) u5 o.length (rows dcell o) (by rfl) (hOW.out _ ((Fr.refl (fun _ => False) _).alloc _).drew) (dcell ⟨x.2.id, false, x.2.to, x.2.bs⟩) wq2.heap.size (by rfl) (Blk.new wq2 _ _) (by rfl) (dcell_one _) (by unfold maxLen; omega) (by omega) (by simp; omega) ?_; intro v1 w6 hown6 hb6 hg6 hat6; have hfg := Lib.hid (hGW.out _ _ ((Fr.refl (fun _ => False) _).alloc _).drew hg6)))
            all_goals
              have hf6 := hfg.out
              have H6 := HIr.out.fr hf6 (fun k hk e => (HSr.out.nown e).1 hk)
              have hcs6 : CSt w p most last F (xs.map (·.2)) (o ++ [⟨x.2.id, false, x.2.to, x.2.bs⟩]) F' v1 w6 := by
                refine ⟨?_, HSr.out.cl.fr hf6 (fun k hk e => (HSr.out.nown e).1 hk), HSr.out.fr.trans hf6 (fun k hk e => absurd (HSr.out.nown e).2 (by omega)), HSr.out.ex⟩
                rw [rows_snoc, List.length_append, List.length_singleton]; exact hown6
              have HS6 := Lib.hid hcs6
              have HB6 := Lib.hid (HBr.out.fr hf6 hnt.out)
              have hcell : (ccell x.2).setIfInBounds 2 (.int .i64 (x.2.tm + 1)) = ccell { x.2 with tm := x.2.tm + 1 } := by unfold ccell; simp
              have hput := H6.put HX.out (c' := { x.2 with tm := x.2.tm + 1 }) (j := 2) (u := .int .i64 (x.2.tm + 1)) rfl rfl hcell
              have htm := (nx_lt (tm := x.2.tm) (by omega)).1 hn
              have hx7 : (xs.set i (x.1, { x.2 with tm := x.2.tm + 1 }))[i]? = some (x.1, { x.2 with tm := x.2.tm + 1 }) := by
                have := (List.getElem?_eq_some_iff.1 HX.out).1
                rw [List.getElem?_set, if_pos rfl, if_pos this]
              have HARM := Lib.hid (arm_any hput.1 hx7 HGC.out (by show 1 ≤ x.2.tm + 1 ∧ x.2.tm + 1 ≤ 11; omega) (by show 0 ≤ x.2.bg ∧ x.2.bg ≤ 1099511627136; omega))
              have HPUT := Lib.hid hput
              have d2 : w6.cell? ⟨x.1, 2, none⟩ = some (.int .i64 x.2.tm) := (H6.its i x HX.out).cell 2
              have f2 : w6.frozen? ⟨x.1, 2, none⟩ = false := (H6.its i x HX.out).frozen 2
              have s1 := HB6.out.cell 1
              have s1' : (w6.setCell ⟨x.1, 2, none⟩ (.int .i64 (x.2.tm + 1))).cell? ⟨tb, 1, none⟩ = some (.int .i64 x.2.id) := (HB6.out.fr (HPUT.out.2) (HS6.out.cl.notT HB6.out (by decide) (by decide) (by decide) (by decide) (by decide))).cell 1
              have hFP := Lib.hid (HP.out.set_ (c' := { x.2 with tm := x.2.tm + 1 }) HCI.out rfl rfl rfl (by show 1 ≤ x.2.tm + 1 ∧ x.2.tm + 1 ≤ 11; omega) (by show x.2.rest = -1 ∨ _; omega)).2
              have hca' : cAt { x.2 with tm := x.2.tm + 1 } = x.2.bg + cNx (x.2.tm + 1) := by unfold cAt; rw [if_neg (by show ¬ 0 ≤ x.2.rest; omega)]
              have HCA2 := Lib.hid hca'
              clear H6 hput hx7 hcell hcs6 hf6 hg6 hown6 hb6 hat6 hca'
              go_wp2_with fail
              refine (HARM.out).mono ?_
              rintro e w5 ⟨rfl, F5, FW5, H5, f5, x5⟩
              obtain ⟨cs5, hcs5⟩ : ∃ cs5, cs5 = (xs.map (·.2)).set i { x.2 with tm := x.2.tm + 1 } := ⟨_, rfl⟩
              obtain ⟨o5, ho5⟩ : ∃ o5, o5 = o ++ [⟨x.2.id, false, x.2.to, x.2.bs⟩] := ⟨_, rfl⟩
              have ff5 : Fr F' w6 w5 := HPUT.out.2.trans f5 (fun _ _ h => h)
              have HS5 : Hid (CSt w p most last F cs5 o5 F5 v1 w5) := Lib.hid (by
                rw [hcs5, ho5]
                refine HS6.out.step ff5 (fun k hk => (x5 k hk).elim .inl fun h => .inr (by have := HPUT.out.2.size; omega)) ⟨_, _, bn, bc, pw, _, _, FW5, by rw [List.map_set], H5, ?_⟩
                have := hFP.out
                rw [HCA2.out] at this
                exact this)
              have HB5 := Lib.hid (HS6.out.keepB ff5 HB6.out)
              have hdr := after_set (cs := xs.map (·.2)) (k := i) (c := x.2) ⟨by omega, hn⟩
              have HK5 : Hid (cRun k cs5 now o5 = cStep cs now ∧ cMs cs5 ≤ k ∧ o5.length + k ≤ 100000) := Lib.hid (by
                have h1 := HRUN.out
                have h2 := HAFT.out
                rw [hdr] at h1 h2
                have h3 : cDue x.2 = [⟨x.2.id, false, x.2.to, x.2.bs⟩] := by unfold cDue; rw [if_pos (by omega), if_pos hn]
                rw [h3] at h1
                rw [hcs5, ho5]
                exact ⟨h1, Nat.le_of_lt_succ (Nat.lt_of_lt_of_le h2 hmsr), by simp; omega⟩)
              clear H5 f5 x5 ff5 hcs5 ho5 hdr s1 s1' d2 f2
              have t0 := HB5.out.cell 0
              have t1 := HB5.out.cell 1
              obtain ⟨pw5, l5, FWn, hW5, hc45, hrt5, hie5⟩ := (HS5.out.cl.below ((Below.refl _ _).alloc (Nat.le_refl _) (.cells #[.int .i64 (cAt x.2), .int .i64 x.2.id] 36))).next
              have HN5 := Lib.hid (next_any hW5)
              have HR5 := Lib.hid hrt5
              have HI5 := Lib.hid hie5
              clear hW5 hrt5 hie5
              go_wp2_with fail
              refine (HN5.out).mono ?_
              rintro e w7 ⟨rfl, hb7⟩
              rw [HR5.out, HI5.out]
              have hB7 := (Blk.new w5 36 #[.int .i64 (cAt x.2), .int .i64 x.2.id]).fr (Fr.of_below (F := fun _ => False) hb7) (fun h => h)
              have u0 := hB7.cell 0
              have u1 := hB7.cell 1
              have g0 := hB7.frozen 0
              have g1 := hB7.frozen 1
              have HB7 := Lib.hid hB7
              have HH7 := Lib.hid hb7
              clear hB7 hb7
              go_wp2
              go_roundg k
              case measure => omega
              case rel =>
                have fs : Fr (fun k => k = w5.heap.size) w7 ((w7.setCell ⟨w5.heap.size, 0, none⟩ (.int .i64 (cTT cs5).1)).setCell ⟨w5.heap.size, 1, none⟩ (.int .i64 (cTT cs5).2)) :=
                  ((Fr.refl (fun k => k = w5.heap.size) w7).set (p := ⟨w5.heap.size, 0, none⟩) (fun _ => rfl) _).set (p := ⟨w5.heap.size, 1, none⟩) (fun _ => rfl) _
                have hs5 := HS5.out.fr.size
                have hS7 := (HS5.out.below ((Below.refl _ _).alloc (Nat.le_refl _) (.cells #[.int .i64 (cAt x.2), .int .i64 x.2.id] 36))).below HH7.out
                refine ⟨cs5, o5, w5.heap.size, F5, HK5.out.1, HK5.out.2.1, HK5.out.2.2, rfl, rfl, (HB7.out.set_ 0 _).set_ 1 _, hs5, hS7.frG fs (fun k hk e => ?_) (fun k hk e => ?_) (fun k e => by omega)⟩
                · have := HS5.out.cl.lt hk; omega
                · have := (HS5.out.own.lt k hk).2; omega
          · have hdn : decide (320 ≤ cNx x.2.tm) = true := decide_eq_true (by omega)
            go_wp2_with fail
            go_quiet (fail)
            have HSr := Lib.hid (HSq.out.below (below_drewN (Below.refl _ _) nq))
            have HBr := Lib.hid (HBq.out.drewN nq)
            have HIr := Lib.hid (HIq.out.drewN nq)
            have hwr := HSr.out.fr.size
            have hoq : Hid ((wq.drewN nq).ownsRow w.heap.size 77 4 u5 o.length (rows dcell o)) := Lib.hid HSr.out.own
            clear s0 s1 c5 c1 HSq HBq HIq
            generalize wq.drewN nq = wq2 at *
            have s1 := HBr.out.cell 1
            have HK : Hid (∀ W', wq2.grownBy W' u5.ownBlock → Blk W' tb 36 #[.int .i64 (cAt x.2), .int .i64 x.2.id]) := Lib.hid (fun W' hg => HSr.out.keepG hg HBr.out)
            go_wp2_with (at_builtin; go_must (refine wpList_app1' rfl (.tmp 81) (.tmp 85) 74 rfl w.heap.size 77 4 48 _ Try.underlying74 e77i rfl (by omega) _ _ _ rfl hoq.out [_, _, _, _] _ rfl (by simp) rfl (by simp [Value.oneCell']) (by unfold maxLen; omega) (by omega) (by omega) ?_); intro v1 w6 hown6 hb6 hg6 hat6; have s1 := (HK.out _ hg6).cell 1)
            have hf6 := Fr.of_grown (F := fun k => u5.ownBlock = some k) hg6 (fun k h => h)
            have H6 := HIr.out.fr hf6 (fun k hk e => (HSr.out.nown e).1 hk)
            have HS6 : Hid (CSt w p most last F (xs.map (·.2)) (o ++ [⟨x.2.id, true, ⟨#[]⟩, ⟨#[]⟩⟩]) F' v1 w6) := Lib.hid (HSr.out.app hown6 hg6)
            have HB6 := Lib.hid (HK.out _ hg6)
            have HD := Lib.hid (drop_any H6 HX.out HGN.out HGC.out)
            clear H6 hf6 hg6 hown6 hb6
            refine (HD.out).mono ?_
            rintro e w5 ⟨rfl, F5, FW5, H5, f5, x5⟩
            obtain ⟨cs5, hcs5⟩ : ∃ cs5, cs5 = (xs.map (·.2)).eraseIdx i := ⟨_, rfl⟩
            obtain ⟨o5, ho5⟩ : ∃ o5, o5 = o ++ [⟨x.2.id, true, ⟨#[]⟩, ⟨#[]⟩⟩] := ⟨_, rfl⟩
            have HS5 : Hid (CSt w p most last F cs5 o5 F5 v1 w5) := Lib.hid (by
              rw [hcs5, ho5]
              exact HS6.out.step f5 (fun k hk => .inl (x5 k hk)) ⟨_, _, bn, bc, pw, _, _, FW5, by rw [map_eraseIdx], H5, HP.out.erase HCI.out⟩)
            have HB5 := Lib.hid (HS6.out.keepB f5 HB6.out)
            have hdr := after_drop (cs := xs.map (·.2)) (k := i) (c := x.2) (by omega)
            have HK5 : Hid (cRun k cs5 now o5 = cStep cs now ∧ cMs cs5 ≤ k ∧ o5.length + k ≤ 100000) := Lib.hid (by
              have h1 := HRUN.out
              have h2 := HAFT.out
              rw [hdr] at h1 h2
              have h3 : cDue x.2 = [⟨x.2.id, true, ⟨#[]⟩, ⟨#[]⟩⟩] := by unfold cDue; rw [if_pos (by omega), if_neg (by omega)]
              rw [h3] at h1
              rw [hcs5, ho5]
              exact ⟨h1, by omega, by simp; omega⟩)
            clear H5 f5 x5 hcs5 ho5 hdr s1
            have t0 := HB5.out.cell 0
            have t1 := HB5.out.cell 1
            obtain ⟨pw5, l5, FWn, hW5, hc45, hrt5, hie5⟩ := (HS5.out.cl.below ((Below.refl _ _).alloc (Nat.le_refl _) (.cells #[.int .i64 (cAt x.2), .int .i64 x.2.id] 36))).next
            have HN5 := Lib.hid (next_any hW5)
            have HR5 := Lib.hid hrt5
            have HI5 := Lib.hid hie5
            clear hW5 hrt5 hie5
            go_wp2_with fail
            refine (HN5.out).mono ?_
            rintro e w7 ⟨rfl, hb7⟩
            rw [HR5.out, HI5.out]
            have hB7 := (Blk.new w5 36 #[.int .i64 (cAt x.2), .int .i64 x.2.id]).fr (Fr.of_below (F := fun _ => False) hb7) (fun h => h)
            have u0 := hB7.cell 0
            have u1 := hB7.cell 1
            have g0 := hB7.frozen 0
            have g1 := hB7.frozen 1
            have HB7 := Lib.hid hB7
            have HH7 := Lib.hid hb7
            clear hB7 hb7
            go_wp2
            go_roundg k
            case measure => omega
            case rel =>
              have fs : Fr (fun k => k = w5.heap.size) w7 ((w7.setCell ⟨w5.heap.size, 0, none⟩ (.int .i64 (cTT cs5).1)).setCell ⟨w5.heap.size, 1, none⟩ (.int .i64 (cTT cs5).2)) :=
                ((Fr.refl (fun k => k = w5.heap.size) w7).set (p := ⟨w5.heap.size, 0, none⟩) (fun _ => rfl) _).set (p := ⟨w5.heap.size, 1, none⟩) (fun _ => rfl) _
              have hs5 := HS5.out.fr.size
              have hS7 := (HS5.out.below ((Below.refl _ _).alloc (Nat.le_refl _) (.cells #[.int .i64 (cAt x.2), .int .i64 x.2.id] 36))).below HH7.out
              refine ⟨cs5, o5, w5.heap.size, F5, HK5.out.1, HK5.out.2.1, HK5.out.2.2, rfl, rfl, (HB7.out.set_ 0 _).set_ 1 _, hs5, hS7.frG fs (fun k hk e => ?_) (fun k hk e => ?_) (fun k e => by omega)⟩
              · have := HS5.out.cl.lt hk; omega
              · have := (HS5.out.own.lt k hk).2; omega
        · rw [decide_eq_true (show 0 ≤ x.2.rest by omega)] at c5
          have HD := Lib.hid (drop_any HIq.out HX.out HGN.out HGC.out)
          go_wp2_with fail
          refine (HD.out).mono ?_
          rintro e w5 ⟨rfl, F5, FW5, H5, f5, x5⟩
          obtain ⟨cs5, hcs5⟩ : ∃ cs5, cs5 = (xs.map (·.2)).eraseIdx i := ⟨_, rfl⟩
          obtain ⟨o5, ho5⟩ : ∃ o5, o5 = o := ⟨_, rfl⟩
          have HS5 : Hid (CSt w p most last F cs5 o5 F5 u5 w5) := Lib.hid (by
            rw [hcs5, ho5]
            exact HSq.out.step f5 (fun k hk => .inl (x5 k hk)) ⟨_, _, bn, bc, pw, _, _, FW5, by rw [map_eraseIdx], H5, HP.out.erase HCI.out⟩)
          have HB5 := Lib.hid (HSq.out.keepB f5 HBq.out)
          have hdr := after_drop (cs := xs.map (·.2)) (k := i) (c := x.2) (by omega)
          have HK5 : Hid (cRun k cs5 now o5 = cStep cs now ∧ cMs cs5 ≤ k ∧ o5.length + k ≤ 100000) := Lib.hid (by
            have h1 := HRUN.out
            have h2 := HAFT.out
            rw [hdr] at h1 h2
            have h3 : cDue x.2 = [] := by unfold cDue; rw [if_neg (by omega)]
            rw [h3, List.append_nil] at h1
            rw [hcs5, ho5]
            exact ⟨h1, by omega, by omega⟩)
          clear H5 f5 x5 hcs5 ho5 hdr
          have t0 := HB5.out.cell 0
          have t1 := HB5.out.cell 1
          obtain ⟨pw5, l5, FWn, hW5, hc45, hrt5, hie5⟩ := (HS5.out.cl.below ((Below.refl _ _).alloc (Nat.le_refl _) (.cells #[.int .i64 (cAt x.2), .int .i64 x.2.id] 36))).next
          have HN5 := Lib.hid (next_any hW5)
          have HR5 := Lib.hid hrt5
          have HI5 := Lib.hid hie5
          clear hW5 hrt5 hie5
          go_wp2_with fail
          refine (HN5.out).mono ?_
          rintro e w7 ⟨rfl, hb7⟩
          rw [HR5.out, HI5.out]
          have hB7 := (Blk.new w5 36 #[.int .i64 (cAt x.2), .int .i64 x.2.id]).fr (Fr.of_below (F := fun _ => False) hb7) (fun h => h)
          have u0 := hB7.cell 0
          have u1 := hB7.cell 1
          have g0 := hB7.frozen 0
          have g1 := hB7.frozen 1
          have HB7 := Lib.hid hB7
          have HH7 := Lib.hid hb7
          clear hB7 hb7
          go_wp2
          go_roundg k
          case measure => omega
          case rel =>
            have fs : Fr (fun k => k = w5.heap.size) w7 ((w7.setCell ⟨w5.heap.size, 0, none⟩ (.int .i64 (cTT cs5).1)).setCell ⟨w5.heap.size, 1, none⟩ (.int .i64 (cTT cs5).2)) :=
              ((Fr.refl (fun k => k = w5.heap.size) w7).set (p := ⟨w5.heap.size, 0, none⟩) (fun _ => rfl) _).set (p := ⟨w5.heap.size, 1, none⟩) (fun _ => rfl) _
            have hs5 := HS5.out.fr.size
            have hS7 := (HS5.out.below ((Below.refl _ _).alloc (Nat.le_refl _) (.cells #[.int .i64 (cAt x.2), .int .i64 x.2.id] 36))).below HH7.out
            refine ⟨cs5, o5, w5.heap.size, F5, HK5.out.1, HK5.out.2.1, HK5.out.2.2, rfl, rfl, (HB7.out.set_ 0 _).set_ 1 _, hs5, hS7.frG fs (fun k hk e => ?_) (fun k hk e => ?_) (fun k e => by omega)⟩
            · have := HS5.out.cl.lt hk; omega
            · have := (HS5.out.own.lt k hk).2; omega
end Go.Proofs.Ytgfoobgkpnknmaa
