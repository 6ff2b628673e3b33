/- The laws of the client: ClientSteps. -/
import Derived.Test.YtgfoobgkpnknmaaF4
namespace Go.Proofs.Ytgfoobgkpnknmaa
set_option linter.unusedSimpArgs false
set_option linter.unusedVariables false
open Go.RowKit
theorem neq_due (d : DD) (W : World) : (binOp .neq 77 (.agg #[.int .i64 d.id, .bool d.over, .string d.to, .string d.bs]) (.agg #[.int .i64 d.id, .bool d.over, .string d.to, .string d.bs])).run Try.prog W = .ok (.bool false) W := by
  simp [go_sem]
theorem step_out_le {cs : List CC} {now : Int} : (cStep cs now).2.length ≤ 100000 := by
  have : ∀ (n : Nat) (cs : List CC) (o : List DD), (cRun n cs now o).2.length ≤ o.length + n := by
    intro n
    induction n with
    | zero => intro cs o; exact Nat.le_refl _
    | succ n ih =>
      intro cs o
      cases hT : cTop cs with
      | none => rw [run_none hT]; simp
      | some kc =>
        obtain ⟨k, c⟩ := kc
        by_cases hn : now < cAt c
        · rw [run_stop hT hn]; simp
        · rw [run_go hT hn]
          have h1 := ih (cAfter cs k c) (o ++ cDue c)
          have h2 : (cDue c).length ≤ 1 := by unfold cDue; split <;> (try split) <;> simp
          simp at h1
          omega
  have := this 100000 cs []
  simpa [cStep] using this
theorem Own.frG {w wr w1 : World} {p : Nat} {most last : Int} {cs : List CC} {F G : Nat → Prop} (H : Own w p most last cs F wr) (hf : Fr G wr w1) (h1 : ∀ k, F k → ¬ G k) (h2 : ∀ k, G k → w.heap.size ≤ k) : Own w p most last cs F w1 :=
  ⟨H.cl.fr hf h1, H.be.trans (hf.to_below H.be.size h2), H.ge⟩
theorem Cl.nown {w : World} {p : Nat} {most last : Int} {cs : List CC} {F : Nat → Prop} (H : Cl w p most last cs F) {base sz n : Nat} {v : Value} {xs : List Value} (ho : w.ownsRow base 77 sz v n xs) {k : Nat} (hk : v.ownBlock = some k) : ¬ F k := by
  rcases ho.2 with ⟨e, _⟩ | ⟨gb, cap, cur, e, _, hb, _⟩
  · rw [e] at hk; cases hk
  · rw [e] at hk
    have : gb = k := by simpa [Value.ownBlock] using hk
    subst this
    exact H.notT hb (by decide) (by decide) (by decide) (by decide) (by decide)
set_option maxRecDepth 100000 in
set_option maxHeartbeats 4000000 in
theorem law_csteps {w : World} {A : Option Addr} {c : Nat} {zs : List Int} {A2 : Option Addr} {c2 bl : Nat} {f : Nat → Bool}
    (h : RdB w w.heap.size 1 zs.length A (zs.map fun n => .int .u16 n)) (hz : ∀ z ∈ zs, 0 ≤ z ∧ z ≤ 65535) (hl : zs.length ≤ 9223372036854775807) (h2 : RowB w w.heap.size bl A2 f) (hl2 : bl ≤ 9223372036854775807) (first second : Int) :
    Calls Try.prog 10 #[.slice A zs.length c, .slice A2 bl c2, .int .i64 first, .int .i64 second] w (LawPost w) := by
  have HF1 := Lib.hid (filled_any (c := c) (c2 := c2) (Nat.le_refl _) h hz hl h2 hl2)
  have HR := Lib.hid h
  have HR2 := Lib.hid h2
  have HZ := Lib.hid hz
  have HL := Lib.hid hl
  have HL2 := Lib.hid hl2
  clear h hz hl h2 hl2
  go_enter Try.func10, Try.ntmps10
  go_wp2_with fail
  refine (HF1.out).mono ?_
  rintro e w1 ⟨p1, i1, F1, rfl, hi1, O1⟩
  have HF2 := Lib.hid (filled_any (w := w1) (b0 := w.heap.size) (c := c) (c2 := c2) O1.be.size (HR.out.below O1.be) HZ.out HL.out (HR2.out.below O1.be) HL2.out)
  have HO1 := Lib.hid O1
  clear O1
  go_wp2_with fail
  refine (HF2.out).mono ?_
  rintro e w2 ⟨p2, i2, F2, rfl, hi2, O2⟩
  obtain rfl : i1 = i2 := by omega
  clear hi1 hi2
  have O1 := HO1.out.below O2.be
  have hd0 : ∀ k, F1 k → ¬ F2 k := fun k h1 h2 => by have := HO1.out.cl.lt h1; have := O2.ge k h2; omega
  have O2' : Own w p2 200 (fillS zs bl f i1).last (fillS zs bl f i1).cs F2 w2 := ⟨O2.cl, HO1.out.be.trans (O2.be.mono HO1.out.be.size), fun k hk => by have := O2.ge k hk; have := HO1.out.be.size; omega⟩
  generalize (fillS zs bl f i1).cs = cs at *
  generalize (fillS zs bl f i1).last = last at *
  obtain ⟨hq, hms⟩ := O1.cl.cq
  have HQ := Lib.hid hq
  have HA := Lib.hid O1
  have HB := Lib.hid O2'
  have HD := Lib.hid hd0
  clear O1 O2 O2' hd0 hq
  by_cases hfs : first ≤ second
  · have hal := (Below.refl w2.heap.size w2).alloc (Nat.le_refl _) (.cells #[] 77)
    have hE := Blk.new w2 77 #[]
    have HA3 := Lib.hid (HA.out.below hal)
    have HB3 := Lib.hid (HB.out.below hal)
    have hns : ¬ second < first := by omega
    have HES := Lib.hid hE
    have hsz3 := hal.size
    clear hal hE
    go_wp2_with fail
    refine (cstep_any HA3.out.cl first).mono ?_
    rintro e w4 ⟨v4, F4, rfl, ho4, hC, hf4, hx4⟩
    have HA4 := Lib.hid (HA3.out.next hC hf4 hx4)
    have HB4 := Lib.hid (Own.mk (HB3.out.cl.fr hf4 (fun k h2 h1 => HD.out k h1 h2)) HA4.out.be HB3.out.ge)
    have HD4 : Hid (∀ k, F4 k → ¬ F2 k) := Lib.hid (fun k h4 h2 => (hx4 k h4).elim (fun q => HD.out k q h2) (fun q => by have := HB3.out.cl.lt h2; omega))
    have hE4 := HA3.out.blk hf4 HES.out (by decide) (by decide) (by decide) (by decide) (by decide)
    have hq4 := hC.cq
    have hoe4 : Hid (w4.ownsRow w2.heap.size 77 4 (.slice (some ⟨w2.heap.size, 0, none⟩) 0 0) 0 []) := Lib.hid (own_empty hE4 (Nat.le_refl _))
    obtain ⟨A4, c4, rfl, _, _, hr4⟩ := RdV.of_own ho4
    have HR4 := Lib.hid hr4
    have hl4 : Hid ((cStep cs first).2.length ≤ 100000) := Lib.hid step_out_le
    have hs4 := hf4.size
    obtain ⟨cs4, hcs4⟩ : ∃ cs4, cs4 = (cStep cs first).1 := ⟨_, rfl⟩
    obtain ⟨o4, ho4e⟩ : ∃ o4, o4 = (cStep cs first).2 := ⟨_, rfl⟩
    rw [← hcs4] at HA4
    rw [← ho4e] at HR4 hl4
    rw [← ho4e]
    rw [← hcs4] at hq4
    have HCS4 := Lib.hid hcs4
    have HO4E := Lib.hid ho4e
    have HE4 := Lib.hid hE4
    clear ho4 hC hf4 hx4 hE4 hr4 hcs4 ho4e
    go_wp2_with (at_builtin; go_must (refine wpList_app_rd _ ?_ (.tmp 30) (.tmp 33) 74 ?_ w2.heap.size 77 4 48 (.agg #[.int .i64 0, .bool false, .string ⟨#[]⟩, .string ⟨#[]⟩]) Try.underlying74 e77i ?_ ?_ (.slice (some ⟨w2.heap.size, 0, none⟩) 0 0) 0 [] ?_ hoe4.out A4 o4.length c4 (rows dcell o4) ?_ HR4.out (rows_one dcell_one o4) ?_ ?_ ?_ ?_; all_goals (first | rfl | omega | (have := hl4.out; unfold maxLen; omega) | (have := hl4.out; omega) | (simp at hsz3; omega) | skip)); intro v5 w5 hown5 hb5 hg5 hat5)
    rw [Nat.zero_add, List.nil_append] at hown5
    have hf5 := Fr.of_grown (F := fun k => k = w2.heap.size) hg5 (fun k h => by simp [Value.ownBlock] at h; exact h.symm)
    have hEa := HA4.out.cl.notT HE4.out (by decide) (by decide) (by decide) (by decide) (by decide)
    have hEb := HB4.out.cl.notT HE4.out (by decide) (by decide) (by decide) (by decide) (by decide)
    have hw2 := HA.out.be.size
    have HA5 := Lib.hid (HA4.out.frG hf5 (fun k hk e => hEa (e ▸ hk)) (fun k e => by omega))
    have HB5 := Lib.hid (HB4.out.frG hf5 (fun k hk e => hEb (e ▸ hk)) (fun k e => by omega))
    have HOW5 := Lib.hid hown5
    have hs5 := hf5.size
    clear hown5 hb5 hg5 hat5 hf5 hEa hEb
    go_wp2_with fail
    refine (cstep_any HA5.out.cl second).mono ?_
    rintro e w6 ⟨v6, F6, rfl, ho6, hC, hf6, hx6⟩
    have HA6 := Lib.hid (HA5.out.next hC hf6 hx6)
    have HB6 := Lib.hid (HB5.out.frG hf6 (fun k h2 h4 => HD4.out k h4 h2) HA5.out.ge)
    have HD6 : Hid (∀ k, F6 k → ¬ F2 k) := Lib.hid (fun k h4 h2 => (hx6 k h4).elim (fun q => HD4.out k q h2) (fun q => by have := HB5.out.cl.lt h2; omega))
    have HOW6 := Lib.hid (own_fr HOW5.out hf6 (fun k hk => HA5.out.cl.nown HOW5.out hk))
    obtain ⟨A6, c6, rfl, _, _, hr6⟩ := RdV.of_own ho6
    have HR6 := Lib.hid hr6
    have hl6 : Hid ((cStep cs4 second).2.length ≤ 100000) := Lib.hid step_out_le
    have hs6 := hf6.size
    obtain ⟨cs6, hcs6⟩ : ∃ cs6, cs6 = (cStep cs4 second).1 := ⟨_, rfl⟩
    obtain ⟨o6, ho6e⟩ : ∃ o6, o6 = (cStep cs4 second).2 := ⟨_, rfl⟩
    rw [← hcs6] at HA6
    rw [← ho6e] at HR6 hl6
    rw [← ho6e]
    have HST : Hid (cStep cs second = (cs6, o4 ++ o6)) := Lib.hid (by
      rw [step_two HQ.out (by omega) hfs (by rw [← HCS4.out]; omega), ← HCS4.out, ← HO4E.out, ← hcs6, ← ho6e])
    clear ho6 hC hf6 hx6 hr6 hcs6 ho6e
    go_wp2_with (at_builtin; go_must (refine wpList_app_rd _ ?_ (.tmp 34) (.tmp 37) 74 ?_ w2.heap.size 77 4 48 (.agg #[.int .i64 0, .bool false, .string ⟨#[]⟩, .string ⟨#[]⟩]) Try.underlying74 e77i ?_ ?_ v5 o4.length (rows dcell o4) ?_ HOW6.out A6 o6.length c6 (rows dcell o6) ?_ HR6.out (rows_one dcell_one o6) ?_ ?_ ?_ ?_; all_goals (first | rfl | omega | (have := hl4.out; have := hl6.out; unfold maxLen; omega) | (have := hl4.out; have := hl6.out; omega) | (simp at hsz3; omega) | skip)); intro v7 w7 hown7 hb7 hg7 hat7)
    have hf7 := Fr.of_grown (F := fun k => v5.ownBlock = some k) hg7 (fun k h => h)
    have hge7 : ∀ k, v5.ownBlock = some k → w.heap.size ≤ k := fun k hk => by have := (HOW6.out.lt k hk).1; omega
    have HA7 := Lib.hid (HA6.out.frG hf7 (fun k hk e => HA6.out.cl.nown HOW6.out e hk) hge7)
    have HB7 := Lib.hid (HB6.out.frG hf7 (fun k hk e => HB6.out.cl.nown HOW6.out e hk) hge7)
    have HOW7 : Hid (w7.ownsRow w2.heap.size 77 4 v7 (o4 ++ o6).length (rows dcell (o4 ++ o6))) := Lib.hid (by rw [rows_append, List.length_append]; exact hown7)
    clear hown7 hb7 hg7 hat7 hf7
    go_wp2_with fail
    refine (cstep_any HB7.out.cl second).mono ?_
    rintro e w8 ⟨v8, F8, rfl, ho8, hC, hf8, hx8⟩
    rw [HST.out] at ho8 hC
    have HB8 := Lib.hid (HB7.out.next hC hf8 hx8)
    have HA8 := Lib.hid (HA7.out.frG hf8 (fun k h6 h2 => HD6.out k h6 h2) HB7.out.ge)
    have HOW8 := Lib.hid (own_fr HOW7.out hf8 (fun k hk => HB7.out.cl.nown HOW7.out hk))
    obtain ⟨A8, c8, rfl, _, _, hr8⟩ := RdV.of_own ho8
    obtain ⟨A7, c7, rfl, _, _, hr7⟩ := RdV.of_own HOW8.out
    have HR8 := Lib.hid hr8
    have HR7 := Lib.hid hr7
    have hll : Hid ((o4 ++ o6).length ≤ 200000) := Lib.hid (by have := hl4.out; have := hl6.out; rw [List.length_append]; omega)
    clear ho8 hC hf8 hx8 hr8 hr7
    generalize o4 ++ o6 = l at *
    have hlb : (((l.length : Int)) != l.length) = false := by simp
    have hle : l.length ≤ 1000000 := by have := hll.out; omega
    go_wp2_with fail
    refine (clen_any HA8.out.cl).mono ?_
    rintro e w9 ⟨rfl, rfl⟩
    go_wp2_with fail
    refine (clen_any HB8.out.cl).mono ?_
    rintro e w9 ⟨rfl, rfl⟩
    have hlb2 : (((cs6.length : Int)) != cs6.length) = false := by simp
    go_wp2
    go_loopw [13] (fun i wr => ∃ j : Nat, j ≤ l.length ∧ i = .int .i64 j ∧ ∃ n, wr = w8.drewN n) (fun i _ => l.length - (intOf i).toNat)
    case atStart => exact ⟨0, by omega, rfl, 0, rfl⟩
    case round =>
      obtain ⟨j, hj, rfl, n, rfl⟩ := hrel
      by_cases hlt : j < l.length
      · obtain ⟨gb, off, rfl, _, hc⟩ := rd_row dcell_len HR7.out hlt
        obtain ⟨gb', off', rfl, _, hd⟩ := rd_row dcell_len HR8.out hlt
        generalize l[j] = x at *
        have c0 : w8.cell? ⟨gb, off + j * 4, none⟩ = some (.int .i64 x.id) := hc 0 (by omega)
        have c1 : w8.cell? ⟨gb, off + j * 4 + 1, none⟩ = some (.bool x.over) := hc 1 (by omega)
        have c2 : w8.cell? ⟨gb, off + j * 4 + 2, none⟩ = some (.string x.to) := hc 2 (by omega)
        have c3 : w8.cell? ⟨gb, off + j * 4 + 3, none⟩ = some (.string x.bs) := hc 3 (by omega)
        have d0 : w8.cell? ⟨gb', off' + j * 4, none⟩ = some (.int .i64 x.id) := hd 0 (by omega)
        have d1 : w8.cell? ⟨gb', off' + j * 4 + 1, none⟩ = some (.bool x.over) := hd 1 (by omega)
        have d2 : w8.cell? ⟨gb', off' + j * 4 + 2, none⟩ = some (.string x.to) := hd 2 (by omega)
        have d3 : w8.cell? ⟨gb', off' + j * 4 + 3, none⟩ = some (.string x.bs) := hd 3 (by omega)
        have b0 : (0 : Int) ≤ j := by omega
        have b1 : (j : Int) < l.length := by omega
        have e2 := neq_due x
        clear hc hd
        go_wp2
        go_quiet (fail)
        go_wp2
        go_roundw
        case rel => exact ⟨j + 1, by omega, by go_num, _, rfl⟩
        case measure => simp [intOf] <;> omega
      · go_wp2_with fail
        refine (cawake_any _).mono ?_
        rintro e w10 ⟨rfl, hb10⟩
        go_wp2
        go_ret
        exact LawPost.via (below_drewN HA8.out.be n) ⟨rfl, hb10⟩
  · have hns : second < first := by omega
    clear hfs
    go_wp2_with fail
    refine (cawake_any _).mono ?_
    rintro e w3 ⟨rfl, hb3⟩
    go_wp2
    go_ret
    exact LawPost.via HA.out.be ⟨rfl, hb3⟩
end Go.Proofs.Ytgfoobgkpnknmaa
