/- The reference's table of the server: Start. -/
import Derived.Test.YtgfoobgkpnknmaaQ3
import Derived.Deep.RegionHeld3
namespace Go.Proofs.Ytgfoobgkpnknmaa
set_option linter.unusedSimpArgs false
set_option linter.unusedVariables false
open Go.RowKit
def SRStartPost (w : World) (most last : Int) (cs : List SC) (k : SK) (now : Int) (e : Ending) (w' : World) : Prop :=
  ∃ v, e = .returned (.tuple #[.agg #[.int .i64 most, .int .i64 (sStartN most last cs k now), v], .int .i64 (sStartI most last cs k now), .int .i64 (sStartE most cs k now)]) ∧
    RdV w' 168 8 (sStartL most last cs k now).length v (rows srcell (sStartL most last cs k now)) ∧ Below w.heap.size w w'
theorem srstart_same {w w' : World} {most last : Int} {cs : List SC} {k : SK} {now n : Int} {v : Value} (hr : RdV w' 168 8 cs.length v (rows srcell cs)) (hb : Below w.heap.size w w') (h : sStartE most cs k now = n) (hn : n ≠ 0) :
    SRStartPost w most last cs k now (.returned (.tuple #[.agg #[.int .i64 most, .int .i64 last, v], .int .i64 0, .int .i64 n])) w' := by
  obtain ⟨e1, e2, e3⟩ := sst_no (last := last) h hn
  exact ⟨v, by rw [e1, h, e2], by rw [e3]; exact hr, hb⟩
set_option maxRecDepth 100000 in
set_option maxHeartbeats 4000000 in
theorem rsstart_any {w : World} {cs : List SC} {A : Option Addr} {c : Nat} (h : Rd w 168 8 cs.length A (rows srcell cs)) (hl : cs.length ≤ 1000000) (hlc : cs.length ≤ c) (hc : c ≤ maxLen) (most last : Int) (hla : 0 ≤ last ∧ last ≤ 1000000000) (k1 k2 k3 : ByteArray) (now : Int) :
    Calls Try.prog 71 #[.agg #[.int .i64 most, .int .i64 last, .slice A cs.length c], .string k1, .string k2, .string k3, .int .i64 now] w (SRStartPost w most last cs (k1, k2, k3) now) := by
  obtain ⟨W0, hW0⟩ : ∃ W0, (w.alloc (.cells #[.int .i64 most, .int .i64 last, .slice A cs.length c] 117)).alloc (.cells #[.int .i64 0, .int .i64 0, .slice none 0 0] 117) = W0 := ⟨_, rfl⟩
  have hB : Below w.heap.size w W0 := hW0 ▸ ((Below.refl _ _).alloc (Nat.le_refl _) _).alloc (by simp) _
  have hs : W0.heap.size = w.heap.size + 2 := by rw [← hW0]; simp
  have hT : Blk W0 w.heap.size 117 #[.int .i64 most, .int .i64 last, .slice A cs.length c] := hW0 ▸ (Blk.new w 117 #[.int .i64 most, .int .i64 last, .slice A cs.length c]).alloc _
  have hR : Blk W0 (w.heap.size + 1) 117 #[.int .i64 0, .int .i64 0, .slice none 0 0] := hW0 ▸ Blk.new' (w.alloc (.cells #[.int .i64 most, .int .i64 last, .slice A cs.length c] 117)) _ _ (by simp)
  have hrd := h.below hB
  have HF := Lib.hid (rfind_any (c := c) hrd hl most last k1 k2 k3)
  have t0 := hT.cell 0
  have t1 := hT.cell 1
  have t2 := hT.cell 2
  have HRD0 := Lib.hid hrd
  have HB0 := Lib.hid hB
  have HT0 := Lib.hid hT
  have HR0 := Lib.hid hR
  have HSZ0 := Lib.hid hs
  clear hB hT hR hs h hrd
  go_enter Try.func71, Try.ntmps71
  go_wp2_with fail
  refine (HF.out).mono ?_
  rintro e W ⟨rfl, hb1⟩
  have f1 := Fr.of_below (F := fun _ => False) hb1
  have HT := Lib.hid (HT0.out.fr f1 (fun h => h))
  have HR := Lib.hid (HR0.out.fr f1 (fun h => h))
  have HRD := Lib.hid (HRD0.out.below hb1)
  have HB := Lib.hid (HB0.out.trans (hb1.mono HB0.out.size))
  have HSZ : Hid (w.heap.size + 2 ≤ W.heap.size) := Lib.hid (by have := HSZ0.out; have := hb1.size; omega)
  clear hW0 t0 t1 t2 hb1 f1
  have t0 := HT.out.cell 0
  have t1 := HT.out.cell 1
  have t2 := HT.out.cell 2
  have r0 := HR.out.cell 0
  have r1 := HR.out.cell 1
  have r2 := HR.out.cell 2
  have q0 := HR.out.frozen 0
  have q1 := HR.out.frozen 1
  have q2 := HR.out.frozen 2
  have HEND : Hid (∀ n, sStartE most cs (k1, k2, k3) now = n → n ≠ 0 → SRStartPost w most last cs (k1, k2, k3) now (.returned (.tuple #[.agg #[.int .i64 most, .int .i64 last, .slice A cs.length c], .int .i64 0, .int .i64 n])) (((W.setCell ⟨w.heap.size + 1, 0, none⟩ (.int .i64 most)).setCell ⟨w.heap.size + 1, 1, none⟩ (.int .i64 last)).setCell ⟨w.heap.size + 1, 2, none⟩ (.slice A cs.length c))) := Lib.hid (fun n h1 h2 => by
    have hfs : Fr (fun k => k = w.heap.size + 1) W (((W.setCell ⟨w.heap.size + 1, 0, none⟩ (.int .i64 most)).setCell ⟨w.heap.size + 1, 1, none⟩ (.int .i64 last)).setCell ⟨w.heap.size + 1, 2, none⟩ (.slice A cs.length c)) :=
      (((Fr.refl (fun k => k = w.heap.size + 1) W).set (p := ⟨w.heap.size + 1, 0, none⟩) (fun _ => rfl) _).set (p := ⟨w.heap.size + 1, 1, none⟩) (fun _ => rfl) _).set (p := ⟨w.heap.size + 1, 2, none⟩) (fun _ => rfl) _
    exact srstart_same ⟨A, c, rfl, hlc, hc, HRD.out.fr hfs (fun gb ds fr hb e => by
      subst e
      have := HR.out
      unfold Blk at this
      rw [hb] at this; injection this with this; injection this with _ q; exact absurd q (by decide))⟩ (HB.out.trans (hfs.to_below HB.out.size (fun k e => by omega))) h1 h2)
  by_cases ha : now < 0 ∨ 1099511627776 - 320 < now
  · have HE := Lib.hid (sE_arg (most := most) (cs := cs) (k := (k1, k2, k3)) ha)
    generalize sFind (k1, k2, k3) cs = fo
    rcases ha with ha | ha
    all_goals
      go_wp2
      all_goals
        obtain ⟨z0, z1, z2⟩ := HR.out.three (.int .i64 most) (.int .i64 last) (.slice A cs.length c)
        exact bodyPost_ret (v := .tuple #[.agg #[.int .i64 most, .int .i64 last, .slice A cs.length c], .int .i64 0, .int .i64 1]) (by simp [results, Try.results71, go_sem, z0, z1, z2]) rfl (HEND.out 1 HE.out (by omega))
  · have hn1 : 0 ≤ now := by omega
    have hn2 : now ≤ 1099511627456 := by omega
    have HA := Lib.hid ha
    clear ha
    rcases hfo : sFind (k1, k2, k3) cs with _ | fid
    · have HFO := Lib.hid hfo
      by_cases hf : most ≤ (cs.length : Int)
      · have HE := Lib.hid (sE_full (most := most) HA.out hfo hf)
        clear hfo
        go_wp2
        obtain ⟨z0, z1, z2⟩ := HR.out.three (.int .i64 most) (.int .i64 last) (.slice A cs.length c)
        exact bodyPost_ret (v := .tuple #[.agg #[.int .i64 most, .int .i64 last, .slice A cs.length c], .int .i64 0, .int .i64 5]) (by simp [results, Try.results71, go_sem, z0, z1, z2]) rfl (HEND.out 5 HE.out (by omega))
      · have HE := Lib.hid (sE_ok (most := most) HA.out hfo hf)
        have hwl : IntKind.i64.wrap (last + 1) = last + 1 := IntWalk.i64_in _ (by omega)
        have hwn : IntKind.i64.wrap (now + 320) = now + 320 := IntWalk.i64_in _ (by omega)
        obtain ⟨hl1, hl2⟩ := hla
        have HRD := HRD
        clear hfo
        go_wp2_with fail
        obtain ⟨W4, hW4⟩ : ∃ W4, W.alloc (.cells #[.int .i64 (last + 1), .string k1, .string k2, .string k3, .int .i64 (now + 320), .bool false, .string ⟨#[]⟩, .string ⟨#[]⟩] 168) = W4 := ⟨_, rfl⟩
        rw [hW4]
        have hb4 : Below W.heap.size W W4 := hW4 ▸ (Below.refl _ _).alloc (Nat.le_refl _) _
        have hs4 : W4.heap.size = W.heap.size + 1 := by rw [← hW4]; simp
        have hn4 : Blk W4 W.heap.size 168 #[.int .i64 (last + 1), .string k1, .string k2, .string k3, .int .i64 (now + 320), .bool false, .string ⟨#[]⟩, .string ⟨#[]⟩] := hW4 ▸ Blk.new W _ _
        have ht4 := HT.out.fr (Fr.of_below (F := fun _ => False) hb4) (fun h => h)
        have hr4 := HR.out.fr (Fr.of_below (F := fun _ => False) hb4) (fun h => h)
        have HR4 : Hid (∀ W', Below W4.heap.size W4 W' → Rd W' 168 8 cs.length A (rows srcell cs)) := Lib.hid (fun W' hb => (HRD.out.below hb4).below hb)
        have HS4 : Hid (∀ W' W'', Below W4.heap.size W4 W'' → Fr (fun k => k = w.heap.size + 1) W'' W' → W'.cell? ⟨w.heap.size, 0, none⟩ = some (.int .i64 most) ∧ W'.cell? ⟨w.heap.size, 1, none⟩ = some (.int .i64 last) ∧ W'.cell? ⟨w.heap.size, 2, none⟩ = some (.slice A cs.length c) ∧ W'.cell? ⟨W.heap.size, 0, none⟩ = some (.int .i64 (last + 1)) ∧ W'.cell? ⟨W.heap.size, 1, none⟩ = some (.string k1) ∧ W'.cell? ⟨W.heap.size, 2, none⟩ = some (.string k2) ∧ W'.cell? ⟨W.heap.size, 3, none⟩ = some (.string k3) ∧ W'.cell? ⟨W.heap.size, 4, none⟩ = some (.int .i64 (now + 320)) ∧ W'.cell? ⟨W.heap.size, 5, none⟩ = some (.bool false) ∧ W'.cell? ⟨W.heap.size, 6, none⟩ = some (.string ⟨#[]⟩) ∧ W'.cell? ⟨W.heap.size, 7, none⟩ = some (.string ⟨#[]⟩)) := Lib.hid (fun W' W'' hb hf => by
          have q1 := (ht4.fr (Fr.of_below (F := fun _ => False) hb) (fun h => h)).fr hf (by omega)
          have q2 := (hn4.fr (Fr.of_below (F := fun _ => False) hb) (fun h => h)).fr hf (by have := HSZ.out; omega)
          exact ⟨q1.cell 0, q1.cell 1, q1.cell 2, q2.cell 0, q2.cell 1, q2.cell 2, q2.cell 3, q2.cell 4, q2.cell 5, q2.cell 6, q2.cell 7⟩)
        have HB4 := Lib.hid (HB.out.trans (hb4.mono HB.out.size))
        have HRR := Lib.hid hr4
        have HSW4 : Hid (w.heap.size + 2 < W4.heap.size) := Lib.hid (by have := HSZ.out; omega)
        have hll : Hid (cs.length ≤ 1000000) := Lib.hid hl
        clear hW4 hs4 hb4 hn4 ht4 hr4 r0 r1 r2 t0 t1 t2 q0 q1 q2
        go_region_held3 (fun w' => w'.cell? ⟨w.heap.size, 0, none⟩ = some (.int .i64 most) ∧ w'.cell? ⟨w.heap.size, 1, none⟩ = some (.int .i64 last) ∧ w'.cell? ⟨w.heap.size, 2, none⟩ = some (.slice A cs.length c) ∧ w'.cell? ⟨W.heap.size, 0, none⟩ = some (.int .i64 (last + 1)) ∧ w'.cell? ⟨W.heap.size, 1, none⟩ = some (.string k1) ∧ w'.cell? ⟨W.heap.size, 2, none⟩ = some (.string k2) ∧ w'.cell? ⟨W.heap.size, 3, none⟩ = some (.string k3) ∧ w'.cell? ⟨W.heap.size, 4, none⟩ = some (.int .i64 (now + 320)) ∧ w'.cell? ⟨W.heap.size, 5, none⟩ = some (.bool false) ∧ w'.cell? ⟨W.heap.size, 6, none⟩ = some (.string ⟨#[]⟩) ∧ w'.cell? ⟨W.heap.size, 7, none⟩ = some (.string ⟨#[]⟩))
          (first | (refine HS4.out _ _ ?_ (Fr.refl _ _); (repeat (first | exact Below.refl _ _ | refine Below.trans ?_ hbb | refine Below.trans ?_ hba | refine Below.drew ?_ | refine Below.alloc ?_ (by first | omega | (simp; done) | (simp; omega)) _)); done) | exact HS4.out _ wb hbw ((((Fr.refl (fun k => k = w.heap.size + 1) wb).set (p := ⟨w.heap.size + 1, 0, none⟩) (fun _ => rfl) _).set (p := ⟨w.heap.size + 1, 1, none⟩) (fun _ => rfl) _).set (p := ⟨w.heap.size + 1, 2, none⟩) (fun _ => rfl) _)) (first | (refine step_app_rd (by rfl) (.tmp 54) (.tmp 56) 115 (by rfl) W4.heap.size 168 8 104 (.agg #[.int .i64 0, .string ⟨#[]⟩, .string ⟨#[]⟩, .string ⟨#[]⟩, .int .i64 0, .bool false, .string ⟨#[]⟩, .string ⟨#[]⟩]) Try.underlying115 e168i (by rfl) (by omega) (.slice (some ⟨W4.heap.size, 0, none⟩) 0 0) 0 [] (by rfl) ?_ A cs.length c (rows srcell cs) (by rfl) ?_ (rows_one srcell_one cs) ?_ ?_ ?_ ?_; exact own_empty (Blk.new W4 _ _) (by omega); (refine HR4.out _ ?_; repeat (first | exact Below.refl _ _ | refine Below.trans ?_ hbb | refine Below.trans ?_ hba | refine Below.drew ?_ | refine Below.alloc ?_ (by first | omega | (simp; done) | (simp; omega)) _)); (unfold maxLen; omega); omega; (first | exact sz1 _ _ | exact sz2 _ _ _ | exact sz3 _ _ hsa | omega); intro v1 wa howna hba hga hata; rw [Nat.zero_add, List.nil_append] at howna; have hsa : W4.heap.size ≤ wa.heap.size := (by first | exact Nat.le_trans (sz1 _ _) hba.size | exact Nat.le_trans (sz2 _ _ _) hba.size)) | (refine step_app_rd (by rfl) (.tmp 54) (.tmp 56) 115 (by rfl) W4.heap.size 168 8 104 (.agg #[.int .i64 0, .string ⟨#[]⟩, .string ⟨#[]⟩, .string ⟨#[]⟩, .int .i64 0, .bool false, .string ⟨#[]⟩, .string ⟨#[]⟩]) Try.underlying115 e168i (by rfl) (by omega) (.slice (some ⟨W4.heap.size, 0, none⟩) 0 0) 0 [] (by rfl) ?_ A cs.length c (rows srcell cs) (by rfl) ?_ (rows_one srcell_one cs) ?_ ?_ ?_ ?_; exact own_empty ((Blk.new W4 _ _).alloc _) (by omega); (refine HR4.out _ ?_; repeat (first | exact Below.refl _ _ | refine Below.trans ?_ hbb | refine Below.trans ?_ hba | refine Below.drew ?_ | refine Below.alloc ?_ (by first | omega | (simp; done) | (simp; omega)) _)); (unfold maxLen; omega); omega; (first | exact sz1 _ _ | exact sz2 _ _ _ | exact sz3 _ _ hsa | omega); intro v1 wa howna hba hga hata; rw [Nat.zero_add, List.nil_append] at howna; have hsa : W4.heap.size ≤ wa.heap.size := (by first | exact Nat.le_trans (sz1 _ _) hba.size | exact Nat.le_trans (sz2 _ _ _) hba.size)) | (refine step_app_rd (by rfl) (.tmp 54) (.tmp 56) 115 (by rfl) W4.heap.size 168 8 104 (.agg #[.int .i64 0, .string ⟨#[]⟩, .string ⟨#[]⟩, .string ⟨#[]⟩, .int .i64 0, .bool false, .string ⟨#[]⟩, .string ⟨#[]⟩]) Try.underlying115 e168i (by rfl) (by omega) (.slice (some ⟨W4.heap.size + 1, 0, none⟩) 0 0) 0 [] (by rfl) ?_ A cs.length c (rows srcell cs) (by rfl) ?_ (rows_one srcell_one cs) ?_ ?_ ?_ ?_; exact own_empty (Blk.new' (W4.alloc (.cells #[.int .i64 (last + 1), .string k1, .string k2, .string k3, .int .i64 (now + 320), .bool false, .string ⟨#[]⟩, .string ⟨#[]⟩] 168)) _ _ (by simp)) (by omega); (refine HR4.out _ ?_; repeat (first | exact Below.refl _ _ | refine Below.trans ?_ hbb | refine Below.trans ?_ hba | refine Below.drew ?_ | refine Below.alloc ?_ (by first | omega | (simp; done) | (simp; omega)) _)); (unfold maxLen; omega); omega; (first | exact sz1 _ _ | exact sz2 _ _ _ | exact sz3 _ _ hsa | omega); intro v1 wa howna hba hga hata; rw [Nat.zero_add, List.nil_append] at howna; have hsa : W4.heap.size ≤ wa.heap.size := (by first | exact Nat.le_trans (sz1 _ _) hba.size | exact Nat.le_trans (sz2 _ _ _) hba.size)) | (refine step_app1 (by rfl) (.tmp 57) (.tmp 59) 115 (by rfl) W4.heap.size 168 8 104 (.agg #[.int .i64 0, .string ⟨#[]⟩, .string ⟨#[]⟩, .string ⟨#[]⟩, .int .i64 0, .bool false, .string ⟨#[]⟩, .string ⟨#[]⟩]) Try.underlying115 e168i (by rfl) (by omega) v1 cs.length (rows srcell cs) (by rfl) ?_ (srcell (sNew last (k1, k2, k3) now)) (wa.heap.size) (by rfl) ?_ (by rfl) (srcell_one _) ?_ ?_ ?_ ?_; exact own_fr howna ((Fr.refl (fun _ => False) _).alloc _) (fun _ _ h => h); exact Blk.new wa _ _; (unfold maxLen; omega); omega; (first | exact sz1 _ _ | exact sz2 _ _ _ | exact sz3 _ _ hsa | omega); intro v2 wb hownb hbb hgb hatb; obtain ⟨gg, cg, rfl⟩ := own_pos hownb (by omega); have hbw : Below W4.heap.size W4 wb := (by repeat (first | exact Below.refl _ _ | refine Below.trans ?_ hbb | refine Below.trans ?_ hba | refine Below.drew ?_ | refine Below.alloc ?_ (by first | omega | (simp; done) | (simp; omega)) _)); have hzz := HRR.out.fr (Fr.of_below (F := fun _ => False) hbw) (fun h => h); have zf0 := hzz.frozen 0; have zf1 := hzz.frozen 1; have zf2 := hzz.frozen 2; have zc0 := hzz.cell 0; have zc1 := hzz.cell 1; have zc2 := hzz.cell 2) | (refine step_app1 (by rfl) (.tmp 57) (.tmp 59) 115 (by rfl) W4.heap.size 168 8 104 (.agg #[.int .i64 0, .string ⟨#[]⟩, .string ⟨#[]⟩, .string ⟨#[]⟩, .int .i64 0, .bool false, .string ⟨#[]⟩, .string ⟨#[]⟩]) Try.underlying115 e168i (by rfl) (by omega) v1 cs.length (rows srcell cs) (by rfl) ?_ (srcell (sNew last (k1, k2, k3) now)) (W4.heap.size + 1) (by rfl) ?_ (by rfl) (srcell_one _) ?_ ?_ ?_ ?_; exact howna; exact Blk.of_grown hga (Blk.new' (W4.alloc (.cells #[] 168)) _ _ (by simp)) (by simp [Value.ownBlock]); (unfold maxLen; omega); omega; (first | exact sz1 _ _ | exact sz2 _ _ _ | exact sz3 _ _ hsa | omega); intro v2 wb hownb hbb hgb hatb; obtain ⟨gg, cg, rfl⟩ := own_pos hownb (by omega); have hbw : Below W4.heap.size W4 wb := (by repeat (first | exact Below.refl _ _ | refine Below.trans ?_ hbb | refine Below.trans ?_ hba | refine Below.drew ?_ | refine Below.alloc ?_ (by first | omega | (simp; done) | (simp; omega)) _)); have hzz := HRR.out.fr (Fr.of_below (F := fun _ => False) hbw) (fun h => h); have zf0 := hzz.frozen 0; have zf1 := hzz.frozen 1; have zf2 := hzz.frozen 2; have zc0 := hzz.cell 0; have zc1 := hzz.cell 1; have zc2 := hzz.cell 2) | (refine step_app1 (by rfl) (.tmp 57) (.tmp 59) 115 (by rfl) W4.heap.size 168 8 104 (.agg #[.int .i64 0, .string ⟨#[]⟩, .string ⟨#[]⟩, .string ⟨#[]⟩, .int .i64 0, .bool false, .string ⟨#[]⟩, .string ⟨#[]⟩]) Try.underlying115 e168i (by rfl) (by omega) v1 cs.length (rows srcell cs) (by rfl) ?_ (srcell (sNew last (k1, k2, k3) now)) (W4.heap.size) (by rfl) ?_ (by rfl) (srcell_one _) ?_ ?_ ?_ ?_; exact howna; exact Blk.of_grown hga ((Blk.new W4 _ _).alloc _) (by simp [Value.ownBlock]); (unfold maxLen; omega); omega; (first | exact sz1 _ _ | exact sz2 _ _ _ | exact sz3 _ _ hsa | omega); intro v2 wb hownb hbb hgb hatb; obtain ⟨gg, cg, rfl⟩ := own_pos hownb (by omega); have hbw : Below W4.heap.size W4 wb := (by repeat (first | exact Below.refl _ _ | refine Below.trans ?_ hbb | refine Below.trans ?_ hba | refine Below.drew ?_ | refine Below.alloc ?_ (by first | omega | (simp; done) | (simp; omega)) _)); have hzz := HRR.out.fr (Fr.of_below (F := fun _ => False) hbw) (fun h => h); have zf0 := hzz.frozen 0; have zf1 := hzz.frozen 1; have zf2 := hzz.frozen 2; have zc0 := hzz.cell 0; have zc1 := hzz.cell 1; have zc2 := hzz.cell 2))
        all_goals
          obtain ⟨z0, z1, z2⟩ := hzz.three (.int .i64 most) (.int .i64 (last + 1)) (.slice (some ⟨gg, 0, none⟩) (cs.length + 1) cg)
          have hfs : Fr (fun k => k = w.heap.size + 1) wb (((wb.setCell ⟨w.heap.size + 1, 0, none⟩ (.int .i64 most)).setCell ⟨w.heap.size + 1, 1, none⟩ (.int .i64 (last + 1))).setCell ⟨w.heap.size + 1, 2, none⟩ (.slice (some ⟨gg, 0, none⟩) (cs.length + 1) cg)) :=
            (((Fr.refl (fun k => k = w.heap.size + 1) wb).set (p := ⟨w.heap.size + 1, 0, none⟩) (fun _ => rfl) _).set (p := ⟨w.heap.size + 1, 1, none⟩) (fun _ => rfl) _).set (p := ⟨w.heap.size + 1, 2, none⟩) (fun _ => rfl) _
          have HP : Hid (SRStartPost w most last cs (k1, k2, k3) now (.returned (.tuple #[.agg #[.int .i64 most, .int .i64 (last + 1), .slice (some ⟨gg, 0, none⟩) (cs.length + 1) cg], .int .i64 (last + 1), .int .i64 0])) (((wb.setCell ⟨w.heap.size + 1, 0, none⟩ (.int .i64 most)).setCell ⟨w.heap.size + 1, 1, none⟩ (.int .i64 (last + 1))).setCell ⟨w.heap.size + 1, 2, none⟩ (.slice (some ⟨gg, 0, none⟩) (cs.length + 1) cg))) := Lib.hid (by
            have e1 : sStartI most last cs (k1, k2, k3) now = last + 1 := by unfold sStartI; rw [if_pos HE.out]
            have e2 : sStartN most last cs (k1, k2, k3) now = last + 1 := by unfold sStartN; rw [if_pos HE.out]
            have e3 : sStartL most last cs (k1, k2, k3) now = cs ++ [sNew last (k1, k2, k3) now] := by unfold sStartL; rw [if_pos HE.out]
            have hs4 := HB4.out.size
            have hsw := HSZ.out
            refine ⟨_, by rw [e1, e2, HE.out], ?_, HB4.out.trans ((hbw.mono hs4).trans (hfs.to_below (by have := hbw.size; omega) (fun k e => by omega)))⟩
            rw [e3, rows_snoc, List.length_append, List.length_singleton]
            refine RdV.of_own (own_fr hownb hfs (fun k hk e => ?_))
            have h1 := (hownb.lt k hk).1
            have h2 := HSW4.out
            omega)
          go_wp2
          exact bodyPost_ret (v := .tuple #[.agg #[.int .i64 most, .int .i64 (last + 1), .slice (some ⟨gg, 0, none⟩) (cs.length + 1) cg], .int .i64 (last + 1), .int .i64 0]) (by simp [results, Try.results71, go_sem, z0, z1, z2]) rfl HP.out
    · have HE := Lib.hid (sE_twice (most := most) (cs := cs) (k := (k1, k2, k3)) HA.out (by rw [hfo]; rfl))
      clear hfo
      go_wp2
      obtain ⟨z0, z1, z2⟩ := HR.out.three (.int .i64 most) (.int .i64 last) (.slice A cs.length c)
      exact bodyPost_ret (v := .tuple #[.agg #[.int .i64 most, .int .i64 last, .slice A cs.length c], .int .i64 0, .int .i64 7]) (by simp [results, Try.results71, go_sem, z0, z1, z2]) rfl (HEND.out 7 HE.out (by omega))
end Go.Proofs.Ytgfoobgkpnknmaa
