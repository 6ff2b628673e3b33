/- The reference's table: Start. -/
import Derived.Test.YtgfoobgkpnknmaaD2
namespace Go.Proofs.Ytgfoobgkpnknmaa
set_option linter.unusedSimpArgs false
set_option linter.unusedVariables false
open Go.RowKit
theorem e153i : ElemInfo Try.prog 153 7 80 (.agg #[.int .i64 0, .string ⟨#[]⟩, .int .i64 0, .int .i64 0, .int .i64 0, .string ⟨#[]⟩, .string ⟨#[]⟩]) := ElemInfo.mk' (by kernel_rfl)
def RStartPost (w : World) (most last : Int) (cs : List CC) (br : ByteArray) (now : Int) (to bs : ByteArray) (e : Ending) (w' : World) : Prop :=
  ∃ v, e = .returned (.tuple #[.agg #[.int .i64 most, .int .i64 (cStartN most last cs br now), v], .int .i64 (cStartI most last cs br now), .int .i64 (cStartE most cs br now)]) ∧
    RdV w' 153 7 (cStartL most last cs br now to bs).length v (rows rcell (cStartL most last cs br now to bs)) ∧ Below w.heap.size w w'
theorem rstart_same {w w' : World} {most last : Int} {cs : List CC} {br : ByteArray} {now n : Int} {to bs : ByteArray} {v : Value} (hr : RdV w' 153 7 cs.length v (rows rcell cs)) (hb : Below w.heap.size w w') (h : cStartE most cs br now = n) (hn : n ≠ 0) :
    RStartPost w most last cs br now to bs (.returned (.tuple #[.agg #[.int .i64 most, .int .i64 last, v], .int .i64 0, .int .i64 n])) w' := by
  have e1 : cStartI most last cs br now = 0 := by unfold cStartI; rw [if_neg (by omega)]
  have e2 : cStartN most last cs br now = last := by unfold cStartN; rw [if_neg (by omega)]
  have e3 : cStartL most last cs br now to bs = cs := by unfold cStartL; rw [if_neg (by omega)]
  exact ⟨v, by rw [e1, h, e2], by rw [e3]; exact hr, hb⟩
theorem Blk.three {W : World} {g : Nat} {t : TypeId} {a b c : Value} (h : Blk W g t #[a, b, c]) (x y z : Value) :
    (((W.setCell ⟨g, 0, none⟩ x).setCell ⟨g, 1, none⟩ y).setCell ⟨g, 2, none⟩ z).cell? ⟨g, 0, none⟩ = some x ∧ (((W.setCell ⟨g, 0, none⟩ x).setCell ⟨g, 1, none⟩ y).setCell ⟨g, 2, none⟩ z).cell? ⟨g, 1, none⟩ = some y ∧ (((W.setCell ⟨g, 0, none⟩ x).setCell ⟨g, 1, none⟩ y).setCell ⟨g, 2, none⟩ z).cell? ⟨g, 2, none⟩ = some z :=
  ⟨(((h.set_ 0 x).set_ 1 y).set_ 2 z).cell 0, (((h.set_ 0 x).set_ 1 y).set_ 2 z).cell 1, (((h.set_ 0 x).set_ 1 y).set_ 2 z).cell 2⟩
theorem has_take {cs : List CC} {br : ByteArray} {j : Nat} (hj : j < cs.length) (h : cHas (cs.take j) br = false) : cHas (cs.take (j + 1)) br = decide (cs[j].br = br) := by
  rw [List.take_succ_eq_append_getElem hj]
  unfold cHas at *
  rw [List.any_append, h]
  simp
theorem has_of {cs : List CC} {br : ByteArray} {j : Nat} (hj : j < cs.length) (h : cs[j].br = br) : cHas cs br = true := has_iff.2 (List.mem_map.2 ⟨_, List.getElem_mem hj, h⟩)
set_option maxRecDepth 100000 in
set_option maxHeartbeats 2000000 in
theorem rstart_any {w : World} {cs : List CC} {A : Option Addr} {c : Nat} (h : Rd w 153 7 cs.length A (rows rcell cs)) (hl : cs.length ≤ 1000000) (hlc : cs.length ≤ c) (hc : c ≤ maxLen) (most last : Int) (hla : 0 ≤ last ∧ last ≤ 1000000000) (br : ByteArray) (now : Int) (to bs : ByteArray) :
    Calls Try.prog 65 #[.agg #[.int .i64 most, .int .i64 last, .slice A cs.length c], .string br, .int .i64 now, .agg #[.string to, .string bs]] w (RStartPost w most last cs br now to bs) := by
  obtain ⟨W, hW⟩ : ∃ W, ((w.alloc (.cells #[.int .i64 most, .int .i64 last, .slice A cs.length c] 90)).alloc (.cells #[.string to, .string bs] 71)).alloc (.cells #[.int .i64 0, .int .i64 0, .slice none 0 0] 90) = W := ⟨_, rfl⟩
  have hB : Below w.heap.size w W := hW ▸ (((Below.refl _ _).alloc (Nat.le_refl _) _).alloc (by simp) _).alloc (by simp; omega) _
  have hs : W.heap.size = w.heap.size + 3 := by rw [← hW]; simp
  have hT : Blk W w.heap.size 90 #[.int .i64 most, .int .i64 last, .slice A cs.length c] := hW ▸ ((Blk.new w 90 #[.int .i64 most, .int .i64 last, .slice A cs.length c]).alloc _).alloc _
  have hS : Blk W (w.heap.size + 1) 71 #[.string to, .string bs] := by
    have := Blk.new (w.alloc (.cells #[.int .i64 most, .int .i64 last, .slice A cs.length c] 90)) 71 #[.string to, .string bs]
    rw [show (w.alloc (.cells #[.int .i64 most, .int .i64 last, .slice A cs.length c] 90)).heap.size = w.heap.size + 1 by simp] at this
    exact hW ▸ this.alloc _
  have hR : Blk W (w.heap.size + 1 + 1) 90 #[.int .i64 0, .int .i64 0, .slice none 0 0] := by
    have := Blk.new ((w.alloc (.cells #[.int .i64 most, .int .i64 last, .slice A cs.length c] 90)).alloc (.cells #[.string to, .string bs] 71)) 90 #[.int .i64 0, .int .i64 0, .slice none 0 0]
    rw [show ((w.alloc (.cells #[.int .i64 most, .int .i64 last, .slice A cs.length c] 90)).alloc (.cells #[.string to, .string bs] 71)).heap.size = w.heap.size + 1 + 1 by simp] at this
    exact hW ▸ this
  have HRD := Lib.hid (h.below hB)
  have HB := Lib.hid hB
  have HT := Lib.hid hT
  have HS := Lib.hid hS
  have HR := Lib.hid hR
  have HW := Lib.hid hW
  have HSZ := Lib.hid hs
  have t0 := hT.cell 0
  have t1 := hT.cell 1
  have t2 := hT.cell 2
  have r0 := hR.cell 0
  have r1 := hR.cell 1
  have r2 := hR.cell 2
  have q0 := hR.frozen 0
  have q1 := hR.frozen 1
  have q2 := hR.frozen 2
  have HEND : Hid (∀ w' n, Below w.heap.size w w' → cStartE most cs br now = n → n ≠ 0 → RStartPost w most last cs br now to bs (.returned (.tuple #[.agg #[.int .i64 most, .int .i64 last, .slice A cs.length c], .int .i64 0, .int .i64 n])) w') := Lib.hid (fun w' n hb h1 h2 =>
    rstart_same ⟨A, c, rfl, hlc, hc, h.below hb⟩ hb h1 h2)
  clear hW hB hT hS hR hs h
  by_cases ha : now < 0 ∨ 1099511627136 < now
  · have HE := Lib.hid (startE_arg (most := most) (cs := cs) (br := br) ha)
    clear HRD t0 t1 t2 r0 r1 r2 q0 q1 q2
    rcases ha with ha | ha
    all_goals
      go_enter Try.func65, Try.ntmps65
      go_wp2
      all_goals
        exact bodyPost_ret (v := .tuple #[.agg #[.int .i64 most, .int .i64 last, .slice A cs.length c], .int .i64 0, .int .i64 1]) (by simp [results, Try.results65, go_sem]) rfl (HEND.out _ 1 (by repeat (first | exact Below.refl _ _ | refine Below.setCell ?_ (by simp <;> omega) _ | refine Below.alloc ?_ (by simp <;> omega) _)) HE.out (by omega))
  · have hn1 : 0 ≤ now := by omega
    have hn2 : now ≤ 1099511627136 := by omega
    have HA := Lib.hid ha
    clear ha
    go_enter Try.func65, Try.ntmps65
    go_wp2
    rw [HW.out]
    go_loop [11] (fun i => ∃ j : Nat, j ≤ cs.length ∧ i = .int .i64 j ∧ cHas (cs.take j) br = false) (fun i => cs.length - (intOf i).toNat)
    case atStart => exact ⟨0, by omega, rfl, rfl⟩
    case round =>
      obtain ⟨j, hj, rfl, hrel⟩ := hrel
      have x0 : (0 : Int) ≤ j := by omega
      by_cases hlt : j < cs.length
      · have x1 : (j : Int) < cs.length := by omega
        obtain ⟨gb, off, rfl, _, hcj⟩ := rd_row rcell_len HRD.out hlt
        have c1 : W.cell? ⟨gb, off + j * 7 + 1, none⟩ = some (.string cs[j].br) := hcj 1 (by omega)
        have hht := has_take hlt hrel
        by_cases he : cs[j].br = br
        · have HE := Lib.hid (startE_twice (most := most) HA.out (has_of hlt he))
          have heb := beq_yes he
          clear hcj hrel he hht
          go_wp2
          obtain ⟨z0, z1, z2⟩ := HR.out.three (.int .i64 most) (.int .i64 last) (.slice (some ⟨gb, off, none⟩) cs.length c)
          exact bodyPost_ret (v := .tuple #[.agg #[.int .i64 most, .int .i64 last, .slice (some ⟨gb, off, none⟩) cs.length c], .int .i64 0, .int .i64 7]) (by simp [results, Try.results65, go_sem, z0, z1, z2]) rfl (HEND.out _ 7 (((HB.out.setCell (by simp <;> omega) _).setCell (by simp <;> omega) _).setCell (by simp <;> omega) _) HE.out (by omega))
        · rw [decide_eq_false he] at hht
          have HH := Lib.hid hht
          have heb := beq_no he
          clear hcj hrel he hht
          go_wp2
          go_round
          case rel => exact ⟨j + 1, by omega, by go_num, HH.out⟩
          case measure => simp [intOf] <;> omega
      · obtain rfl : j = cs.length := by omega
        rw [List.take_length] at hrel
        by_cases hf : most ≤ cs.length
        · have HE := Lib.hid (startE_full (most := most) HA.out hrel hf)
          clear hrel
          go_wp2
          obtain ⟨z0, z1, z2⟩ := HR.out.three (.int .i64 most) (.int .i64 last) (.slice A cs.length c)
          exact bodyPost_ret (v := .tuple #[.agg #[.int .i64 most, .int .i64 last, .slice A cs.length c], .int .i64 0, .int .i64 5]) (by simp [results, Try.results65, go_sem, z0, z1, z2]) rfl (HEND.out _ 5 (((HB.out.setCell (by simp <;> omega) _).setCell (by simp <;> omega) _).setCell (by simp <;> omega) _) HE.out (by omega))
        · have HE := Lib.hid (startE_ok (most := most) HA.out hrel hf)
          have s0 := HS.out.cell 0
          have s1 := HS.out.cell 1
          have hwl : IntKind.i64.wrap (last + 1) = last + 1 := IntWalk.i64_in _ (by omega)
          obtain ⟨hl1, hl2⟩ := hla
          clear hrel
          go_wp2_with fail
          obtain ⟨W4, hW4⟩ : ∃ W4, W.alloc (.cells #[.int .i64 (last + 1), .string br, .int .i64 now, .int .i64 1, .int .i64 (-1), .string to, .string bs] 153) = W4 := ⟨_, rfl⟩
          rw [hW4]
          have hb4 : Below W.heap.size W W4 := hW4 ▸ (Below.refl _ _).alloc (Nat.le_refl _) _
          have hs4 : W4.heap.size = W.heap.size + 1 := by rw [← hW4]; simp
          have hn4 : Blk W4 W.heap.size 153 #[.int .i64 (last + 1), .string br, .int .i64 now, .int .i64 1, .int .i64 (-1), .string to, .string bs] := hW4 ▸ Blk.new W _ _
          have ht4 := HT.out.fr (Fr.of_below (F := fun _ => False) hb4) (fun h => h)
          have hr4 := HR.out.fr (Fr.of_below (F := fun _ => False) hb4) (fun h => h)
          have HR4 : Hid (∀ W', Below W4.heap.size W4 W' → Rd W' 153 7 cs.length A (rows rcell cs)) := Lib.hid (fun W' hb => (HRD.out.below hb4).below hb)
          have HS4 : Hid (∀ W' W'', Below W4.heap.size W4 W'' → Fr (fun k => k = w.heap.size + 1 + 1) W'' W' → W'.cell? ⟨w.heap.size, 0, none⟩ = some (.int .i64 most) ∧ W'.cell? ⟨w.heap.size, 1, none⟩ = some (.int .i64 last) ∧ W'.cell? ⟨w.heap.size, 2, none⟩ = some (.slice A cs.length c) ∧ W'.cell? ⟨W.heap.size, 0, none⟩ = some (.int .i64 (last + 1)) ∧ W'.cell? ⟨W.heap.size, 1, none⟩ = some (.string br) ∧ W'.cell? ⟨W.heap.size, 2, none⟩ = some (.int .i64 now) ∧ W'.cell? ⟨W.heap.size, 3, none⟩ = some (.int .i64 1) ∧ W'.cell? ⟨W.heap.size, 4, none⟩ = some (.int .i64 (-1)) ∧ W'.cell? ⟨W.heap.size, 5, none⟩ = some (.string to) ∧ W'.cell? ⟨W.heap.size, 6, none⟩ = some (.string bs)) := Lib.hid (fun W' W'' hb hf => by
            have q1 := (ht4.fr (Fr.of_below (F := fun _ => False) hb) (fun h => h)).fr hf (by omega)
            have q2 := (hn4.fr (Fr.of_below (F := fun _ => False) hb) (fun h => h)).fr hf (by have := HSZ.out; omega)
            exact ⟨q1.cell 0, q1.cell 1, q1.cell 2, q2.cell 0, q2.cell 1, q2.cell 2, q2.cell 3, q2.cell 4, q2.cell 5, q2.cell 6⟩)
          have HB4 := Lib.hid (HB.out.trans (hb4.mono HB.out.size))
          have HRR := Lib.hid hr4
          have HSW4 : Hid (w.heap.size + 3 < W4.heap.size) := Lib.hid (by have := HSZ.out; omega)
          have hll : Hid (cs.length ≤ 1000000) := Lib.hid hl
          clear hW4 hs4 hb4 hn4 ht4 hr4 r0 r1 r2 t0 t1 t2 s0 s1 q0 q1 q2
          go_region_held3 (fun w' => w'.cell? ⟨w.heap.size, 0, none⟩ = some (.int .i64 most) ∧ w'.cell? ⟨w.heap.size, 1, none⟩ = some (.int .i64 last) ∧ w'.cell? ⟨w.heap.size, 2, none⟩ = some (.slice A cs.length c) ∧ w'.cell? ⟨W.heap.size, 0, none⟩ = some (.int .i64 (last + 1)) ∧ w'.cell? ⟨W.heap.size, 1, none⟩ = some (.string br) ∧ w'.cell? ⟨W.heap.size, 2, none⟩ = some (.int .i64 now) ∧ w'.cell? ⟨W.heap.size, 3, none⟩ = some (.int .i64 1) ∧ w'.cell? ⟨W.heap.size, 4, none⟩ = some (.int .i64 (-1)) ∧ w'.cell? ⟨W.heap.size, 5, none⟩ = some (.string to) ∧ w'.cell? ⟨W.heap.size, 6, none⟩ = some (.string bs))
            (first | (refine HS4.out _ _ ?_ (Fr.refl _ _); (repeat (first | exact Below.refl _ _ | refine Below.trans ?_ hbb | refine Below.trans ?_ hba | refine Below.drew ?_ | refine Below.alloc ?_ (by first | omega | (simp; done) | (simp; omega)) _)); done) | exact HS4.out _ wb hbw ((((Fr.refl (fun k => k = w.heap.size + 1 + 1) wb).set (p := ⟨w.heap.size + 1 + 1, 0, none⟩) (fun _ => rfl) _).set (p := ⟨w.heap.size + 1 + 1, 1, none⟩) (fun _ => rfl) _).set (p := ⟨w.heap.size + 1 + 1, 2, none⟩) (fun _ => rfl) _)) (first | (refine step_app_rd (by rfl) (.tmp 55) (.tmp 57) 88 (by rfl) W4.heap.size 153 7 80 (.agg #[.int .i64 0, .string ⟨#[]⟩, .int .i64 0, .int .i64 0, .int .i64 0, .string ⟨#[]⟩, .string ⟨#[]⟩]) Try.underlying88 e153i (by rfl) (by omega) (.slice (some ⟨W4.heap.size, 0, none⟩) 0 0) 0 [] (by rfl) ?_ A cs.length c (rows rcell cs) (by rfl) ?_ (rows_one rcell_one cs) ?_ ?_ ?_ ?_; exact own_empty (Blk.new W4 _ _) (by omega); (refine HR4.out _ ?_; repeat (first | exact Below.refl _ _ | refine Below.trans ?_ hbb | refine Below.trans ?_ hba | refine Below.drew ?_ | refine Below.alloc ?_ (by first | omega | (simp; done) | (simp; omega)) _)); (unfold maxLen; omega); omega; (first | exact sz1 _ _ | exact sz2 _ _ _ | exact sz3 _ _ hsa | omega); intro v1 wa howna hba hga hata; rw [Nat.zero_add, List.nil_append] at howna; have hsa : W4.heap.size ≤ wa.heap.size := (by first | exact Nat.le_trans (sz1 _ _) hba.size | exact Nat.le_trans (sz2 _ _ _) hba.size)) | (refine step_app_rd (by rfl) (.tmp 55) (.tmp 57) 88 (by rfl) W4.heap.size 153 7 80 (.agg #[.int .i64 0, .string ⟨#[]⟩, .int .i64 0, .int .i64 0, .int .i64 0, .string ⟨#[]⟩, .string ⟨#[]⟩]) Try.underlying88 e153i (by rfl) (by omega) (.slice (some ⟨W4.heap.size, 0, none⟩) 0 0) 0 [] (by rfl) ?_ A cs.length c (rows rcell cs) (by rfl) ?_ (rows_one rcell_one cs) ?_ ?_ ?_ ?_; exact own_empty ((Blk.new W4 _ _).alloc _) (by omega); (refine HR4.out _ ?_; repeat (first | exact Below.refl _ _ | refine Below.trans ?_ hbb | refine Below.trans ?_ hba | refine Below.drew ?_ | refine Below.alloc ?_ (by first | omega | (simp; done) | (simp; omega)) _)); (unfold maxLen; omega); omega; (first | exact sz1 _ _ | exact sz2 _ _ _ | exact sz3 _ _ hsa | omega); intro v1 wa howna hba hga hata; rw [Nat.zero_add, List.nil_append] at howna; have hsa : W4.heap.size ≤ wa.heap.size := (by first | exact Nat.le_trans (sz1 _ _) hba.size | exact Nat.le_trans (sz2 _ _ _) hba.size)) | (refine step_app_rd (by rfl) (.tmp 55) (.tmp 57) 88 (by rfl) W4.heap.size 153 7 80 (.agg #[.int .i64 0, .string ⟨#[]⟩, .int .i64 0, .int .i64 0, .int .i64 0, .string ⟨#[]⟩, .string ⟨#[]⟩]) Try.underlying88 e153i (by rfl) (by omega) (.slice (some ⟨W4.heap.size + 1, 0, none⟩) 0 0) 0 [] (by rfl) ?_ A cs.length c (rows rcell cs) (by rfl) ?_ (rows_one rcell_one cs) ?_ ?_ ?_ ?_; exact own_empty (Blk.new' (W4.alloc (.cells #[.int .i64 (last + 1), .string br, .int .i64 now, .int .i64 1, .int .i64 (-1), .string to, .string bs] 153)) _ _ (by simp)) (by omega); (refine HR4.out _ ?_; repeat (first | exact Below.refl _ _ | refine Below.trans ?_ hbb | refine Below.trans ?_ hba | refine Below.drew ?_ | refine Below.alloc ?_ (by first | omega | (simp; done) | (simp; omega)) _)); (unfold maxLen; omega); omega; (first | exact sz1 _ _ | exact sz2 _ _ _ | exact sz3 _ _ hsa | omega); intro v1 wa howna hba hga hata; rw [Nat.zero_add, List.nil_append] at howna; have hsa : W4.heap.size ≤ wa.heap.size := (by first | exact Nat.le_trans (sz1 _ _) hba.size | exact Nat.le_trans (sz2 _ _ _) hba.size)) | (refine step_app1 (by rfl) (.tmp 58) (.tmp 60) 88 (by rfl) W4.heap.size 153 7 80 (.agg #[.int .i64 0, .string ⟨#[]⟩, .int .i64 0, .int .i64 0, .int .i64 0, .string ⟨#[]⟩, .string ⟨#[]⟩]) Try.underlying88 e153i (by rfl) (by omega) v1 cs.length (rows rcell cs) (by rfl) ?_ (rcell (cNew last br now to bs)) (wa.heap.size) (by rfl) ?_ (by rfl) (rcell_one _) ?_ ?_ ?_ ?_; exact own_fr howna ((Fr.refl (fun _ => False) _).alloc _) (fun _ _ h => h); exact Blk.new wa _ _; (unfold maxLen; omega); omega; (first | exact sz1 _ _ | exact sz2 _ _ _ | exact sz3 _ _ hsa | omega); intro v2 wb hownb hbb hgb hatb; obtain ⟨gg, cg, rfl⟩ := own_pos hownb (by omega); have hbw : Below W4.heap.size W4 wb := (by repeat (first | exact Below.refl _ _ | refine Below.trans ?_ hbb | refine Below.trans ?_ hba | refine Below.drew ?_ | refine Below.alloc ?_ (by first | omega | (simp; done) | (simp; omega)) _)); have hzz := HRR.out.fr (Fr.of_below (F := fun _ => False) hbw) (fun h => h); have zf0 := hzz.frozen 0; have zf1 := hzz.frozen 1; have zf2 := hzz.frozen 2; have zc0 := hzz.cell 0; have zc1 := hzz.cell 1; have zc2 := hzz.cell 2) | (refine step_app1 (by rfl) (.tmp 58) (.tmp 60) 88 (by rfl) W4.heap.size 153 7 80 (.agg #[.int .i64 0, .string ⟨#[]⟩, .int .i64 0, .int .i64 0, .int .i64 0, .string ⟨#[]⟩, .string ⟨#[]⟩]) Try.underlying88 e153i (by rfl) (by omega) v1 cs.length (rows rcell cs) (by rfl) ?_ (rcell (cNew last br now to bs)) (W4.heap.size + 1) (by rfl) ?_ (by rfl) (rcell_one _) ?_ ?_ ?_ ?_; exact howna; exact Blk.of_grown hga (Blk.new' (W4.alloc (.cells #[] 153)) _ _ (by simp)) (by simp [Value.ownBlock]); (unfold maxLen; omega); omega; (first | exact sz1 _ _ | exact sz2 _ _ _ | exact sz3 _ _ hsa | omega); intro v2 wb hownb hbb hgb hatb; obtain ⟨gg, cg, rfl⟩ := own_pos hownb (by omega); have hbw : Below W4.heap.size W4 wb := (by repeat (first | exact Below.refl _ _ | refine Below.trans ?_ hbb | refine Below.trans ?_ hba | refine Below.drew ?_ | refine Below.alloc ?_ (by first | omega | (simp; done) | (simp; omega)) _)); have hzz := HRR.out.fr (Fr.of_below (F := fun _ => False) hbw) (fun h => h); have zf0 := hzz.frozen 0; have zf1 := hzz.frozen 1; have zf2 := hzz.frozen 2; have zc0 := hzz.cell 0; have zc1 := hzz.cell 1; have zc2 := hzz.cell 2) | (refine step_app1 (by rfl) (.tmp 58) (.tmp 60) 88 (by rfl) W4.heap.size 153 7 80 (.agg #[.int .i64 0, .string ⟨#[]⟩, .int .i64 0, .int .i64 0, .int .i64 0, .string ⟨#[]⟩, .string ⟨#[]⟩]) Try.underlying88 e153i (by rfl) (by omega) v1 cs.length (rows rcell cs) (by rfl) ?_ (rcell (cNew last br now to bs)) (W4.heap.size) (by rfl) ?_ (by rfl) (rcell_one _) ?_ ?_ ?_ ?_; exact howna; exact Blk.of_grown hga ((Blk.new W4 _ _).alloc _) (by simp [Value.ownBlock]); (unfold maxLen; omega); omega; (first | exact sz1 _ _ | exact sz2 _ _ _ | exact sz3 _ _ hsa | omega); intro v2 wb hownb hbb hgb hatb; obtain ⟨gg, cg, rfl⟩ := own_pos hownb (by omega); have hbw : Below W4.heap.size W4 wb := (by repeat (first | exact Below.refl _ _ | refine Below.trans ?_ hbb | refine Below.trans ?_ hba | refine Below.drew ?_ | refine Below.alloc ?_ (by first | omega | (simp; done) | (simp; omega)) _)); have hzz := HRR.out.fr (Fr.of_below (F := fun _ => False) hbw) (fun h => h); have zf0 := hzz.frozen 0; have zf1 := hzz.frozen 1; have zf2 := hzz.frozen 2; have zc0 := hzz.cell 0; have zc1 := hzz.cell 1; have zc2 := hzz.cell 2))
          all_goals
            obtain ⟨z0, z1, z2⟩ := hzz.three (.int .i64 most) (.int .i64 (last + 1)) (.slice (some ⟨gg, 0, none⟩) (cs.length + 1) cg)
            have hfs : Fr (fun k => k = w.heap.size + 1 + 1) wb (((wb.setCell ⟨w.heap.size + 1 + 1, 0, none⟩ (.int .i64 most)).setCell ⟨w.heap.size + 1 + 1, 1, none⟩ (.int .i64 (last + 1))).setCell ⟨w.heap.size + 1 + 1, 2, none⟩ (.slice (some ⟨gg, 0, none⟩) (cs.length + 1) cg)) :=
              (((Fr.refl (fun k => k = w.heap.size + 1 + 1) wb).set (p := ⟨w.heap.size + 1 + 1, 0, none⟩) (fun _ => rfl) _).set (p := ⟨w.heap.size + 1 + 1, 1, none⟩) (fun _ => rfl) _).set (p := ⟨w.heap.size + 1 + 1, 2, none⟩) (fun _ => rfl) _
            have HP : Hid (RStartPost w most last cs br now to bs (.returned (.tuple #[.agg #[.int .i64 most, .int .i64 (last + 1), .slice (some ⟨gg, 0, none⟩) (cs.length + 1) cg], .int .i64 (last + 1), .int .i64 0])) (((wb.setCell ⟨w.heap.size + 1 + 1, 0, none⟩ (.int .i64 most)).setCell ⟨w.heap.size + 1 + 1, 1, none⟩ (.int .i64 (last + 1))).setCell ⟨w.heap.size + 1 + 1, 2, none⟩ (.slice (some ⟨gg, 0, none⟩) (cs.length + 1) cg))) := Lib.hid (by
              have e1 : cStartI most last cs br now = last + 1 := by unfold cStartI; rw [if_pos HE.out]
              have e2 : cStartN most last cs br now = last + 1 := by unfold cStartN; rw [if_pos HE.out]
              have e3 : cStartL most last cs br now to bs = cs ++ [cNew last br now to bs] := by unfold cStartL; rw [if_pos HE.out]
              have hs4 := HB4.out.size
              have hsw := HSZ.out
              refine ⟨_, by rw [e1, e2, HE.out], ?_, HB4.out.trans ((hbw.mono hs4).trans (hfs.to_below (by have := hbw.size; omega) (fun k e => by omega)))⟩
              rw [e3, rows_snoc, List.length_append, List.length_singleton]
              refine RdV.of_own (own_fr hownb hfs (fun k hk e => ?_))
              have h1 := (hownb.lt k hk).1
              have h2 := HSW4.out
              omega)
            go_wp2
            exact bodyPost_ret (v := .tuple #[.agg #[.int .i64 most, .int .i64 (last + 1), .slice (some ⟨gg, 0, none⟩) (cs.length + 1) cg], .int .i64 (last + 1), .int .i64 0]) (by simp [results, Try.results65, go_sem, z0, z1, z2]) rfl HP.out
end Go.Proofs.Ytgfoobgkpnknmaa
