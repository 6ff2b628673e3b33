/- The reference's table of the server: Answer. -/
import Derived.Test.YtgfoobgkpnknmaaQ1
import Derived.Test.YtgfoobgkpnknmaaM6
import Derived.RegionTactic
namespace Go.Proofs.Ytgfoobgkpnknmaa
set_option linter.unusedSimpArgs false
set_option linter.unusedVariables false
open Go.RowKit
theorem e168i : ElemInfo Try.prog 168 8 104 (.agg #[.int .i64 0, .string ⟨#[]⟩, .string ⟨#[]⟩, .string ⟨#[]⟩, .int .i64 0, .bool false, .string ⟨#[]⟩, .string ⟨#[]⟩]) := ElemInfo.mk' (by kernel_rfl)
theorem rows_set {α : Type} {f : α → List Value} {sz : Nat} (hf : ∀ a, (f a).length = sz) : ∀ (l : List α) (i j : Nat) (hi : i < l.length) (a : α) (u : Value), j < sz → f a = (f l[i]).set j u → (rows f l).set (i * sz + j) u = rows f (l.set i a)
  | [], _, _, hi, _, _, _, _ => by cases hi
  | x :: r, 0, j, _, a, u, hj, h => by
    rw [List.set_cons_zero, rows_cons, rows_cons, Nat.zero_mul, Nat.zero_add, List.set_append_left _ _ (by rw [hf]; exact hj), h]
    rfl
  | x :: r, i + 1, j, hi, a, u, hj, h => by
    rw [List.set_cons_succ, rows_cons, rows_cons, List.set_append_right _ _ (by rw [hf, Nat.add_mul]; omega), hf, show (i + 1) * sz + j - sz = i * sz + j by rw [Nat.add_mul]; omega,
      rows_set hf r i j (by simpa using hi) a u hj h]
def RAnsPost (w : World) (most last : Int) (cs : List SC) (n : Int) (to bs : ByteArray) (e : Ending) (w' : World) : Prop :=
  ∃ v, e = .returned (.tuple #[.agg #[.int .i64 most, .int .i64 last, v], .int .i64 (sAnsE cs n)]) ∧
    RdV w' 168 8 (sAnsL n to bs cs).length v (rows srcell (sAnsL n to bs cs)) ∧ Below w.heap.size w w'
theorem rans_same {w w' : World} {most last : Int} {cs : List SC} {n m : Int} {to bs : ByteArray} {v : Value} (hr : RdV w' 168 8 cs.length v (rows srcell cs)) (hb : Below w.heap.size w w') (h : sAnsE cs n = m) (hm : m ≠ 0) :
    RAnsPost w most last cs n to bs (.returned (.tuple #[.agg #[.int .i64 most, .int .i64 last, v], .int .i64 m])) w' := by
  have e3 : sAnsL n to bs cs = cs := by unfold sAnsL; rw [if_neg (by omega)]
  exact ⟨v, by rw [h], by rw [e3]; exact hr, hb⟩
theorem Blk.three {W : World} {g : Nat} {t : TypeId} {a b c : Value} (h : Blk W g t #[a, b, c]) (x y z : Value) :
    (((W.setCell ⟨g, 0, none⟩ x).setCell ⟨g, 1, none⟩ y).setCell ⟨g, 2, none⟩ z).cell? ⟨g, 0, none⟩ = some x ∧ (((W.setCell ⟨g, 0, none⟩ x).setCell ⟨g, 1, none⟩ y).setCell ⟨g, 2, none⟩ z).cell? ⟨g, 1, none⟩ = some y ∧ (((W.setCell ⟨g, 0, none⟩ x).setCell ⟨g, 1, none⟩ y).setCell ⟨g, 2, none⟩ z).cell? ⟨g, 2, none⟩ = some z :=
  ⟨(((h.set_ 0 x).set_ 1 y).set_ 2 z).cell 0, (((h.set_ 0 x).set_ 1 y).set_ 2 z).cell 1, (((h.set_ 0 x).set_ 1 y).set_ 2 z).cell 2⟩
set_option maxRecDepth 100000 in
set_option maxHeartbeats 4000000 in
theorem ranswer_any {w : World} {cs : List SC} {A : Option Addr} {c : Nat} (h : Rd w 168 8 cs.length A (rows srcell cs)) (hl : cs.length ≤ 1000000) (hlc : cs.length ≤ c) (hc : c ≤ maxLen) (hids : cs.Pairwise fun a b => a.id < b.id) (most last n : Int) (to bs : ByteArray) :
    Calls Try.prog 72 #[.agg #[.int .i64 most, .int .i64 last, .slice A cs.length c], .int .i64 n, .agg #[.string to, .string bs]] w (RAnsPost w most last cs n to bs) := by
  obtain ⟨W, hW⟩ : ∃ W, ((w.alloc (.cells #[.int .i64 most, .int .i64 last, .slice A cs.length c] 117)).alloc (.cells #[.string to, .string bs] 71)).alloc (.cells #[.int .i64 0, .int .i64 0, .slice none 0 0] 117) = W := ⟨_, rfl⟩
  have hB : Below w.heap.size w W := hW ▸ (((Below.refl _ _).alloc (Nat.le_refl _) _).alloc (by simp) _).alloc (by simp; omega) _
  have hs : W.heap.size = w.heap.size + 3 := by rw [← hW]; simp
  have hT : Blk W w.heap.size 117 #[.int .i64 most, .int .i64 last, .slice A cs.length c] := hW ▸ ((Blk.new w 117 #[.int .i64 most, .int .i64 last, .slice A cs.length c]).alloc _).alloc _
  have hS : Blk W (w.heap.size + 1) 71 #[.string to, .string bs] := hW ▸ (Blk.new' (w.alloc (.cells #[.int .i64 most, .int .i64 last, .slice A cs.length c] 117)) _ _ (by simp)).alloc _
  have hR : Blk W (w.heap.size + 1 + 1) 117 #[.int .i64 0, .int .i64 0, .slice none 0 0] := hW ▸ Blk.new' ((w.alloc (.cells #[.int .i64 most, .int .i64 last, .slice A cs.length c] 117)).alloc (.cells #[.string to, .string bs] 71)) _ _ (by simp)
  have hrd := h.below hB
  have HP := Lib.hid (rplace_any (c := c) hrd hl most last n)
  have t0 := hT.cell 0
  have t1 := hT.cell 1
  have t2 := hT.cell 2
  have HRD := Lib.hid hrd
  have HB := Lib.hid hB
  have HT := Lib.hid hT
  have HS := Lib.hid hS
  have HR := Lib.hid hR
  have HW := Lib.hid hW
  have HSZ := Lib.hid hs
  have HI := Lib.hid hids
  clear hB hT hS hR hs h hrd hids
  go_enter Try.func72, Try.ntmps72
  go_wp2_with fail
  refine (HP.out).mono ?_
  rintro e w1 ⟨rfl, hb1⟩
  have f1 := Fr.of_below (F := fun _ => False) hb1
  have HT1 := Lib.hid (HT.out.fr f1 (fun h => h))
  have HS1 := Lib.hid (HS.out.fr f1 (fun h => h))
  have HR1 := Lib.hid (HR.out.fr f1 (fun h => h))
  have HRD1 := Lib.hid (HRD.out.below hb1)
  have HB1 := Lib.hid (HB.out.trans (hb1.mono HB.out.size))
  have HZ1 : Hid (w.heap.size + 3 ≤ w1.heap.size) := Lib.hid (by have := HSZ.out; have := hb1.size; omega)
  clear hW t0 t1 t2 hb1 f1
  have t0 := HT1.out.cell 0
  have t1 := HT1.out.cell 1
  have t2 := HT1.out.cell 2
  have r0 := HR1.out.cell 0
  have r1 := HR1.out.cell 1
  have r2 := HR1.out.cell 2
  have q0 := HR1.out.frozen 0
  have q1 := HR1.out.frozen 1
  have q2 := HR1.out.frozen 2
  rcases placeI_cases n cs with ⟨hpi, hp⟩ | ⟨i, hi, hpi, hp⟩
  · rw [hpi]
    have HE := Lib.hid (show sAnsE cs n = 6 by unfold sAnsE; rw [hp])
    have hneg : decide ((-1 : Int) < 0) = true := rfl
    clear hp hpi
    go_wp2
    obtain ⟨z0, z1, z2⟩ := HR1.out.three (.int .i64 most) (.int .i64 last) (.slice A cs.length c)
    have hfs : Fr (fun k => k = w.heap.size + 1 + 1) w1 (((w1.setCell ⟨w.heap.size + 1 + 1, 0, none⟩ (.int .i64 most)).setCell ⟨w.heap.size + 1 + 1, 1, none⟩ (.int .i64 last)).setCell ⟨w.heap.size + 1 + 1, 2, none⟩ (.slice A cs.length c)) :=
      (((Fr.refl (fun k => k = w.heap.size + 1 + 1) w1).set (p := ⟨w.heap.size + 1 + 1, 0, none⟩) (fun _ => rfl) _).set (p := ⟨w.heap.size + 1 + 1, 1, none⟩) (fun _ => rfl) _).set (p := ⟨w.heap.size + 1 + 1, 2, none⟩) (fun _ => rfl) _
    exact bodyPost_ret (v := .tuple #[.agg #[.int .i64 most, .int .i64 last, .slice A cs.length c], .int .i64 6]) (by simp [results, Try.results72, go_sem, z0, z1, z2]) rfl
      (rans_same ⟨A, c, rfl, hlc, hc, HRD1.out.fr hfs (fun gb ds fr hb e => by
        subst e
        have := HR1.out
        unfold Blk at this
        rw [hb] at this; injection this with this; injection this with _ q; exact absurd q (by decide))⟩ (HB1.out.trans (hfs.to_below HB1.out.size (fun k e => by omega))) HE.out (by omega))
  · rw [hpi]
    have x0 : (0 : Int) ≤ i := by omega
    have x1 : (i : Int) < cs.length := by omega
    have hneg : decide ((i : Int) < 0) = false := decide_eq_false (by omega)
    obtain ⟨gb, off, rfl, hgl, hcj⟩ := rd_row srcell_len HRD1.out hi
    have c5 : w1.cell? ⟨gb, off + i * 8 + 5, none⟩ = some (.bool cs[i].told) := hcj 5 (by omega)
    clear hcj
    cases htd : cs[i].told
    · rw [htd] at c5
      have HE := Lib.hid (show sAnsE cs n = 0 by unfold sAnsE; rw [hp]; simp [htd])
      have HTL := Lib.hid (tell_set HI.out hp to bs)
      have htd := Lib.hid htd
      have s0 := HS1.out.cell 0
      have s1 := HS1.out.cell 1
      have t2' := (HT1.out.alloc (.cells #[] 168)).cell 2
      clear hp hpi
      go_wp2_with (at_builtin; go_must (refine wpList_app_rd _ rfl (.tmp 23) (.tmp 25) 115 rfl w1.heap.size 168 8 104 _ Try.underlying115 e168i rfl (by omega) _ _ _ rfl (own_empty (Blk.new w1 _ _) (Nat.le_refl _)) _ _ _ _ rfl (HRD1.out.alloc _) (rows_one srcell_one cs) (by unfold maxLen; omega) (by omega) (by simp) ?_); intro v2 w2 hown2 hb2 hg2 hat2; rw [Nat.zero_add, List.nil_append] at hown2; obtain ⟨g2, cp2, rfl⟩ := own_pos hown2 (by omega); have hb2 := ((Below.refl _ w1).alloc (Nat.le_refl _) (.cells #[] 168)).trans hb2; have f2 := Fr.of_below (F := fun _ => False) hb2; have HT2 := Lib.hid (HT1.out.fr f2 (fun h => h)); have HS2 := Lib.hid (HS1.out.fr f2 (fun h => h)); have HR2 := Lib.hid (HR1.out.fr f2 (fun h => h)); have HO2 := Lib.hid hown2; have HB2 := Lib.hid hb2; clear hown2 hb2 hg2 hat2 f2 t2' t0 t1 t2 r0 r1 r2 q0 q1 q2 s0 s1 c5; have s0 := HS2.out.cell 0; have s1 := HS2.out.cell 1)
      have hat : ∀ j, j < 8 → w2.cell? ⟨g2, i * 8 + j, none⟩ = (srcell cs[i])[j]? := fun j hj => by
        rw [HO2.out.cellAt (i * 8 + j) (by omega)]
        exact rows_at srcell_len hi hj
      have d5 : w2.cell? ⟨g2, i * 8 + 5, none⟩ = some (.bool cs[i].told) := hat 5 (by omega)
      have d6 : w2.cell? ⟨g2, i * 8 + 6, none⟩ = some (.string cs[i].to) := hat 6 (by omega)
      have d7 : w2.cell? ⟨g2, i * 8 + 7, none⟩ = some (.string cs[i].bs) := hat 7 (by omega)
      have z5 : w2.frozen? ⟨g2, i * 8 + 5, none⟩ = false := HO2.out.frozenAt _
      have z6 : w2.frozen? ⟨g2, i * 8 + 6, none⟩ = false := HO2.out.frozenAt _
      have z7 : w2.frozen? ⟨g2, i * 8 + 7, none⟩ = false := HO2.out.frozenAt _
      have hne : ¬ w.heap.size + 1 = g2 := by
        have h1 := (HO2.out.lt g2 rfl).1
        have h2 := HZ1.out
        omega
      clear hat
      go_region
      obtain ⟨W3, hW3⟩ : ∃ W3, (((w2.setCell ⟨g2, i * 8 + 5, none⟩ (.bool true)).setCell ⟨g2, i * 8 + 6, none⟩ (.string to)).setCell ⟨g2, i * 8 + 6 + 1, none⟩ (.string bs)).drew = W3 := ⟨_, rfl⟩
      rw [hW3]
      have hf3 : Fr (fun k => k = g2) w2 W3 := hW3 ▸ ((((Fr.refl (fun k => k = g2) w2).set (p := ⟨g2, i * 8 + 5, none⟩) (fun _ => rfl) _).set (p := ⟨g2, i * 8 + 6, none⟩) (fun _ => rfl) _).set (p := ⟨g2, i * 8 + 6 + 1, none⟩) (fun _ => rfl) _).drew
      have ho3 : W3.ownsRow w1.heap.size 168 8 (.slice (some ⟨g2, 0, none⟩) cs.length cp2) cs.length (rows srcell (cs.set i { cs[i] with told := true, to := to, bs := bs })) := by
        have a := (World.ownsRow.stored (World.ownsRow.stored (World.ownsRow.stored HO2.out (i * 8 + 5) (.bool true)).1 (i * 8 + 6) (.string to)).1 (i * 8 + 7) (.string bs)).1
        rw [rows_set srcell_len cs i 5 hi { cs[i] with told := true } (.bool true) (by omega) rfl,
          rows_set srcell_len _ i 6 (by simpa using hi) { cs[i] with told := true, to := to } (.string to) (by omega) (by simp [srcell]),
          rows_set srcell_len _ i 7 (by simpa using hi) { cs[i] with told := true, to := to, bs := bs } (.string bs) (by omega) (by simp [srcell]), List.set_set, List.set_set] at a
        rw [← hW3]
        exact a
      have hlt2 := (HO2.out.lt g2 rfl).1
      have hz1 := HZ1.out
      have HT3 := Lib.hid (HT2.out.fr hf3 (fun e => by omega))
      have HR3 := Lib.hid (HR2.out.fr hf3 (fun e => by omega))
      have HB3 : Hid (Below w.heap.size w W3) := Lib.hid ((HB1.out.trans (HB2.out.mono (by omega))).trans (hf3.to_below (by have := HB2.out.size; omega) (fun k e => by omega)))
      have HO3 := Lib.hid ho3
      clear hW3 hf3 ho3 hlt2 hz1 d5 d6 d7 z5 z6 z7 s0 s1 hne
      have t0 := HT3.out.cell 0
      have t1 := HT3.out.cell 1
      have r0 := HR3.out.cell 0
      have r1 := HR3.out.cell 1
      have r2 := HR3.out.cell 2
      have q0 := HR3.out.frozen 0
      have q1 := HR3.out.frozen 1
      have q2 := HR3.out.frozen 2
      go_wp2
      obtain ⟨y0, y1, y2⟩ := HR3.out.three (.int .i64 most) (.int .i64 last) (.slice (some ⟨g2, 0, none⟩) cs.length cp2)
      have hfs : Fr (fun k => k = w.heap.size + 1 + 1) W3 (((W3.setCell ⟨w.heap.size + 1 + 1, 0, none⟩ (.int .i64 most)).setCell ⟨w.heap.size + 1 + 1, 1, none⟩ (.int .i64 last)).setCell ⟨w.heap.size + 1 + 1, 2, none⟩ (.slice (some ⟨g2, 0, none⟩) cs.length cp2)) :=
        (((Fr.refl (fun k => k = w.heap.size + 1 + 1) W3).set (p := ⟨w.heap.size + 1 + 1, 0, none⟩) (fun _ => rfl) _).set (p := ⟨w.heap.size + 1 + 1, 1, none⟩) (fun _ => rfl) _).set (p := ⟨w.heap.size + 1 + 1, 2, none⟩) (fun _ => rfl) _
      have HP : Hid (RAnsPost w most last cs n to bs (.returned (.tuple #[.agg #[.int .i64 most, .int .i64 last, .slice (some ⟨g2, 0, none⟩) cs.length cp2], .int .i64 0])) (((W3.setCell ⟨w.heap.size + 1 + 1, 0, none⟩ (.int .i64 most)).setCell ⟨w.heap.size + 1 + 1, 1, none⟩ (.int .i64 last)).setCell ⟨w.heap.size + 1 + 1, 2, none⟩ (.slice (some ⟨g2, 0, none⟩) cs.length cp2))) := Lib.hid (by
        have e3 : sAnsL n to bs cs = cs.set i { cs[i] with told := true, to := to, bs := bs } := by unfold sAnsL; rw [if_pos HE.out, HTL.out]
        have hlt2 := (HO2.out.lt g2 rfl).1
        have hz1 := HZ1.out
        refine ⟨_, by rw [HE.out], ?_, HB3.out.trans (hfs.to_below HB3.out.size (fun k e => by omega))⟩
        rw [e3, List.length_set]
        exact RdV.of_own (own_fr HO3.out hfs (fun k hk e => by
          have : g2 = k := by simpa [Value.ownBlock] using hk
          omega)))
      exact bodyPost_ret (v := .tuple #[.agg #[.int .i64 most, .int .i64 last, .slice (some ⟨g2, 0, none⟩) cs.length cp2], .int .i64 0]) (by simp [results, Try.results72, go_sem, y0, y1, y2]) rfl HP.out
    · rw [htd] at c5
      have HE := Lib.hid (show sAnsE cs n = 7 by unfold sAnsE; rw [hp]; simp [htd])
      clear hp hpi htd
      go_wp2
      obtain ⟨z0, z1, z2⟩ := HR1.out.three (.int .i64 most) (.int .i64 last) (.slice (some ⟨gb, off, none⟩) cs.length c)
      have hfs : Fr (fun k => k = w.heap.size + 1 + 1) w1 (((w1.setCell ⟨w.heap.size + 1 + 1, 0, none⟩ (.int .i64 most)).setCell ⟨w.heap.size + 1 + 1, 1, none⟩ (.int .i64 last)).setCell ⟨w.heap.size + 1 + 1, 2, none⟩ (.slice (some ⟨gb, off, none⟩) cs.length c)) :=
        (((Fr.refl (fun k => k = w.heap.size + 1 + 1) w1).set (p := ⟨w.heap.size + 1 + 1, 0, none⟩) (fun _ => rfl) _).set (p := ⟨w.heap.size + 1 + 1, 1, none⟩) (fun _ => rfl) _).set (p := ⟨w.heap.size + 1 + 1, 2, none⟩) (fun _ => rfl) _
      exact bodyPost_ret (v := .tuple #[.agg #[.int .i64 most, .int .i64 last, .slice (some ⟨gb, off, none⟩) cs.length c], .int .i64 7]) (by simp [results, Try.results72, go_sem, z0, z1, z2]) rfl
        (rans_same ⟨some ⟨gb, off, none⟩, c, rfl, hlc, hc, HRD1.out.fr hfs (fun gb ds fr hb e => by
          subst e
          have := HR1.out
          unfold Blk at this
          rw [hb] at this; injection this with this; injection this with _ q; exact absurd q (by decide))⟩ (HB1.out.trans (hfs.to_below HB1.out.size (fun k e => by omega))) HE.out (by omega))
end Go.Proofs.Ytgfoobgkpnknmaa
