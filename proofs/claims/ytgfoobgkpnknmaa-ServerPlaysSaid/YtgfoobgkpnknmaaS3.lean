/- The server's table as an object: Start. -/
import Derived.Test.YtgfoobgkpnknmaaS2
import Derived.Deep.RegionHeld3
import Derived.Deep.QuietTactic
import Derived.BigQuiet
namespace Go.Proofs.Ytgfoobgkpnknmaa
set_option linter.unusedSimpArgs false
set_option linter.unusedVariables false
open Go.RowKit
def sStartL (most last : Int) (cs : List SC) (k : SK) (now : Int) : List SC := if sStartE most cs k now = 0 then cs ++ [sNew last k now] else cs
def sStartN (most last : Int) (cs : List SC) (k : SK) (now : Int) : Int := if sStartE most cs k now = 0 then last + 1 else last
def sStartI (most last : Int) (cs : List SC) (k : SK) (now : Int) : Int := if sStartE most cs k now = 0 then last + 1 else 0
def SStartPost (w : World) (p : Nat) (most last : Int) (cs : List SC) (k : SK) (now : Int) (F : Nat → Prop) (e : Ending) (w' : World) : Prop :=
  e = .returned (.tuple #[.int .i64 (sStartI most last cs k now), .int .i64 (sStartE most cs k now)]) ∧
    ∃ F', Sv w' p most (sStartN most last cs k now) (sStartL most last cs k now) F' ∧ Fr F w w' ∧ Ext F F' w
theorem sstart_same {w w' : World} {p : Nat} {most last : Int} {cs : List SC} {k : SK} {now n : Int} {F : Nat → Prop} (H : Sv w p most last cs F) (hb : Below w.heap.size w w') (h : sStartE most cs k now = n) (hn : n ≠ 0) :
    SStartPost w p most last cs k now F (.returned (.tuple #[.int .i64 0, .int .i64 n])) w' := by
  have e1 : sStartI most last cs k now = 0 := by unfold sStartI; rw [if_neg (by omega)]
  have e2 : sStartN most last cs k now = last := by unfold sStartN; rw [if_neg (by omega)]
  have e3 : sStartL most last cs k now = cs := by unfold sStartL; rw [if_neg (by omega)]
  refine ⟨by rw [e1, h], F, ?_, Fr.of_below hb, fun k hk => .inl hk⟩
  rw [e2, e3]
  exact H.below hb
theorem sE_arg {most : Int} {cs : List SC} {k : SK} {now : Int} (h : now < 0 ∨ 1099511627776 - 320 < now) : sStartE most cs k now = 1 := by unfold sStartE; rw [if_pos h]
theorem sE_twice {most : Int} {cs : List SC} {k : SK} {now : Int} (h : ¬ (now < 0 ∨ 1099511627776 - 320 < now)) (hh : (sFind k cs).isSome = true) : sStartE most cs k now = 7 := by unfold sStartE; rw [if_neg h, if_pos hh]
theorem sE_full {most : Int} {cs : List SC} {k : SK} {now : Int} (h : ¬ (now < 0 ∨ 1099511627776 - 320 < now)) (hh : sFind k cs = none) (hl : most ≤ cs.length) : sStartE most cs k now = 5 := by
  unfold sStartE; rw [if_neg h, if_neg (by rw [hh]; decide), if_pos hl]
theorem sE_ok {most : Int} {cs : List SC} {k : SK} {now : Int} (h : ¬ (now < 0 ∨ 1099511627776 - 320 < now)) (hh : sFind k cs = none) (hl : ¬ most ≤ cs.length) : sStartE most cs k now = 0 := by
  unfold sStartE; rw [if_neg h, if_neg (by rw [hh]; decide), if_neg hl]
theorem sfind_in {cs : List SC} (hn : (cs.map (·.key)).Nodup) {c : SC} (h : c ∈ cs) : sFind c.key cs = some c.id := by
  induction cs with
  | nil => cases h
  | cons a r ih =>
    rw [List.map_cons, List.nodup_cons] at hn
    unfold sFind
    rcases List.mem_cons.1 h with e | e
    · rw [← e, if_pos rfl]
    · rw [if_neg (fun q => hn.1 (by rw [q]; exact List.mem_map.2 ⟨c, e, rfl⟩))]
      exact ih hn.2 e
theorem sfind_not {cs : List SC} {k : SK} (h : k ∉ cs.map (·.key)) : sFind k cs = none :=
  sFind_none.2 fun c hc e => h (List.mem_map.2 ⟨c, hc, e⟩)
theorem sstart_mid {w w1 w2 w3 w4 : World} {p bn bc pw b : Nat} {most last : Int} {xs : List XS} {l : List TM} {F FW : Nat → Prop} {kn : List (SK × Value)} {kc : List (Int × Value)}
    (H : SvI w p most last xs l F bn bc pw kn kc FW) (c : SC) (hgn : mget c.key kn = none) (hgc : mget c.id kc = none)
    (f1 : Fr (fun k => k = p) w w1) (ht : Blk w1 p 127 #[.int .i64 most, .int .i64 c.id, .map (some bn), .map (some bc), .pointer (some ⟨pw, 0, none⟩)])
    (h2 : MapIs w2 bn skKey (mput c.key (.int .i64 c.id) kn)) (f2 : Fr (fun k => k = bn) w1 w2) (hb : Blk w3 b 158 (scell c)) (f3 : Fr (fun _ => False) w2 w3) (hlb : w2.heap.size ≤ b)
    (h4 : MapIs w4 bc intKey (mput c.id (ptr b) kc)) (f4 : Fr (fun k => k = bc) w3 w4) :
    SvI w4 p most c.id (xs ++ [(b, c)]) l (SF p bn bc (xs ++ [(b, c)]) FW) bn bc pw (mput c.key (.int .i64 c.id) kn) (mput c.id (ptr b) kc) FW ∧ Fr F w w4 ∧ Ext F (SF p bn bc (xs ++ [(b, c)]) FW) w := by
  have pbn : p ≠ bn := (H.nm.ne H.top).symm
  have pbc : p ≠ bc := (H.cm.ne H.top).symm
  have s1 := f1.size
  have s2 := f2.size
  have s3 := f3.size
  have s4 := f4.size
  have hbn := H.nm.lt
  have hbc := H.cm.lt
  have f14 : ∀ k, k < w.heap.size → k ≠ p → k ≠ bn → k ≠ bc → w4.heap[k]? = w.heap[k]? := fun k hk a1 a2 a3 =>
    (f4.block k (by omega) a3).trans ((f3.block k (by omega) (fun h => h)).trans ((f2.block k (by omega) a2).trans (f1.block k hk a1)))
  have F14 : Fr (fun k => k = p ∨ k = bn ∨ k = bc) w w4 := ⟨(((f4.os).trans f3.os).trans f2.os).trans f1.os, (((f4.tape).trans f3.tape).trans f2.tape).trans f1.tape, (((f4.output).trans f3.output).trans f2.output).trans f1.output, by omega, fun k hk hn => f14 k hk (fun e => hn (.inl e)) (fun e => hn (.inr (.inl e))) (fun e => hn (.inr (.inr e)))⟩
  have xp : ∀ x ∈ xs, x.1 ≠ p ∧ x.1 ≠ bn ∧ x.1 ≠ bc ∧ x.1 < w.heap.size := fun y hy => by
    obtain ⟨j, hj⟩ := List.getElem?_of_mem hy
    exact ⟨(H.its j y hj).ne_ H.top (by decide), (H.nm.ne (H.its j y hj)).symm, (H.cm.ne (H.its j y hj)).symm, (H.its j y hj).lt⟩
  refine ⟨⟨((ht.fr f2 pbn).fr f3 (fun h => h)).fr f4 pbc, (h2.fr f3 (fun h => h)).fr f4 H.dn, h4, H.wh.fr F14 (fun k hk q => ?_), fun i x hx => ?_, ?_, ?_, ?_, H.dn, H.fn, H.fc, fun k => Iff.rfl⟩, F14.mono (fun k _ q => ?_), fun k hk => ?_⟩
  · rcases q with rfl | rfl | rfl
    · exact H.fwp hk
    · exact H.fn hk
    · exact H.fc hk
  · rw [List.getElem?_append] at hx
    split at hx
    · obtain ⟨a1, a2, a3, _⟩ := xp x (List.mem_of_getElem? hx)
      exact (H.its i x hx).fr F14 (by rintro (e | e | e) <;> contradiction)
    · rw [List.getElem?_singleton] at hx
      split at hx
      · injection hx with hx
        subst hx
        exact hb.fr f4 (by omega)
      · cases hx
  · rw [List.map_append, List.nodup_append]
    refine ⟨H.nd, by simp, fun a ha d hd => ?_⟩
    obtain ⟨x, hx, rfl⟩ := List.mem_map.1 ha
    have := (xp x hx).2.2.2
    simp at hd
    subst hd
    omega
  · rw [mput_new _ (mget_none' hgn), List.map_append]
    exact H.pn.append_right _
  · rw [mput_new _ (mget_none' hgc), List.map_append]
    exact H.pc.append_right _
  · rcases q with q | q | q
    · exact (H.ff k).2 (.inl q)
    · exact (H.ff k).2 (.inr (.inl q))
    · exact (H.ff k).2 (.inr (.inr (.inl q)))
  · rcases hk with q | q | q | q | q
    · exact .inl ((H.ff k).2 (.inl q))
    · exact .inl ((H.ff k).2 (.inr (.inl q)))
    · exact .inl ((H.ff k).2 (.inr (.inr (.inl q))))
    · rw [List.map_append, List.mem_append] at q
      rcases q with q | q
      · exact .inl ((H.ff k).2 (.inr (.inr (.inr (.inl q)))))
      · simp at q; exact .inr (by omega)
    · exact .inl ((H.ff k).2 (.inr (.inr (.inr (.inr q)))))
theorem mget_new {κ : Type} [DecidableEq κ] {kc : List (κ × Value)} {k : κ} {v : Value} (h : mget k kc = none) : mget k (mput k v kc) = some v := by rw [mget_put, if_pos rfl]
set_option maxRecDepth 100000 in
set_option maxHeartbeats 2000000 in
theorem sstart_any {w : World} {p : Nat} {most last : Int} {cs : List SC} {F : Nat → Prop} (H : Sv w p most last cs F) (k1 k2 k3 : ByteArray) (now : Int) (hlast : last ≤ 1000000000) :
    Calls Try.prog 49 #[.pointer (some ⟨p, 0, none⟩), .string k1, .string k2, .string k3, .int .i64 now] w (SStartPost w p most last cs (k1, k2, k3) now F) := by
  have hal : Below w.heap.size w (w.alloc (.cells #[.string k1, .string k2, .string k3] 156)) := (Below.refl _ _).alloc (Nat.le_refl _) _
  have HAL := Lib.hid hal
  have HC := Lib.hid H
  obtain ⟨xs, l, bn, bc, pw, kn, kc, FW, rfl, H0, P⟩ := H
  have hal0 := Fr.of_below (F := fun _ => False) hal
  have H1 := H0.fr hal0 (fun _ _ h => h)
  have hm := Lib.hid (smade_any H1.top)
  have HI := Lib.hid H1
  have hkb := Blk.new w 156 #[.string k1, .string k2, .string k3]
  have HB := Lib.hid hkb
  have hmo := P.most
  have hla := P.last
  have hle := P.p.len
  have HPP := Lib.hid P
  generalize hw0 : w.alloc (.cells #[.string k1, .string k2, .string k3] 156) = w0 at *
  have HW0 := Lib.hid hw0
  have g0 := hkb.cell 0
  have g1 := hkb.cell 1
  have g2 := hkb.cell 2
  have t2 := H1.top.cell 2
  have t3 := H1.top.cell 3
  have t0 := H1.top.cell 0
  have hlk := fun n => (H1.nm.drewN n).lookup (T := 124) (E := 3) skLaw Try.underlying124 (zint (w0.drewN n)) (k1, k2, k3) false
  by_cases ha : now < 0 ∨ 1099511627776 - 320 < now
  · have HE := Lib.hid (sstart_same (last := last) HC.out HAL.out (sE_arg (most := most) (cs := xs.map (·.2)) (k := (k1, k2, k3)) ha) (by omega))
    clear hlk H0 H1 hal hal0 t0 t2 t3 P g0 g1 g2 hkb
    go_enter Try.func49, Try.ntmps49
    go_wp2_with fail
    refine (hm.out).mono ?_
    rintro e w' ⟨rfl, rfl⟩
    rcases ha with ha | ha
    all_goals
      go_wp2
      all_goals
        go_ret2
        exact HE.out
  · have hn1 : 0 ≤ now := by omega
    have hn2 : now ≤ 1099511627456 := by omega
    by_cases hh : (k1, k2, k3) ∈ (xs.map (·.2)).map (·.key)
    · obtain ⟨c, hcx, hbr⟩ := List.mem_map.1 hh
      obtain ⟨x, hx, rfl⟩ := List.mem_map.1 hcx
      obtain ⟨i, hi⟩ := List.getElem?_of_mem hx
      have hfi := sfind_in P.p.keynd hcx
      rw [hbr] at hfi
      have HE := Lib.hid (fun n => sstart_same (last := last) HC.out (below_drewN HAL.out n) (sE_twice (most := most) ha (by rw [hfi]; rfl)) (by omega))
      have hgn := H1.getn P.p.keynd hi
      rw [hbr] at hgn
      simp only [hgn] at hlk
      have hlk' : ∀ n, (Instr.lookup 124 (.map (some bn)) (.agg #[.string k1, .string k2, .string k3]) false).run Try.prog (w0.drewN n) = .ok (.int .i64 x.2.id) (w0.drewN n) := hlk
      have hid1 : 0 < x.2.id := by have := (P.p.low x.2 hcx).1; omega
      clear hlk H0 H1 hal hal0 t0 t3 P ha hh hbr hcx hx hi hfi hgn hkb
      go_enter Try.func49, Try.ntmps49
      go_wp2_with fail
      refine (hm.out).mono ?_
      rintro e w' ⟨rfl, rfl⟩
      go_wp2
      go_quiet (fail)
      go_wp2
      go_ret2
      exact HE.out _
    · have hgn := H1.non hh
      simp only [hgn] at hlk
      have hlk' : ∀ n, (Instr.lookup 124 (.map (some bn)) (.agg #[.string k1, .string k2, .string k3]) false).run Try.prog (w0.drewN n) = .ok (.int .i64 0) (w0.drewN n) := hlk
      have hlen := H1.lenc
      have hl := fun (n : Nat) => (H1.cm.drewN n).len (P := Try.prog) Try.underlying125
      have hxl : (xs.map (·.2)).length = kc.length := by rw [hlen, List.length_map]
      have HXL := Lib.hid hxl
      rw [hxl] at hle
      by_cases hf : most ≤ (kc.length : Int)
      · have HE := Lib.hid (fun n m => sstart_same (last := last) HC.out (below_drewN (below_drewN HAL.out n) m) (sE_full (most := most) ha (sfind_not hh) (by rw [hxl]; exact hf)) (by omega))
        clear hlk H0 H1 hal hal0 P ha hh hgn hlen hxl hkb
        go_enter Try.func49, Try.ntmps49
        go_wp2_with fail
        refine (hm.out).mono ?_
        rintro e w' ⟨rfl, rfl⟩
        go_wp2
        go_quiet (fail)
        go_wp2
        go_quiet (fail)
        go_wp2
        go_ret2
        exact HE.out _ _
      · have hnc : last + 1 ∉ (xs.map (·.2)).map (·.id) := fun q => by
          obtain ⟨c, hc, e⟩ := List.mem_map.1 q
          have := P.p.low c hc
          omega
        have hgc := H1.noc hnc
        have hE := sE_ok (most := most) ha (sfind_not hh) (by rw [hxl]; exact hf)
        clear hlk H0 hal hal0 ha hh hlen hxl hkb
        have hwl : IntKind.i64.wrap (last + 1) = last + 1 := IntWalk.i64_in _ (by omega)
        have k1c := H1.top.cell 1
        have kf := H1.top.frozen 1
        have HGC := Lib.hid hgc
        have HGN := Lib.hid hgn
        have HE := Lib.hid hE
        have HF := Lib.hid hf
        clear H1 P hgc hgn hE
        go_enter Try.func49, Try.ntmps49
        go_wp2_with fail
        refine (hm.out).mono ?_
        rintro e w' ⟨rfl, rfl⟩
        go_wp2
        go_quiet (fail)
        rename Nat => na
        go_wp2
        go_quiet (fail)
        go_wp2_with fail
        obtain ⟨N, hN⟩ : ∃ N, na + nq = N := ⟨_, rfl⟩
        rw [hN]
        clear hN
        obtain ⟨W1, hW1⟩ : ∃ W1, (w0.drewN N).setCell ⟨p, 1, none⟩ (.int .i64 (last + 1)) = W1 := ⟨_, rfl⟩
        rw [hW1]
        have f1 : Fr (fun k => k = p) w0 W1 := hW1 ▸ ((Fr.refl (fun k => k = p) w0).drewN N).set (p := ⟨p, 1, none⟩) (fun _ => rfl) _
        have ht : Blk W1 p 127 #[.int .i64 most, .int .i64 (last + 1), .map (some bn), .map (some bc), .pointer (some ⟨pw, 0, none⟩)] := hW1 ▸ (HI.out.top.drewN N).set_ 1 (.int .i64 (last + 1))
        have hnm1 := HI.out.nm.fr f1 (HI.out.nm.ne HI.out.top)
        have hcm1 := HI.out.cm.fr f1 (HI.out.cm.ne HI.out.top)
        have hbx1 := (HB.out).fr f1 (fun e => (HI.out.top.ne_ HB.out (by decide)) e.symm)
        obtain ⟨W2, hu2, hm2, f2⟩ := (hnm1.drewN 1).update skLaw Try.underlying124 (k1, k2, k3) (.int .i64 (last + 1))
        have hu2' : (Instr.mapUpdate 124 (.map (some bn)) (.agg #[.string k1, .string k2, .string k3]) (.int .i64 (last + 1))).run Try.prog W1.drew = .ok () W2 := hu2
        have ht2 := (ht.drewN 1).fr f2 (HI.out.nm.ne HI.out.top).symm
        have hbx2 := (hbx1.drewN 1).fr f2 (HI.out.nm.ne HB.out).symm
        have hcm2 := (hcm1.drewN 1).fr f2 HI.out.dn.symm
        have hcm3 := (hcm2.drewN 1).fr ((Fr.refl (fun _ => False) _).alloc (.cells (scell (sNew last (k1, k2, k3) now)) 158)) (fun h => h)
        obtain ⟨W4, hu4, hm4, f4⟩ := hcm3.update (intLaw Try.underlying3) Try.underlying125 (last + 1) (ptr W2.heap.size)
        have hu4' : (Instr.mapUpdate 125 (.map (some bc)) (.int .i64 (last + 1)) (.pointer (some ⟨W2.heap.size, 0, none⟩))).run Try.prog (W2.alloc (.cells #[.string k1, .string k2, .string k3, .string ⟨#[]⟩, .string ⟨#[]⟩, .bool false] 158)).drew = .ok () W4 := hu4
        have hmid := sstart_mid HI.out (sNew last (k1, k2, k3) now) HGN.out HGC.out f1 ht hm2 ⟨f2.os, f2.tape, f2.output, f2.size, f2.block⟩ (Blk.new W2.drew _ _) ((Fr.refl (fun _ => False) W2).drew.alloc _) (Nat.le_refl _) hm4 f4
        have ht4 := hmid.1.top.cell 1
        have ht5 := hmid.1.top.cell 4
        have c1 := ht.cell 1
        have c2 := ht.cell 2
        have d1 := ht2.cell 1
        have d3 := ht2.cell 3
        have b0 := hbx1.cell 0
        have b1 := hbx1.cell 1
        have b2 := hbx1.cell 2
        have hS3 : Hid (∀ W, Fr (fun k => k = bc) W2 W → W.cell? ⟨p, 3, none⟩ = some (.map (some bc)) ∧ W.cell? ⟨p, 1, none⟩ = some (.int .i64 (last + 1)) ∧ W.cell? ⟨w.heap.size, 0, none⟩ = some (.string k1) ∧ W.cell? ⟨w.heap.size, 1, none⟩ = some (.string k2) ∧ W.cell? ⟨w.heap.size, 2, none⟩ = some (.string k3)) := Lib.hid (fun W hf => by
          have q1 := ht2.fr hf (HI.out.cm.ne HI.out.top).symm
          have q2 := hbx2.fr hf (HI.out.cm.ne HB.out).symm
          exact ⟨q1.cell 3, q1.cell 1, q2.cell 0, q2.cell 1, q2.cell 2⟩)
        have hS4 : Hid (Fr (fun k => k = bc) W2 W4) := Lib.hid ((((Fr.refl (fun _ => False) W2).drew.alloc (.cells (scell (sNew last (k1, k2, k3) now)) 158)).mono fun _ _ q => q.elim).trans f4 (fun _ _ q => q))
        have HSet := Lib.hid (set_any (hmid.1.wh.fr ((Fr.refl (fun _ => False) W4).drew) (fun _ _ h => h)) (last + 1) (now + 320))
        have HMID := Lib.hid hmid
        have hws : IntKind.i64.wrap (now + 320) = now + 320 := IntWalk.i64_in _ (by omega)
        clear hW1 f1 ht hnm1 hcm1 hbx1 hu2 hm2 f2 ht2 hbx2 hcm2 hcm3 hu4 hm4 f4 hmid
        go_still_tail 9, (by kernel_rfl)
        go_wp2_with fail
        go_region_held3 (fun w' => w'.cell? ⟨p, 3, none⟩ = some (.map (some bc)) ∧ w'.cell? ⟨p, 1, none⟩ = some (.int .i64 (last + 1)) ∧ w'.cell? ⟨w.heap.size, 0, none⟩ = some (.string k1) ∧ w'.cell? ⟨w.heap.size, 1, none⟩ = some (.string k2) ∧ w'.cell? ⟨w.heap.size, 2, none⟩ = some (.string k3))
          (first | exact hS3.out _ (Fr.refl _ _) | exact hS3.out _ (Fr.refl _ _).drew | exact hS3.out _ ((Fr.refl _ _).drew.alloc _) | exact hS3.out _ ((Fr.refl _ _).alloc _).drew | exact hS3.out _ hS4.out) (first | fail)
        go_wp2_with fail
        go_still_tail 10, (by kernel_rfl)
        go_wp2_with fail
        refine (HSet.out).mono ?_
        rintro e W5 ⟨rfl, FW5, hw5, hf5, hx5⟩
        have h5 := HMID.out.1.wheel (w' := W5) hw5 ⟨hf5.os, hf5.tape, hf5.output, hf5.size, hf5.block⟩ hx5
        have htt5 := h5.1.top.cell 1
        have HP : Hid (SStartPost w p most last (xs.map (·.2)) (k1, k2, k3) now F (.returned (.tuple #[.int .i64 (last + 1), .int .i64 0])) W5) := Lib.hid (by
          have e1 : sStartI most last (xs.map (·.2)) (k1, k2, k3) now = last + 1 := by unfold sStartI; rw [if_pos HE.out]
          have e2 : sStartN most last (xs.map (·.2)) (k1, k2, k3) now = last + 1 := by unfold sStartN; rw [if_pos HE.out]
          have e3 : sStartL most last (xs.map (·.2)) (k1, k2, k3) now = xs.map (·.2) ++ [sNew last (k1, k2, k3) now] := by unfold sStartL; rw [if_pos HE.out]
          have PA := HPP.out.append HE.out
          have ss := HMID.out.2.1.size
          have s0 := HAL.out.size
          refine ⟨by rw [e1, HE.out], SF p bn bc (xs ++ [(W2.heap.size, sNew last (k1, k2, k3) now)]) FW5, ⟨xs ++ [(W2.heap.size, sNew last (k1, k2, k3) now)], rSetL l (last + 1) (now + 320), bn, bc, pw, mput (sNew last (k1, k2, k3) now).key (.int .i64 (sNew last (k1, k2, k3) now).id) kn, mput (sNew last (k1, k2, k3) now).id (ptr W2.heap.size) kc, FW5, ?_, ?_, ?_⟩, ?_, ?_⟩
          · rw [e3]; simp
          · rw [e2]; exact h5.1
          · rw [e2, e3]; exact PA.2
          · exact (Fr.of_below (F := F) HAL.out).trans (HMID.out.2.1.ext h5.2.1 HMID.out.2.2) (fun _ _ h => h)
          · intro k hk
            rcases HMID.out.2.2.trans h5.2.2 ss k hk with q | q
            · exact .inl q
            · exact .inr (by omega))
        clear hw5 hf5 hx5 h5
        go_wp2
        go_ret2
        exact HP.out
end Go.Proofs.Ytgfoobgkpnknmaa
