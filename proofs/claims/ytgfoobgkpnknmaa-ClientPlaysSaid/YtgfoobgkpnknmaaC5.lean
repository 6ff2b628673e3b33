/- The client's table as an object: Start. -/
import Derived.Test.YtgfoobgkpnknmaaC4
import Derived.Deep.RegionHeld3
namespace Go.Proofs.Ytgfoobgkpnknmaa
set_option linter.unusedSimpArgs false
set_option linter.unusedVariables false
open Go.RowKit
def CStartPost (w : World) (p : Nat) (most last : Int) (cs : List CC) (br : ByteArray) (now : Int) (to bs : ByteArray) (F : Nat → Prop) (e : Ending) (w' : World) : Prop :=
  e = .returned (.tuple #[.int .i64 (cStartI most last cs br now), .int .i64 (cStartE most cs br now)]) ∧
    ∃ F', Cl w' p most (cStartN most last cs br now) (cStartL most last cs br now to bs) F' ∧ Fr F w w' ∧ Ext F F' w
theorem start_same {w w' : World} {p : Nat} {most last : Int} {cs : List CC} {br : ByteArray} {now n : Int} {to bs : ByteArray} {F : Nat → Prop} (H : Cl w p most last cs F) (hb : Below w.heap.size w w') (h : cStartE most cs br now = n) (hn : n ≠ 0) :
    CStartPost w p most last cs br now to bs F (.returned (.tuple #[.int .i64 0, .int .i64 n])) w' := by
  have e1 : cStartI most last cs br now = 0 := by unfold cStartI; rw [if_neg (by omega)]
  have e2 : cStartN most last cs br now = last := by unfold cStartN; rw [if_neg (by omega)]
  have e3 : cStartL most last cs br now to bs = cs := by unfold cStartL; rw [if_neg (by omega)]
  refine ⟨by rw [e1, h], F, ?_, Fr.of_below hb, fun k hk => .inl hk⟩
  rw [e2, e3]
  exact H.below hb
theorem startE_arg {most : Int} {cs : List CC} {br : ByteArray} {now : Int} (h : now < 0 ∨ 1099511627136 < now) : cStartE most cs br now = 1 := by unfold cStartE; rw [if_pos h]
theorem startE_twice {most : Int} {cs : List CC} {br : ByteArray} {now : Int} (h : ¬ (now < 0 ∨ 1099511627136 < now)) (hh : cHas cs br = true) : cStartE most cs br now = 7 := by unfold cStartE; rw [if_neg h, if_pos hh]
theorem startE_full {most : Int} {cs : List CC} {br : ByteArray} {now : Int} (h : ¬ (now < 0 ∨ 1099511627136 < now)) (hh : cHas cs br = false) (hl : most ≤ cs.length) : cStartE most cs br now = 5 := by
  unfold cStartE; rw [if_neg h, if_neg (by rw [hh]; decide), if_pos hl]
theorem startE_ok {most : Int} {cs : List CC} {br : ByteArray} {now : Int} (h : ¬ (now < 0 ∨ 1099511627136 < now)) (hh : cHas cs br = false) (hl : ¬ most ≤ cs.length) : cStartE most cs br now = 0 := by
  unfold cStartE; rw [if_neg h, if_neg (by rw [hh]; decide), if_neg hl]
theorem has_iff {cs : List CC} {br : ByteArray} : cHas cs br = true ↔ br ∈ cs.map (·.br) := by
  unfold cHas
  rw [List.any_eq_true, List.mem_map]
  constructor
  · rintro ⟨c, h1, h2⟩; exact ⟨c, h1, of_decide_eq_true h2⟩
  · rintro ⟨c, h1, h2⟩; exact ⟨c, h1, decide_eq_true h2⟩
theorem start_mid {w w1 w2 w3 w4 : World} {p bn bc pw b : Nat} {most last : Int} {xs : List XC} {l : List TM} {F FW : Nat → Prop} {kn : List (ByteArray × Value)} {kc : List (Int × Value)}
    (H : ClI w p most last xs l F bn bc pw kn kc FW) (c : CC) (hgn : mget c.br kn = none) (hgc : mget c.id kc = none)
    (f1 : Fr (fun k => k = p) w w1) (ht : Blk w1 p 99 #[.int .i64 most, .int .i64 c.id, .map (some bn), .map (some bc), .pointer (some ⟨pw, 0, none⟩)])
    (h2 : MapIs w2 bn strKey (mput c.br (.int .i64 c.id) kn)) (f2 : Fr (fun k => k = bn) w1 w2) (hb : Blk w3 b 143 (ccell c)) (f3 : Fr (fun _ => False) w2 w3) (hlb : w2.heap.size ≤ b)
    (h4 : MapIs w4 bc intKey (mput c.id (ptr b) kc)) (f4 : Fr (fun k => k = bc) w3 w4) :
    ClI w4 p most c.id (xs ++ [(b, c)]) l (CF p bn bc (xs ++ [(b, c)]) FW) bn bc pw (mput c.br (.int .i64 c.id) kn) (mput c.id (ptr b) kc) FW ∧ Fr F w w4 ∧ Ext F (CF p bn bc (xs ++ [(b, c)]) FW) w := by
  have pbn : p ≠ bn := (H.nm.ne H.top).symm
  have pbc : p ≠ bc := (H.cm.ne H.top).symm
  have s1 := f1.size
  have s2 := f2.size
  have s3 := f3.size
  have s4 := f4.size
  have hbn := H.nm.lt
  have hbc := H.cm.lt
  have f14 : ∀ k, k < w.heap.size → k ≠ p → k ≠ bn → k ≠ bc → w4.heap[k]? = w.heap[k]? := fun k hk a1 a2 a3 =>
    (f4.block k (by omega) a3).trans ((f3.block k (by omega) (fun h => h)).trans ((f2.block k (by omega) a2).trans (f1.block k hk a1)))
  have F14 : Fr (fun k => k = p ∨ k = bn ∨ k = bc) w w4 := ⟨(((f4.os).trans f3.os).trans f2.os).trans f1.os, (((f4.tape).trans f3.tape).trans f2.tape).trans f1.tape, (((f4.output).trans f3.output).trans f2.output).trans f1.output, by omega, fun k hk hn => f14 k hk (fun e => hn (.inl e)) (fun e => hn (.inr (.inl e))) (fun e => hn (.inr (.inr e)))⟩
  have xp : ∀ x ∈ xs, x.1 ≠ p ∧ x.1 ≠ bn ∧ x.1 ≠ bc ∧ x.1 < w.heap.size := fun y hy => by
    obtain ⟨j, hj⟩ := List.getElem?_of_mem hy
    exact ⟨(H.its j y hj).ne_ H.top (by decide), (H.nm.ne (H.its j y hj)).symm, (H.cm.ne (H.its j y hj)).symm, (H.its j y hj).lt⟩
  refine ⟨⟨((ht.fr f2 pbn).fr f3 (fun h => h)).fr f4 pbc, (h2.fr f3 (fun h => h)).fr f4 H.dn, h4, H.wh.fr F14 (fun k hk q => ?_), fun i x hx => ?_, ?_, ?_, ?_, H.dn, H.fn, H.fc, fun k => Iff.rfl⟩, F14.mono (fun k _ q => ?_), fun k hk => ?_⟩
  · rcases q with rfl | rfl | rfl
    · exact H.fwp hk
    · exact H.fn hk
    · exact H.fc hk
  · rw [List.getElem?_append] at hx
    split at hx
    · obtain ⟨a1, a2, a3, _⟩ := xp x (List.mem_of_getElem? hx)
      exact (H.its i x hx).fr F14 (by rintro (e | e | e) <;> contradiction)
    · rw [List.getElem?_singleton] at hx
      split at hx
      · injection hx with hx
        subst hx
        exact hb.fr f4 (by omega)
      · cases hx
  · rw [List.map_append, List.nodup_append]
    refine ⟨H.nd, by simp, fun a ha d hd => ?_⟩
    obtain ⟨x, hx, rfl⟩ := List.mem_map.1 ha
    have := (xp x hx).2.2.2
    simp at hd
    subst hd
    omega
  · rw [mput_new _ (mget_none' hgn), List.map_append]
    exact H.pn.append_right _
  · rw [mput_new _ (mget_none' hgc), List.map_append]
    exact H.pc.append_right _
  · rcases q with q | q | q
    · exact (H.ff k).2 (.inl q)
    · exact (H.ff k).2 (.inr (.inl q))
    · exact (H.ff k).2 (.inr (.inr (.inl q)))
  · rcases hk with q | q | q | q | q
    · exact .inl ((H.ff k).2 (.inl q))
    · exact .inl ((H.ff k).2 (.inr (.inl q)))
    · exact .inl ((H.ff k).2 (.inr (.inr (.inl q))))
    · rw [List.map_append, List.mem_append] at q
      rcases q with q | q
      · exact .inl ((H.ff k).2 (.inr (.inr (.inr (.inl q)))))
      · simp at q; exact .inr (by omega)
    · exact .inl ((H.ff k).2 (.inr (.inr (.inr (.inr q)))))
theorem ClI.idnd_ {w : World} {p bn bc pw : Nat} {most last : Int} {xs : List XC} {l : List TM} {F FW : Nat → Prop} {kn : List (ByteArray × Value)} {kc : List (Int × Value)}
    (H : ClI w p most last xs l F bn bc pw kn kc FW) (P : ClP most last (xs.map (·.2)) l) : (kc.map (·.1)).Nodup := H.keyc P.idnd
theorem mget_new {kc : List (Int × Value)} {k : Int} {v : Value} (h : mget k kc = none) : mget k (mput k v kc) = some v := by rw [mget_put, if_pos rfl]
set_option maxRecDepth 100000 in
set_option maxHeartbeats 2000000 in
theorem cstart_any {w : World} {p : Nat} {most last : Int} {cs : List CC} {F : Nat → Prop} (H : Cl w p most last cs F) (br : ByteArray) (now : Int) (to bs : ByteArray) (hlast : last ≤ 1000000000) :
    Calls Try.prog 38 #[.pointer (some ⟨p, 0, none⟩), .string br, .int .i64 now, .agg #[.string to, .string bs]] w (CStartPost w p most last cs br now to bs F) := by
  have hal : Below w.heap.size w (w.alloc (.cells #[.string to, .string bs] 71)) := (Below.refl _ _).alloc (Nat.le_refl _) _
  have HAL := Lib.hid hal
  have HC := Lib.hid H
  obtain ⟨xs, l, bn, bc, pw, kn, kc, FW, rfl, H0, P⟩ := H
  have hal0 := Fr.of_below (F := fun _ => False) hal
  have H1 := H0.fr hal0 (fun _ _ h => h)
  have hm := Lib.hid (cmade_any H1.top)
  have HI := Lib.hid H1
  have HB := Lib.hid (Blk.new w 71 #[.string to, .string bs])
  have hmo := P.most
  have hla := P.last
  have hle := P.len
  have HPP := Lib.hid P
  generalize hw0 : w.alloc (.cells #[.string to, .string bs] 71) = w0 at *
  have HW0 := Lib.hid hw0
  have k2 := H1.top.cell 2
  have k3 := H1.top.cell 3
  have k0 := H1.top.cell 0
  have hlk := H1.nm.lookup (T := 96) (E := 3) (strLaw Try.underlying9) Try.underlying96 (zint w0) br false
  by_cases ha : now < 0 ∨ 1099511627136 < now
  · have HE := Lib.hid (start_same (to := to) (bs := bs) (last := last) HC.out HAL.out (startE_arg (most := most) (cs := xs.map (·.2)) (br := br) ha) (by omega))
    clear hlk H0 H1 hal hal0 k0 k2 k3 P
    go_enter Try.func38, Try.ntmps38
    go_wp2_with fail
    refine (hm.out).mono ?_
    rintro e w' ⟨rfl, rfl⟩
    rcases ha with ha | ha
    all_goals
      go_wp2
      all_goals
        go_ret2
        exact HE.out
  · by_cases hh : cHas (xs.map (·.2)) br = true
    · have HE := Lib.hid (start_same (to := to) (bs := bs) (last := last) HC.out HAL.out (startE_twice (most := most) ha hh) (by omega))
      obtain ⟨c, hcx, hbr⟩ := List.mem_map.1 (has_iff.1 hh)
      obtain ⟨x, hx, rfl⟩ := List.mem_map.1 hcx
      obtain ⟨i, hi⟩ := List.getElem?_of_mem hx
      rw [← hbr, H1.getn P.brs hi, hbr] at hlk
      have hlk' : (Instr.lookup 96 (.map (some bn)) (.string br) false).run Try.prog w0 = .ok (.int .i64 x.2.id) w0 := hlk
      have hid1 : 1 ≤ x.2.id := (P.each x.2 hcx).1
      have hn1 : 0 ≤ now := by omega
      have hn2 : now ≤ 1099511627136 := by omega
      clear hlk H0 H1 hal hal0 k0 k3 P ha hh hbr hcx hx hi
      go_enter Try.func38, Try.ntmps38
      go_wp2_with fail
      refine (hm.out).mono ?_
      rintro e w' ⟨rfl, rfl⟩
      go_wp2
      go_ret2
      exact HE.out
    · have hh' : cHas (xs.map (·.2)) br = false := by simpa using hh
      have hnb : br ∉ (xs.map (·.2)).map (·.br) := fun q => hh (has_iff.2 q)
      have hgn := H1.non hnb
      rw [hgn] at hlk
      have hlk' : (Instr.lookup 96 (.map (some bn)) (.string br) false).run Try.prog w0 = .ok (.int .i64 0) w0 := hlk
      have hn1 : 0 ≤ now := by omega
      have hn2 : now ≤ 1099511627136 := by omega
      have hlen := H1.lenc
      have hl := fun (n : Nat) => (H1.cm.drewN n).len (P := Try.prog) Try.underlying97
      have hxl : (xs.map (·.2)).length = kc.length := by rw [hlen, List.length_map]
      have HXL := Lib.hid hxl
      rw [hxl] at hle
      by_cases hf : most ≤ (kc.length : Int)
      · have HE := Lib.hid (fun n => start_same (to := to) (bs := bs) (last := last) HC.out (below_drewN HAL.out n) (startE_full (most := most) ha hh' (by rw [hxl]; exact hf)) (by omega))
        clear hlk H0 H1 hal hal0 P ha hh hnb hh' hgn hlen hxl
        go_enter Try.func38, Try.ntmps38
        go_wp2_with fail
        refine (hm.out).mono ?_
        rintro e w' ⟨rfl, rfl⟩
        go_wp2
        go_quiet (fail)
        go_wp2
        go_ret2
        exact HE.out _
      · have hnc : last + 1 ∉ (xs.map (·.2)).map (·.id) := fun q => by
          obtain ⟨c, hc, e⟩ := List.mem_map.1 q
          have := P.each c hc
          omega
        have hgc := H1.noc hnc
        have hE := startE_ok (most := most) ha hh' (by rw [hxl]; exact hf)
        clear hlk H0 hal hal0 ha hh hh' hlen hxl
        have hwl : IntKind.i64.wrap (last + 1) = last + 1 := IntWalk.i64_in _ (by omega)
        have k1 := H1.top.cell 1
        have kf := H1.top.frozen 1
        have HGC := Lib.hid hgc
        have HGN := Lib.hid hgn
        have HE := Lib.hid hE
        have HNB := Lib.hid hnb
        have HF := Lib.hid hf
        have HID := Lib.hid (H1.idnd_ P)
        clear H1 P hgc hgn hE hnb
        go_enter Try.func38, Try.ntmps38
        go_wp2_with fail
        refine (hm.out).mono ?_
        rintro e w' ⟨rfl, rfl⟩
        go_wp2
        go_quiet (fail)
        go_wp2_with fail
        obtain ⟨W1, hW1⟩ : ∃ W1, (w0.drewN nq).setCell ⟨p, 1, none⟩ (.int .i64 (last + 1)) = W1 := ⟨_, rfl⟩
        rw [hW1]
        have f1 : Fr (fun k => k = p) w0 W1 := hW1 ▸ ((Fr.refl (fun k => k = p) w0).drewN nq).set (p := ⟨p, 1, none⟩) (fun _ => rfl) _
        have ht : Blk W1 p 99 #[.int .i64 most, .int .i64 (last + 1), .map (some bn), .map (some bc), .pointer (some ⟨pw, 0, none⟩)] := hW1 ▸ (HI.out.top.drewN nq).set_ 1 (.int .i64 (last + 1))
        have hnm1 := HI.out.nm.fr f1 (HI.out.nm.ne HI.out.top)
        have hcm1 := HI.out.cm.fr f1 (HI.out.cm.ne HI.out.top)
        have hbx1 := (HB.out).fr f1 (fun e => (HI.out.top.ne_ HB.out (by decide)) e.symm)
        obtain ⟨W2, hu2, hm2, f2⟩ := (hnm1.drewN 1).update (strLaw Try.underlying9) Try.underlying96 br (.int .i64 (last + 1))
        have hu2' : (Instr.mapUpdate 96 (.map (some bn)) (.string br) (.int .i64 (last + 1))).run Try.prog W1.drew = .ok () W2 := hu2
        have ht2 := (ht.drewN 1).fr f2 (HI.out.nm.ne HI.out.top).symm
        have hbx2 := (hbx1.drewN 1).fr f2 (HI.out.nm.ne HB.out).symm
        have hcm2 := (hcm1.drewN 1).fr f2 HI.out.dn.symm
        have hcm3 := (hcm2.drewN 1).fr ((Fr.refl (fun _ => False) _).alloc (.cells (ccell (cNew last br now to bs)) 143)) (fun h => h)
        obtain ⟨W4, hu4, hm4, f4⟩ := hcm3.update (intLaw Try.underlying3) Try.underlying97 (last + 1) (ptr W2.heap.size)
        have hu4' : (Instr.mapUpdate 97 (.map (some bc)) (.int .i64 (last + 1)) (.pointer (some ⟨W2.heap.size, 0, none⟩))).run Try.prog (W2.alloc (.cells #[.string br, .int .i64 now, .int .i64 1, .string to, .string bs, .bool false] 143)).drew = .ok () W4 := hu4
        have hmid := start_mid HI.out (cNew last br now to bs) HGN.out HGC.out f1 ht hm2 ⟨f2.os, f2.tape, f2.output, f2.size, f2.block⟩ (Blk.new W2.drew _ _) ((Fr.refl (fun _ => False) W2).drew.alloc _) (Nat.le_refl _) hm4 f4
        have ht4 := hmid.1.top.cell 1
        have c1 := ht.cell 1
        have c2 := ht.cell 2
        have d1 := ht2.cell 1
        have d3 := ht2.cell 3
        have e0 := hbx2.cell 0
        have e1 := hbx2.cell 1
        have hS3 : Hid (∀ W, Fr (fun k => k = bc) W2 W → W.cell? ⟨p, 3, none⟩ = some (.map (some bc)) ∧ W.cell? ⟨p, 1, none⟩ = some (.int .i64 (last + 1)) ∧ W.cell? ⟨w.heap.size, 0, none⟩ = some (.string to) ∧ W.cell? ⟨w.heap.size, 1, none⟩ = some (.string bs)) := Lib.hid (fun W hf => by
          have q1 := ht2.fr hf (HI.out.cm.ne HI.out.top).symm
          have q2 := hbx2.fr hf (HI.out.cm.ne HB.out).symm
          exact ⟨q1.cell 3, q1.cell 1, q2.cell 0, q2.cell 1⟩)
        have hS4 : Hid (Fr (fun k => k = bc) W2 W4) := Lib.hid ((((Fr.refl (fun _ => False) W2).drew.alloc (.cells (ccell (cNew last br now to bs)) 143)).mono fun _ _ q => q.elim).trans f4 (fun _ _ q => q))
        have hci : (xs ++ [(W2.heap.size, cNew last br now to bs)])[xs.length]? = some (W2.heap.size, cNew last br now to bs) := by simp
        have harm := Lib.hid (arm_any hmid.1 hci (mget_new HGC.out) (by unfold cNew; simp) (by unfold cNew; simp; omega))
        have HMID := Lib.hid hmid
        clear hW1 f1 ht hnm1 hcm1 hbx1 hu2 hm2 f2 ht2 hbx2 hcm2 hcm3 hu4 hm4 f4 hmid hci
        go_still_tail 9, (by kernel_rfl)
        go_wp2_with fail
        go_region_held3 (fun w' => w'.cell? ⟨p, 3, none⟩ = some (.map (some bc)) ∧ w'.cell? ⟨p, 1, none⟩ = some (.int .i64 (last + 1)) ∧ w'.cell? ⟨w.heap.size, 0, none⟩ = some (.string to) ∧ w'.cell? ⟨w.heap.size, 1, none⟩ = some (.string bs))
          (first | exact hS3.out _ (Fr.refl _ _) | exact hS3.out _ (Fr.refl _ _).drew | exact hS3.out _ ((Fr.refl _ _).drew.alloc _) | exact hS3.out _ ((Fr.refl _ _).alloc _).drew | exact hS3.out _ hS4.out) (first | fail)
        go_wp2_with fail
        refine (harm.out).mono ?_
        rintro e W5 ⟨rfl, F5, FW5, H5, f5, x5⟩
        have ht5 := H5.top.cell 1
        have HP : Hid (CStartPost w p most last (xs.map (·.2)) br now to bs F (.returned (.tuple #[.int .i64 (last + 1), .int .i64 0])) W5) := Lib.hid (by
          have e1 : cStartI most last (xs.map (·.2)) br now = last + 1 := by unfold cStartI; rw [if_pos HE.out]
          have e2 : cStartN most last (xs.map (·.2)) br now = last + 1 := by unfold cStartN; rw [if_pos HE.out]
          have e3 : cStartL most last (xs.map (·.2)) br now to bs = xs.map (·.2) ++ [cNew last br now to bs] := by unfold cStartL; rw [if_pos HE.out]
          have hxl := HXL.out
          have PA := HPP.out.append (c := cNew last br now to bs) rfl HNB.out (by unfold cNew; simp; omega) rfl rfl (by rw [hxl]; omega)
          have hat : cAt (cNew last br now to bs) = (cNew last br now to bs).bg + cNx (cNew last br now to bs).tm := by unfold cAt; rw [if_neg (by unfold cNew; simp)]
          have ss := HMID.out.2.1.size
          have s0 := HAL.out.size
          refine ⟨by rw [e1, HE.out], F5, ⟨xs ++ [(W2.heap.size, cNew last br now to bs)], rSetL l (cNew last br now to bs).id (cAt (cNew last br now to bs)), bn, bc, pw, mput (cNew last br now to bs).br (.int .i64 (cNew last br now to bs).id) kn, mput (cNew last br now to bs).id (ptr W2.heap.size) kc, FW5, ?_, ?_, ?_⟩, ?_, ?_⟩
          · rw [e3]; simp
          · rw [e2, hat]; exact H5
          · rw [e2, e3]; exact PA.2
          · exact (Fr.of_below (F := F) HAL.out).trans (HMID.out.2.1.ext f5 HMID.out.2.2) (fun _ _ h => h)
          · intro k hk
            rcases HMID.out.2.2.trans x5 ss k hk with q | q
            · exact .inl q
            · exact .inr (by omega))
        clear H5 f5 x5
        go_wp2
        go_ret2
        exact HP.out
end Go.Proofs.Ytgfoobgkpnknmaa
