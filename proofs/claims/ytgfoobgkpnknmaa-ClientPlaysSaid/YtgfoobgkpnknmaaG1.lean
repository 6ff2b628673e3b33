/- The laws of the client: does. -/
import Derived.Test.YtgfoobgkpnknmaaE2
import Derived.Test.YtgfoobgkpnknmaaD5
namespace Go.Proofs.Ytgfoobgkpnknmaa
set_option linter.unusedSimpArgs false
set_option linter.unusedVariables false
open Go.RowKit
theorem Cl.ok {w : World} {p : Nat} {most last : Int} {cs : List CC} {F : Nat → Prop} (H : Cl w p most last cs F) : (∀ c ∈ cs, CcOk c) ∧ cs.length ≤ 200 ∧ 0 ≤ last := by
  obtain ⟨xs, l, bn, bc, pw, kn, kc, FW, e, H, P⟩ := H
  refine ⟨fun c hc => ?_, by have := P.len; have := P.most; omega, P.last⟩
  have := P.each c hc
  exact ⟨this.2.2.1, by omega, by omega, by omega⟩
/-- the program's table and the reference's -/
structure Both (w : World) (p rb : Nat) (most last : Int) (cs : List CC) (F : Nat → Prop) (A : Option Addr) (c : Nat) (wr : World) : Prop where
  own : Own w p most last cs F wr
  tb : Blk wr rb 90 #[.int .i64 most, .int .i64 last, .slice A cs.length c]
  rd : Rd wr 153 7 cs.length A (rows rcell cs)
  le : cs.length ≤ c
  cm : c ≤ maxLen
  gb : w.heap.size ≤ rb
def DoesPost (w : World) (p rb : Nat) (most last : Int) (e : Ending) (w' : World) : Prop :=
  e = .returned (.bool true) ∧ ∃ last' cs' F' A' c', Both w p rb most last' cs' F' A' c' w' ∧ last' ≤ last + 1
section
variable {w wr w1 : World} {p rb : Nat} {most last : Int} {cs : List CC} {F G : Nat → Prop} {A : Option Addr} {c : Nat}
theorem Both.below (H : Both w p rb most last cs F A c wr) (hb : Below wr.heap.size wr w1) : Both w p rb most last cs F A c w1 :=
  ⟨H.own.below hb, H.tb.fr (Fr.of_below (F := fun _ => False) hb) (fun h => h), H.rd.below hb, H.le, H.cm, H.gb⟩
/-- the program's table goes on to another list; the reference's table is written anew -/
theorem Both.next {last2 : Int} {cs2 : List CC} {F2 : Nat → Prop} {A2 : Option Addr} {c2 n2 : Nat} (H : Own w p most last2 cs2 F2 wr) (tb : ∃ ds : Array Value, Blk wr rb 90 ds ∧ ds.size = 3) (rd : Rd wr 153 7 cs2.length A2 (rows rcell cs2)) (le : cs2.length ≤ c2) (cm : c2 ≤ maxLen) (gb : w.heap.size ≤ rb) (hn : n2 = cs2.length) :
    Both w p rb most last2 cs2 F2 A2 c2 (((wr.setCell ⟨rb, 0, none⟩ (.int .i64 most)).setCell ⟨rb, 1, none⟩ (.int .i64 last2)).setCell ⟨rb, 2, none⟩ (.slice A2 n2 c2)) := by
  subst hn
  obtain ⟨ds, hb, hs⟩ := tb
  obtain ⟨ds⟩ := ds
  match ds, hs with
  | [x, y, z], _ =>
    have fs : Fr (fun k => k = rb) wr (((wr.setCell ⟨rb, 0, none⟩ (.int .i64 most)).setCell ⟨rb, 1, none⟩ (.int .i64 last2)).setCell ⟨rb, 2, none⟩ (.slice A2 cs2.length c2)) :=
      (((Fr.refl (fun k => k = rb) wr).set (p := ⟨rb, 0, none⟩) (fun _ => rfl) _).set (p := ⟨rb, 1, none⟩) (fun _ => rfl) _).set (p := ⟨rb, 2, none⟩) (fun _ => rfl) _
    have hnr := H.cl.notT hb (by decide) (by decide) (by decide) (by decide) (by decide)
    refine ⟨⟨H.cl.fr fs (fun k hk e => hnr (e ▸ hk)), H.be.trans (fs.to_below H.be.size (fun k e => by omega)), H.ge⟩, ((hb.set_ 0 _).set_ 1 _).set_ 2 _, rd.fr fs (fun g ds fr hg e => ?_), le, cm, gb⟩
    subst e
    unfold Blk at hb
    rw [hb] at hg; injection hg with hg; injection hg with _ q; exact absurd q (by decide)
end
theorem step_out_le2 {cs : List CC} {now : Int} : (cStep cs now).2.length ≤ 1000000 := by
  have : ∀ (n : Nat) (cs : List CC) (o : List DD), (cRun n cs now o).2.length ≤ o.length + n := by
    intro n
    induction n with
    | zero => intro cs o; exact Nat.le_refl _
    | succ n ih =>
      intro cs o
      cases hT : cTop cs with
      | none => rw [run_none hT]; simp
      | some kc =>
        obtain ⟨k, c⟩ := kc
        by_cases hn : now < cAt c
        · rw [run_stop hT hn]; simp
        · rw [run_go hT hn]
          have h1 := ih (cAfter cs k c) (o ++ cDue c)
          have h2 : (cDue c).length ≤ 1 := by unfold cDue; split <;> (try split) <;> simp
          simp at h1
          omega
  have := this 100000 cs []
  simp at this
  exact Nat.le_trans this (by omega)
theorem startN_le (most last : Int) (cs : List CC) (br : ByteArray) (now : Int) : cStartN most last cs br now ≤ last + 1 := by unfold cStartN; split <;> omega
set_option maxRecDepth 100000 in
set_option maxHeartbeats 8000000 in
theorem does_any {w wr : World} {p rb : Nat} {most last : Int} {cs : List CC} {F : Nat → Prop} {A : Option Addr} {c : Nat} (H : Both w p rb most last cs F A c wr) (hlast : last ≤ 1000000) (kd : Int) (br : ByteArray) (st now : Int) (tx : ByteArray) :
    Calls Try.prog 43 #[.pointer (some ⟨p, 0, none⟩), .pointer (some ⟨rb, 0, none⟩), .agg #[.int .i64 kd, .string br, .int .i64 st, .int .i64 now, .string tx]] wr (DoesPost w p rb most last) := by
  obtain ⟨W, hW⟩ : ∃ W, wr.alloc (.cells #[.int .i64 kd, .string br, .int .i64 st, .int .i64 now, .string tx] 93) = W := ⟨_, rfl⟩
  have HA := Lib.hid (hW ▸ Blk.new wr 93 #[.int .i64 kd, .string br, .int .i64 st, .int .i64 now, .string tx])
  have HB := Lib.hid (hW ▸ H.below ((Below.refl _ _).alloc (Nat.le_refl _) (.cells #[.int .i64 kd, .string br, .int .i64 st, .int .i64 now, .string tx] 93)))
  obtain ⟨hok, hlen, hla0⟩ := H.own.cl.ok
  have HOK := Lib.hid hok
  have a0 := HA.out.cell 0
  have a1 := HA.out.cell 1
  have a2 := HA.out.cell 2
  have a3 := HA.out.cell 3
  have a4 := HA.out.cell 4
  have t0 := HB.out.tb.cell 0
  have t1 := HB.out.tb.cell 1
  have t2 := HB.out.tb.cell 2
  clear H hok
  by_cases hk0 : kd = 0
  · subst hk0
    go_enter Try.func43, Try.ntmps43
    go_wp2_with fail
    obtain ⟨W2, hW2⟩ : ∃ W2, W.alloc (.cells #[.string br, .string tx] 71) = W2 := ⟨_, rfl⟩
    have HB2 := Lib.hid (hW2 ▸ HB.out.below ((Below.refl _ _).alloc (Nat.le_refl _) (.cells #[.string br, .string tx] 71)))
    have HA2 := Lib.hid (hW2 ▸ HA.out.alloc (.cells #[.string br, .string tx] 71))
    have HS2 := Lib.hid (hW2 ▸ Blk.new W 71 #[.string br, .string tx])
    rw [hW2]
    clear hW hW2
    have HSS : Hid (∀ W', Below W2.heap.size W2 W' → W'.cell? ⟨rb, 0, none⟩ = some (.int .i64 most) ∧ W'.cell? ⟨rb, 1, none⟩ = some (.int .i64 last) ∧ W'.cell? ⟨rb, 2, none⟩ = some (.slice A cs.length c) ∧ W'.cell? ⟨wr.heap.size, 1, none⟩ = some (.string br) ∧ W'.cell? ⟨wr.heap.size, 3, none⟩ = some (.int .i64 now) ∧ W'.cell? ⟨W.heap.size, 0, none⟩ = some (.string br) ∧ W'.cell? ⟨W.heap.size, 1, none⟩ = some (.string tx)) := Lib.hid (fun W' hb => by
      have f := Fr.of_below (F := fun _ => False) hb
      have q1 := HB2.out.tb.fr f (fun h => h)
      have q2 := HA2.out.fr f (fun h => h)
      have q3 := HS2.out.fr f (fun h => h)
      exact ⟨q1.cell 0, q1.cell 1, q1.cell 2, q2.cell 1, q2.cell 3, q3.cell 0, q3.cell 1⟩)
    have HR1 := Lib.hid (HB2.out.rd.drewN 1)
    have HR2 := Lib.hid ((HB2.out.rd.alloc (.cells #[.int .i64 0, .int .i64 0, .slice none 0 0] 90)).drewN 1)
    have HL := Lib.hid HB2.out.le
    have HC := Lib.hid HB2.out.cm
    have hla : 0 ≤ last ∧ last ≤ 1000000000 := by omega
    have HLA := Lib.hid hla
    clear a0 a1 a2 a3 a4 t0 t1 t2 hla
    go_region_held3 (fun w' => w'.cell? ⟨rb, 0, none⟩ = some (.int .i64 most) ∧ w'.cell? ⟨rb, 1, none⟩ = some (.int .i64 last) ∧ w'.cell? ⟨rb, 2, none⟩ = some (.slice A cs.length c) ∧ w'.cell? ⟨wr.heap.size, 1, none⟩ = some (.string br) ∧ w'.cell? ⟨wr.heap.size, 3, none⟩ = some (.int .i64 now) ∧ w'.cell? ⟨W.heap.size, 0, none⟩ = some (.string br) ∧ w'.cell? ⟨W.heap.size, 1, none⟩ = some (.string tx))
      ((refine HSS.out _ ?_; (repeat (first | exact Below.refl _ _ | exact hb6 | refine Below.drew ?_ | refine Below.setCell ?_ (by first | omega | (simp; done) | (simp; omega)) _ | refine Below.alloc ?_ (by first | omega | (simp; done) | (simp; omega)) _))))
      (first | (go_at_call 65; (refine (rstart_any (w := W2.drew) HR1.out (by omega) HL.out HC.out most last HLA.out br now br tx).mono ?_); rintro e w5 ⟨v5, rfl, ⟨A5, c5, rfl, l5, m5, hr5⟩, hb5⟩; have hb6 : Below W2.heap.size W2 w5 := (Below.refl _ _).drew.trans hb5; have hs6 := hb6.size) | (go_at_call 65; (refine (rstart_any (w := (W2.alloc (.cells #[.int .i64 0, .int .i64 0, .slice none 0 0] 90)).drew) HR2.out (by omega) HL.out HC.out most last HLA.out br now br tx).mono ?_); rintro e w5 ⟨v5, rfl, ⟨A5, c5, rfl, l5, m5, hr5⟩, hb5⟩; have hb6 : Below W2.heap.size W2 w5 := ((Below.refl _ _).alloc (Nat.le_refl _) _).drew.trans (hb5.mono (sz1 _ _)); have hs6 := hb6.size; have hz6 := ((Blk.new W2 90 #[.int .i64 0, .int .i64 0, .slice none 0 0]).drewN 1).fr (Fr.of_below (F := fun _ => False) hb5) (fun h => h); have z0 := hz6.cell 0; have z1 := hz6.cell 1; have z2 := hz6.cell 2; have z3 := hz6.frozen 0; have z4 := hz6.frozen 1; have z5 := hz6.frozen 2))
    all_goals
      go_wp2_with fail

      first
      | (show Calls _ _ _ (World.alloc w5 _) _
         have HZB := Lib.hid (hb6.alloc hs6 (.cells #[.int .i64 most, .int .i64 (cStartN most last cs br now), .slice A5 (cStartL most last cs br now br tx).length c5] 90))
         have HZT := Lib.hid (Blk.new w5 90 #[.int .i64 most, .int .i64 (cStartN most last cs br now), .slice A5 (cStartL most last cs br now br tx).length c5])
         have HZR := Lib.hid (hr5.alloc (.cells #[.int .i64 most, .int .i64 (cStartN most last cs br now), .slice A5 (cStartL most last cs br now br tx).length c5] 90))
         skip
         generalize w5.alloc (.cells #[.int .i64 most, .int .i64 (cStartN most last cs br now), .slice A5 (cStartL most last cs br now br tx).length c5] 90) = wz at *)
      | (have HZB : Hid (Below W2.heap.size W2 (((w5.setCell ⟨W2.heap.size, 0, none⟩ (.int .i64 most)).setCell ⟨W2.heap.size, 1, none⟩ (.int .i64 (cStartN most last cs br now))).setCell ⟨W2.heap.size, 2, none⟩ (.slice A5 (cStartL most last cs br now br tx).length c5))) := Lib.hid (((hb6.setCell (Nat.le_refl _) _).setCell (Nat.le_refl _) _).setCell (Nat.le_refl _) _)
         have HZT : Hid (Blk (((w5.setCell ⟨W2.heap.size, 0, none⟩ (.int .i64 most)).setCell ⟨W2.heap.size, 1, none⟩ (.int .i64 (cStartN most last cs br now))).setCell ⟨W2.heap.size, 2, none⟩ (.slice A5 (cStartL most last cs br now br tx).length c5)) W2.heap.size 90 #[.int .i64 most, .int .i64 (cStartN most last cs br now), .slice A5 (cStartL most last cs br now br tx).length c5]) := Lib.hid (((hz6.set_ 0 _).set_ 1 _).set_ 2 _)
         have hfz : Fr (fun k => k = W2.heap.size) w5 (((w5.setCell ⟨W2.heap.size, 0, none⟩ (.int .i64 most)).setCell ⟨W2.heap.size, 1, none⟩ (.int .i64 (cStartN most last cs br now))).setCell ⟨W2.heap.size, 2, none⟩ (.slice A5 (cStartL most last cs br now br tx).length c5)) := (((Fr.refl (fun k => k = W2.heap.size) w5).set (p := ⟨W2.heap.size, 0, none⟩) (fun _ => rfl) _).set (p := ⟨W2.heap.size, 1, none⟩) (fun _ => rfl) _).set (p := ⟨W2.heap.size, 2, none⟩) (fun _ => rfl) _
         have hnz : ∀ (T : TypeId) gb ds fr, T ≠ 90 → w5.heap[gb]? = some (.cells ds T fr) → ¬ gb = W2.heap.size := fun T gb ds fr hT hb e => by
           subst e
           unfold Blk at hz6
           rw [hb] at hz6; injection hz6 with hz6; injection hz6 with _ q; exact hT q
         have HZR := Lib.hid (hr5.fr hfz (fun gb ds fr hb => hnz _ gb ds fr (by decide) hb))
         skip
         clear z0 z1 z2 z3 z4 z5 hz6 hfz hnz
         generalize ((w5.setCell ⟨W2.heap.size, 0, none⟩ (.int .i64 most)).setCell ⟨W2.heap.size, 1, none⟩ (.int .i64 (cStartN most last cs br now))).setCell ⟨W2.heap.size, 2, none⟩ (.slice A5 (cStartL most last cs br now br tx).length c5) = wz at *)
      have HBz := Lib.hid (HB2.out.below HZB.out)

      refine (cstart_any HBz.out.own.cl br now br tx (by have := HLA.out; omega)).mono ?_
      rintro e w7 ⟨rfl, F7, hC, hf, hx⟩
      have HO7 := Lib.hid (HBz.out.own.next hC hf hx)
      have HT7 := HBz.out.own.blk hf HZT.out (by decide) (by decide) (by decide) (by decide) (by decide)
      have HB7 := HBz.out.own.blk hf HBz.out.tb (by decide) (by decide) (by decide) (by decide) (by decide)
      have HR7 := Lib.hid (HBz.out.own.rd hf HZR.out (by decide) (by decide) (by decide) (by decide) (by decide))
      have k0 := HT7.cell 0
      have k1 := HT7.cell 1
      have k2 := HT7.cell 2
      have j0 := HB7.cell 0
      have j1 := HB7.cell 1
      have j2 := HB7.cell 2
      have j3 := HB7.frozen 0
      have j4 := HB7.frozen 1
      have j5 := HB7.frozen 2
      have HFIN := Lib.hid (Both.next (rb := rb) HO7.out ⟨_, HB7, rfl⟩ HR7.out l5 m5 HBz.out.gb rfl)
      have HLE : Hid (cStartN most last cs br now ≤ last + 1) := Lib.hid (startN_le most last cs br now)
      clear hC hf hx HT7 HB7
      go_wp2
      go_ret
      exact ⟨rfl, _, _, F7, A5, c5, HFIN.out, HLE.out⟩
  · by_cases hk1 : kd = 1
    · subst hk1
      go_enter Try.func43, Try.ntmps43
      go_wp2_with fail
      obtain ⟨W2, hW2⟩ : ∃ W2, W2 = W := ⟨_, rfl⟩
      clear hW
      subst hW2
      have HB2 := HB
      have HA2 := HA
      have HSS : Hid (∀ W', Below W2.heap.size W2 W' → W'.cell? ⟨rb, 0, none⟩ = some (.int .i64 most) ∧ W'.cell? ⟨rb, 1, none⟩ = some (.int .i64 last) ∧ W'.cell? ⟨rb, 2, none⟩ = some (.slice A cs.length c) ∧ W'.cell? ⟨wr.heap.size, 1, none⟩ = some (.string br) ∧ W'.cell? ⟨wr.heap.size, 2, none⟩ = some (.int .i64 st) ∧ W'.cell? ⟨wr.heap.size, 3, none⟩ = some (.int .i64 now)) := Lib.hid (fun W' hb => by
        have f := Fr.of_below (F := fun _ => False) hb
        have q1 := HB2.out.tb.fr f (fun h => h)
        have q2 := HA2.out.fr f (fun h => h)
        skip
        exact ⟨q1.cell 0, q1.cell 1, q1.cell 2, q2.cell 1, q2.cell 2, q2.cell 3⟩)
      have HR1 := Lib.hid (HB2.out.rd.drewN 1)
      have HR2 := Lib.hid ((HB2.out.rd.alloc (.cells #[.int .i64 0, .int .i64 0, .slice none 0 0] 90)).drewN 1)
      have HL := Lib.hid HB2.out.le
      have HC := Lib.hid HB2.out.cm
      have hla : 0 ≤ last ∧ last ≤ 1000000000 := by omega
      have HLA := Lib.hid hla
      clear a0 a1 a2 a3 a4 t0 t1 t2 hla
      go_region_held3 (fun w' => w'.cell? ⟨rb, 0, none⟩ = some (.int .i64 most) ∧ w'.cell? ⟨rb, 1, none⟩ = some (.int .i64 last) ∧ w'.cell? ⟨rb, 2, none⟩ = some (.slice A cs.length c) ∧ w'.cell? ⟨wr.heap.size, 1, none⟩ = some (.string br) ∧ w'.cell? ⟨wr.heap.size, 2, none⟩ = some (.int .i64 st) ∧ w'.cell? ⟨wr.heap.size, 3, none⟩ = some (.int .i64 now))
        ((refine HSS.out _ ?_; (repeat (first | exact Below.refl _ _ | exact hb6 | refine Below.drew ?_ | refine Below.setCell ?_ (by first | omega | (simp; done) | (simp; omega)) _ | refine Below.alloc ?_ (by first | omega | (simp; done) | (simp; omega)) _))))
        (first | (go_at_call 66; (refine (rresp_any (w := W2.drew) HR1.out (by omega) HL.out HC.out most last br st now).mono ?_); rintro e w5 ⟨v5, rfl, ⟨A5, c5, rfl, l5, m5, hr5⟩, hb5⟩; have hb6 : Below W2.heap.size W2 w5 := (Below.refl _ _).drew.trans hb5; have hs6 := hb6.size) | (go_at_call 66; (refine (rresp_any (w := (W2.alloc (.cells #[.int .i64 0, .int .i64 0, .slice none 0 0] 90)).drew) HR2.out (by omega) HL.out HC.out most last br st now).mono ?_); rintro e w5 ⟨v5, rfl, ⟨A5, c5, rfl, l5, m5, hr5⟩, hb5⟩; have hb6 : Below W2.heap.size W2 w5 := ((Below.refl _ _).alloc (Nat.le_refl _) _).drew.trans (hb5.mono (sz1 _ _)); have hs6 := hb6.size; have hz6 := ((Blk.new W2 90 #[.int .i64 0, .int .i64 0, .slice none 0 0]).drewN 1).fr (Fr.of_below (F := fun _ => False) hb5) (fun h => h); have z0 := hz6.cell 0; have z1 := hz6.cell 1; have z2 := hz6.cell 2; have z3 := hz6.frozen 0; have z4 := hz6.frozen 1; have z5 := hz6.frozen 2))
      have HAW := Lib.hid (fun W' (hb : Below W2.heap.size W2 W') => HA2.out.fr (Fr.of_below (F := fun _ => False) hb) (fun h => h))
      all_goals
        go_wp2_with fail

        first
        | (show Calls _ _ _ (World.alloc w5 _) _
           have HZB := Lib.hid (hb6.alloc hs6 (.cells #[.int .i64 most, .int .i64 (last), .slice A5 (cRespL cs br st now).length c5] 90))
           have HZT := Lib.hid (Blk.new w5 90 #[.int .i64 most, .int .i64 (last), .slice A5 (cRespL cs br st now).length c5])
           have HZR := Lib.hid (hr5.alloc (.cells #[.int .i64 most, .int .i64 (last), .slice A5 (cRespL cs br st now).length c5] 90))
           skip
           generalize w5.alloc (.cells #[.int .i64 most, .int .i64 (last), .slice A5 (cRespL cs br st now).length c5] 90) = wz at *)
        | (have HZB : Hid (Below W2.heap.size W2 (((w5.setCell ⟨W2.heap.size, 0, none⟩ (.int .i64 most)).setCell ⟨W2.heap.size, 1, none⟩ (.int .i64 (last))).setCell ⟨W2.heap.size, 2, none⟩ (.slice A5 (cRespL cs br st now).length c5))) := Lib.hid (((hb6.setCell (Nat.le_refl _) _).setCell (Nat.le_refl _) _).setCell (Nat.le_refl _) _)
           have HZT : Hid (Blk (((w5.setCell ⟨W2.heap.size, 0, none⟩ (.int .i64 most)).setCell ⟨W2.heap.size, 1, none⟩ (.int .i64 (last))).setCell ⟨W2.heap.size, 2, none⟩ (.slice A5 (cRespL cs br st now).length c5)) W2.heap.size 90 #[.int .i64 most, .int .i64 (last), .slice A5 (cRespL cs br st now).length c5]) := Lib.hid (((hz6.set_ 0 _).set_ 1 _).set_ 2 _)
           have hfz : Fr (fun k => k = W2.heap.size) w5 (((w5.setCell ⟨W2.heap.size, 0, none⟩ (.int .i64 most)).setCell ⟨W2.heap.size, 1, none⟩ (.int .i64 (last))).setCell ⟨W2.heap.size, 2, none⟩ (.slice A5 (cRespL cs br st now).length c5)) := (((Fr.refl (fun k => k = W2.heap.size) w5).set (p := ⟨W2.heap.size, 0, none⟩) (fun _ => rfl) _).set (p := ⟨W2.heap.size, 1, none⟩) (fun _ => rfl) _).set (p := ⟨W2.heap.size, 2, none⟩) (fun _ => rfl) _
           have hnz : ∀ (T : TypeId) gb ds fr, T ≠ 90 → w5.heap[gb]? = some (.cells ds T fr) → ¬ gb = W2.heap.size := fun T gb ds fr hT hb e => by
             subst e
             unfold Blk at hz6
             rw [hb] at hz6; injection hz6 with hz6; injection hz6 with _ q; exact hT q
           have HZR := Lib.hid (hr5.fr hfz (fun gb ds fr hb => hnz _ gb ds fr (by decide) hb))
           skip
           clear z0 z1 z2 z3 z4 z5 hz6 hfz hnz
           generalize ((w5.setCell ⟨W2.heap.size, 0, none⟩ (.int .i64 most)).setCell ⟨W2.heap.size, 1, none⟩ (.int .i64 (last))).setCell ⟨W2.heap.size, 2, none⟩ (.slice A5 (cRespL cs br st now).length c5) = wz at *)
        have HBz := Lib.hid (HB2.out.below HZB.out)

        refine (cresp_any HBz.out.own.cl br st now).mono ?_
        rintro e w7 ⟨rfl, F7, hC, hf, hx⟩
        have HO7 := Lib.hid (HBz.out.own.next hC hf hx)
        have HT7 := HBz.out.own.blk hf HZT.out (by decide) (by decide) (by decide) (by decide) (by decide)
        have HB7 := HBz.out.own.blk hf HBz.out.tb (by decide) (by decide) (by decide) (by decide) (by decide)
        have HR7 := Lib.hid (HBz.out.own.rd hf HZR.out (by decide) (by decide) (by decide) (by decide) (by decide))
        have k0 := HT7.cell 0
        have k1 := HT7.cell 1
        have k2 := HT7.cell 2
        have j0 := HB7.cell 0
        have j1 := HB7.cell 1
        have j2 := HB7.cell 2
        have j3 := HB7.frozen 0
        have j4 := HB7.frozen 1
        have j5 := HB7.frozen 2
        have HFIN := Lib.hid (Both.next (rb := rb) HO7.out ⟨_, HB7, rfl⟩ HR7.out l5 m5 HBz.out.gb rfl)
        have HLE : Hid (last ≤ last + 1) := Lib.hid (by omega)
        clear hC hf hx HT7 HB7
        go_wp2
        go_ret
        exact ⟨rfl, _, _, F7, A5, c5, HFIN.out, HLE.out⟩
    · have hk0' : ((kd : Int) == 0) = false := beq_eq_false_iff_ne.2 hk0
      have hk1' : ((kd : Int) == 1) = false := beq_eq_false_iff_ne.2 hk1
      clear hk0 hk1
      go_enter Try.func43, Try.ntmps43
      go_wp2_with fail
      obtain ⟨W2, hW2⟩ : ∃ W2, W2 = W := ⟨_, rfl⟩
      clear hW
      subst hW2
      have HB2 := HB
      have HA2 := HA
      have HSS : Hid (∀ W', Below W2.heap.size W2 W' → W'.cell? ⟨rb, 0, none⟩ = some (.int .i64 most) ∧ W'.cell? ⟨rb, 1, none⟩ = some (.int .i64 last) ∧ W'.cell? ⟨rb, 2, none⟩ = some (.slice A cs.length c) ∧ W'.cell? ⟨wr.heap.size, 3, none⟩ = some (.int .i64 now)) := Lib.hid (fun W' hb => by
        have f := Fr.of_below (F := fun _ => False) hb
        have q1 := HB2.out.tb.fr f (fun h => h)
        have q2 := HA2.out.fr f (fun h => h)
        skip
        exact ⟨q1.cell 0, q1.cell 1, q1.cell 2, q2.cell 3⟩)
      have HR1 := Lib.hid (HB2.out.rd.drewN 1)
      have HR2 := Lib.hid ((HB2.out.rd.alloc (.cells #[.int .i64 0, .int .i64 0, .slice none 0 0] 90)).drewN 1)
      have HL := Lib.hid HB2.out.le
      have HC := Lib.hid HB2.out.cm
      have hla : 0 ≤ last ∧ last ≤ 1000000000 := by omega
      have HLA := Lib.hid hla
      clear a0 a1 a2 a3 a4 t0 t1 t2 hla
      go_region_held3 (fun w' => w'.cell? ⟨rb, 0, none⟩ = some (.int .i64 most) ∧ w'.cell? ⟨rb, 1, none⟩ = some (.int .i64 last) ∧ w'.cell? ⟨rb, 2, none⟩ = some (.slice A cs.length c) ∧ w'.cell? ⟨wr.heap.size, 3, none⟩ = some (.int .i64 now))
        ((refine HSS.out _ ?_; (repeat (first | exact Below.refl _ _ | exact hb6 | refine Below.drew ?_ | refine Below.setCell ?_ (by first | omega | (simp; done) | (simp; omega)) _ | refine Below.alloc ?_ (by first | omega | (simp; done) | (simp; omega)) _))))
        (first | (go_at_call 67; (refine (rstep_any (w := W2.drew) HR1.out (by omega) HL.out HC.out HOK.out most last now).mono ?_); rintro e w5 ⟨v5, u5, rfl, ⟨A5, c5, rfl, l5, m5, hr5⟩, ⟨A6, c6, rfl, l6, m6, hr6⟩, hb5⟩; have hb6 : Below W2.heap.size W2 w5 := (Below.refl _ _).drew.trans hb5; have hs6 := hb6.size) | (go_at_call 67; (refine (rstep_any (w := (W2.alloc (.cells #[.int .i64 0, .int .i64 0, .slice none 0 0] 90)).drew) HR2.out (by omega) HL.out HC.out HOK.out most last now).mono ?_); rintro e w5 ⟨v5, u5, rfl, ⟨A5, c5, rfl, l5, m5, hr5⟩, ⟨A6, c6, rfl, l6, m6, hr6⟩, hb5⟩; have hb6 : Below W2.heap.size W2 w5 := ((Below.refl _ _).alloc (Nat.le_refl _) _).drew.trans (hb5.mono (sz1 _ _)); have hs6 := hb6.size; have hz6 := ((Blk.new W2 90 #[.int .i64 0, .int .i64 0, .slice none 0 0]).drewN 1).fr (Fr.of_below (F := fun _ => False) hb5) (fun h => h); have z0 := hz6.cell 0; have z1 := hz6.cell 1; have z2 := hz6.cell 2; have z3 := hz6.frozen 0; have z4 := hz6.frozen 1; have z5 := hz6.frozen 2))
      all_goals
        have HAW := Lib.hid (fun W' (hb : Below W2.heap.size W2 W') => HA2.out.fr (Fr.of_below (F := fun _ => False) hb) (fun h => h))
        first
        | (have HZB : Hid (Below W2.heap.size W2 (((w5.setCell ⟨W2.heap.size, 0, none⟩ (.int .i64 most)).setCell ⟨W2.heap.size, 1, none⟩ (.int .i64 (last))).setCell ⟨W2.heap.size, 2, none⟩ (.slice A5 ((cStep cs now).1).length c5))) := Lib.hid (((hb6.setCell (Nat.le_refl _) _).setCell (Nat.le_refl _) _).setCell (Nat.le_refl _) _)
           have HZT : Hid (Blk (((w5.setCell ⟨W2.heap.size, 0, none⟩ (.int .i64 most)).setCell ⟨W2.heap.size, 1, none⟩ (.int .i64 (last))).setCell ⟨W2.heap.size, 2, none⟩ (.slice A5 ((cStep cs now).1).length c5)) W2.heap.size 90 #[.int .i64 most, .int .i64 (last), .slice A5 ((cStep cs now).1).length c5]) := Lib.hid (((hz6.set_ 0 _).set_ 1 _).set_ 2 _)
           have hfz : Fr (fun k => k = W2.heap.size) w5 (((w5.setCell ⟨W2.heap.size, 0, none⟩ (.int .i64 most)).setCell ⟨W2.heap.size, 1, none⟩ (.int .i64 (last))).setCell ⟨W2.heap.size, 2, none⟩ (.slice A5 ((cStep cs now).1).length c5)) := (((Fr.refl (fun k => k = W2.heap.size) w5).set (p := ⟨W2.heap.size, 0, none⟩) (fun _ => rfl) _).set (p := ⟨W2.heap.size, 1, none⟩) (fun _ => rfl) _).set (p := ⟨W2.heap.size, 2, none⟩) (fun _ => rfl) _
           have hnz : ∀ (T : TypeId) gb ds fr, T ≠ 90 → w5.heap[gb]? = some (.cells ds T fr) → ¬ gb = W2.heap.size := fun T gb ds fr hT hb e => by
             subst e
             unfold Blk at hz6
             rw [hb] at hz6; injection hz6 with hz6; injection hz6 with _ q; exact hT q
           have HZR := Lib.hid (hr5.fr hfz (fun gb ds fr hb => hnz _ gb ds fr (by decide) hb))
           have HZU := Lib.hid (hr6.fr hfz (fun gb ds fr hb => hnz _ gb ds fr (by decide) hb))
           clear z0 z1 z2 z3 z4 z5 hz6 hfz hnz
           generalize ((w5.setCell ⟨W2.heap.size, 0, none⟩ (.int .i64 most)).setCell ⟨W2.heap.size, 1, none⟩ (.int .i64 (last))).setCell ⟨W2.heap.size, 2, none⟩ (.slice A5 ((cStep cs now).1).length c5) = wz at *)
        | (have HZB := Lib.hid (hb6.alloc hs6 (.cells #[.int .i64 most, .int .i64 (last), .slice A5 ((cStep cs now).1).length c5] 90))
           have HZT := Lib.hid (Blk.new w5 90 #[.int .i64 most, .int .i64 (last), .slice A5 ((cStep cs now).1).length c5])
           have HZR := Lib.hid (hr5.alloc (.cells #[.int .i64 most, .int .i64 (last), .slice A5 ((cStep cs now).1).length c5] 90))
           have HZU := Lib.hid (hr6.alloc (.cells #[.int .i64 most, .int .i64 (last), .slice A5 ((cStep cs now).1).length c5] 90))
           generalize w5.alloc (.cells #[.int .i64 most, .int .i64 (last), .slice A5 ((cStep cs now).1).length c5] 90) = wz at *)

        have HBz := Lib.hid (HB2.out.below HZB.out)
        have HAz := Lib.hid (HAW.out wz HZB.out)
        have i0 := HBz.out.tb.cell 0
        have i1 := HBz.out.tb.cell 1
        have i2 := HBz.out.tb.cell 2
        have i3 := HBz.out.tb.frozen 0
        have i4 := HBz.out.tb.frozen 1
        have i5 := HBz.out.tb.frozen 2
        have k0 := HZT.out.cell 0
        have k1 := HZT.out.cell 1
        have k2 := HZT.out.cell 2
        have fs : Fr (fun k => k = rb) wz (((wz.setCell ⟨rb, 0, none⟩ (.int .i64 most)).setCell ⟨rb, 1, none⟩ (.int .i64 last)).setCell ⟨rb, 2, none⟩ (.slice A5 (cStep cs now).1.length c5)) := (((Fr.refl (fun k => k = rb) wz).set (p := ⟨rb, 0, none⟩) (fun _ => rfl) _).set (p := ⟨rb, 1, none⟩) (fun _ => rfl) _).set (p := ⟨rb, 2, none⟩) (fun _ => rfl) _
        have hnr := HBz.out.own.cl.notT HBz.out.tb (by decide) (by decide) (by decide) (by decide) (by decide)
        have hnT : ∀ (T : TypeId) gb ds fr, T ≠ 90 → wz.heap[gb]? = some (.cells ds T fr) → ¬ gb = rb := fun T gb ds fr hT hb e => by
          subst e
          have := HBz.out.tb
          unfold Blk at this
          rw [hb] at this; injection this with this; injection this with _ q; exact hT q
        have HOX : Hid (Own w p most last cs F (((wz.setCell ⟨rb, 0, none⟩ (.int .i64 most)).setCell ⟨rb, 1, none⟩ (.int .i64 last)).setCell ⟨rb, 2, none⟩ (.slice A5 (cStep cs now).1.length c5))) := Lib.hid ⟨HBz.out.own.cl.fr fs (fun k hk e => hnr (e ▸ hk)), HBz.out.own.be.trans (fs.to_below HBz.out.own.be.size (fun k e => by have := HBz.out.gb; omega)), HBz.out.own.ge⟩
        have HTX : Hid (Blk (((wz.setCell ⟨rb, 0, none⟩ (.int .i64 most)).setCell ⟨rb, 1, none⟩ (.int .i64 last)).setCell ⟨rb, 2, none⟩ (.slice A5 (cStep cs now).1.length c5)) rb 90 #[.int .i64 most, .int .i64 last, .slice A5 (cStep cs now).1.length c5]) := Lib.hid (((HBz.out.tb.set_ 0 _).set_ 1 _).set_ 2 _)
        have HRX := Lib.hid (HZR.out.fr fs (fun gb ds fr hb => hnT _ gb ds fr (by decide) hb))
        have HUX := Lib.hid (HZU.out.fr fs (fun gb ds fr hb => hnT _ gb ds fr (by decide) hb))
        have HAX := Lib.hid (HAz.out.fr fs (hnT _ _ _ _ (by decide) HAz.out))
        have a3x := HAX.out.cell 3
        clear fs hnr hnT
        go_wp2_with fail
        generalize ((wz.setCell ⟨rb, 0, none⟩ (.int .i64 most)).setCell ⟨rb, 1, none⟩ (.int .i64 last)).setCell ⟨rb, 2, none⟩ (.slice A5 (cStep cs now).1.length c5) = wx at *
        refine (cstep_any HOX.out.cl now).mono ?_
        rintro e w8 ⟨v8, F8, rfl, ho8, hC, hf, hx⟩
        have HO8 := Lib.hid (HOX.out.next hC hf hx)
        have HT8 := Lib.hid (HOX.out.blk hf HTX.out (by decide) (by decide) (by decide) (by decide) (by decide))
        have HR8 := Lib.hid (HOX.out.rd hf HRX.out (by decide) (by decide) (by decide) (by decide) (by decide))
        have HU8 := Lib.hid (HOX.out.rd hf HUX.out (by decide) (by decide) (by decide) (by decide) (by decide))
        obtain ⟨A8, c8, rfl, _, _, hr8⟩ := RdV.of_own ho8
        have hle8 : (cStep cs now).2.length ≤ 1000000 := step_out_le2
        have HSM := Lib.hid (csame_any (c := c8) (d := c6) hr8 HU8.out hle8)
        have HFIN : Hid (∀ n, Both w p rb most last (cStep cs now).1 F8 A5 c5 (w8.drewN n)) := Lib.hid (fun n => Both.below ⟨HO8.out, HT8.out, HR8.out, l5, m5, HBz.out.gb⟩ (below_drewN (Below.refl _ _) n))
        clear hC hf hx ho8 hr8
        go_wp2_with fail
        refine (HSM.out).mono ?_
        rintro e w9 ⟨rfl, n9, rfl⟩
        go_wp2
        go_ret
        exact ⟨rfl, _, _, F8, A5, c5, HFIN.out n9, by omega⟩
end Go.Proofs.Ytgfoobgkpnknmaa
