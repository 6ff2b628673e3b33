/- The laws of the server: does. -/
import Derived.Test.YtgfoobgkpnknmaaT2
import Derived.Test.YtgfoobgkpnknmaaQ4
namespace Go.Proofs.Ytgfoobgkpnknmaa
set_option linter.unusedSimpArgs false
set_option linter.unusedVariables false
open Go.RowKit
theorem Sv.okk {w : World} {p : Nat} {most last : Int} {cs : List SC} {F : Nat → Prop} (H : Sv w p most last cs F) : (cs.Pairwise fun a b => a.id < b.id) ∧ cs.length ≤ 200 ∧ 0 ≤ last := by
  obtain ⟨h1, h2, h3⟩ := sv_p H
  have := h1.len
  exact ⟨h1.ids, by omega, h2⟩
/-- the program's table and the reference's -/
structure SBoth (w : World) (p rb : Nat) (most last : Int) (cs : List SC) (F : Nat → Prop) (A : Option Addr) (c : Nat) (wr : World) : Prop where
  own : SOwn w p most last cs F wr
  tb : Blk wr rb 117 #[.int .i64 most, .int .i64 last, .slice A cs.length c]
  rd : Rd wr 168 8 cs.length A (rows srcell cs)
  le : cs.length ≤ c
  cm : c ≤ maxLen
  gb : w.heap.size ≤ rb
def SDoesPost (w wr : World) (p rb : Nat) (most last : Int) (e : Ending) (w' : World) : Prop :=
  e = .returned (.bool true) ∧ ∃ last' cs' F' A' c', SBoth w p rb most last' cs' F' A' c' w' ∧ last' ≤ last + 1 ∧ ∀ b ds, Blk wr b 110 ds → Blk w' b 110 ds
section
variable {w wr w1 : World} {p rb : Nat} {most last : Int} {cs : List SC} {F G : Nat → Prop} {A : Option Addr} {c : Nat}
theorem SBoth.below (H : SBoth w p rb most last cs F A c wr) (hb : Below wr.heap.size wr w1) : SBoth w p rb most last cs F A c w1 :=
  ⟨H.own.below hb, H.tb.fr (Fr.of_below (F := fun _ => False) hb) (fun h => h), H.rd.below hb, H.le, H.cm, H.gb⟩
/-- the program's table goes on to another list; the reference's table is written anew -/
theorem SBoth.next {last2 : Int} {cs2 : List SC} {F2 : Nat → Prop} {A2 : Option Addr} {c2 n2 : Nat} (H : SOwn w p most last2 cs2 F2 wr) (tb : ∃ ds : Array Value, Blk wr rb 117 ds ∧ ds.size = 3) (rd : Rd wr 168 8 cs2.length A2 (rows srcell cs2)) (le : cs2.length ≤ c2) (cm : c2 ≤ maxLen) (gb : w.heap.size ≤ rb) (hn : n2 = cs2.length) :
    SBoth w p rb most last2 cs2 F2 A2 c2 (((wr.setCell ⟨rb, 0, none⟩ (.int .i64 most)).setCell ⟨rb, 1, none⟩ (.int .i64 last2)).setCell ⟨rb, 2, none⟩ (.slice A2 n2 c2)) := by
  subst hn
  obtain ⟨ds, hb, hs⟩ := tb
  obtain ⟨ds⟩ := ds
  match ds, hs with
  | [x, y, z], _ =>
    have fs : Fr (fun k => k = rb) wr (((wr.setCell ⟨rb, 0, none⟩ (.int .i64 most)).setCell ⟨rb, 1, none⟩ (.int .i64 last2)).setCell ⟨rb, 2, none⟩ (.slice A2 cs2.length c2)) :=
      (((Fr.refl (fun k => k = rb) wr).set (p := ⟨rb, 0, none⟩) (fun _ => rfl) _).set (p := ⟨rb, 1, none⟩) (fun _ => rfl) _).set (p := ⟨rb, 2, none⟩) (fun _ => rfl) _
    have hnr := H.sv.notT hb (by decide) (by decide) (by decide) (by decide) (by decide)
    refine ⟨⟨H.sv.fr fs (fun k hk e => hnr (e ▸ hk)), H.be.trans (fs.to_below H.be.size (fun k e => by omega)), H.ge⟩, ((hb.set_ 0 _).set_ 1 _).set_ 2 _, rd.fr fs (fun g ds fr hg e => ?_), le, cm, gb⟩
    subst e
    unfold Blk at hb
    rw [hb] at hg; injection hg with hg; injection hg with _ q; exact absurd q (by decide)
end
theorem Blk.keep3 {W : World} {b g : Nat} {t t' : TypeId} {ds cs : Array Value} (h : Blk W b t ds) (hg : Blk W g t' cs) (hne : t ≠ t') (x y z : Value) : Blk (((W.setCell ⟨g, 0, none⟩ x).setCell ⟨g, 1, none⟩ y).setCell ⟨g, 2, none⟩ z) b t ds := by
  have n := h.ne_ hg hne
  exact ((h.far (p := ⟨g, 0, none⟩) n x).far (p := ⟨g, 1, none⟩) n y).far (p := ⟨g, 2, none⟩) n z
theorem sstartN_le (most last : Int) (cs : List SC) (k : SK) (now : Int) : sStartN most last cs k now ≤ last + 1 := by unfold sStartN; split <;> omega
set_option maxRecDepth 100000 in
set_option maxHeartbeats 8000000 in
theorem sdoes_any {w wr : World} {p rb : Nat} {most last : Int} {cs : List SC} {F : Nat → Prop} {A : Option Addr} {c : Nat} (H : SBoth w p rb most last cs F A c wr) (hlast : last ≤ 1000000) (kd : Int) (br by_ me : ByteArray) (id now : Int) (tx : ByteArray) :
    Calls Try.prog 52 #[.pointer (some ⟨p, 0, none⟩), .pointer (some ⟨rb, 0, none⟩), .agg #[.int .i64 kd, .string br, .string by_, .string me, .int .i64 id, .int .i64 now, .string tx]] wr (SDoesPost w wr p rb most last) := by
  obtain ⟨W, hW⟩ : ∃ W, (wr.alloc (.cells #[.int .i64 kd, .string br, .string by_, .string me, .int .i64 id, .int .i64 now, .string tx] 110)).alloc (.cells #[.string by_, .string tx] 71) = W := ⟨_, rfl⟩
  have hbe : Below wr.heap.size wr W := hW ▸ ((Below.refl _ _).alloc (Nat.le_refl _) _).alloc (by simp) _
  have HA := Lib.hid (hW ▸ (Blk.new wr 110 #[.int .i64 kd, .string br, .string by_, .string me, .int .i64 id, .int .i64 now, .string tx]).alloc (.cells #[.string by_, .string tx] 71))
  have HS : Hid (Blk W (wr.heap.size + 1) 71 #[.string by_, .string tx]) := Lib.hid (hW ▸ Blk.new' (wr.alloc (.cells #[.int .i64 kd, .string br, .string by_, .string me, .int .i64 id, .int .i64 now, .string tx] 110)) _ _ (by simp))
  have HBE := Lib.hid hbe
  have HB := Lib.hid (H.below hbe)
  obtain ⟨hids, hlen, hla0⟩ := H.own.sv.okk
  have HIDS := Lib.hid hids
  have a0 := HA.out.cell 0
  have a1 := HA.out.cell 1
  have a2 := HA.out.cell 2
  have a3 := HA.out.cell 3
  have a4 := HA.out.cell 4
  have a5 := HA.out.cell 5
  have s0 := HS.out.cell 0
  have s1 := HS.out.cell 1
  have t0 := HB.out.tb.cell 0
  have t1 := HB.out.tb.cell 1
  have t2 := HB.out.tb.cell 2
  clear H hids hbe
  by_cases hk0 : kd = 0
  · subst hk0
    go_enter Try.func52, Try.ntmps52
    go_wp2_with fail
    obtain ⟨W2, hW2⟩ : ∃ W2, W2 = W := ⟨_, rfl⟩
    clear hW
    subst hW2
    have HB2 := HB
    have HA2 := HA
    have HS2 := HS
    have HSS : Hid (∀ W', Below W2.heap.size W2 W' → W'.cell? ⟨rb, 0, none⟩ = some (.int .i64 most) ∧ W'.cell? ⟨rb, 1, none⟩ = some (.int .i64 last) ∧ W'.cell? ⟨rb, 2, none⟩ = some (.slice A cs.length c) ∧ W'.cell? ⟨wr.heap.size, 1, none⟩ = some (.string br) ∧ W'.cell? ⟨wr.heap.size, 2, none⟩ = some (.string by_) ∧ W'.cell? ⟨wr.heap.size, 3, none⟩ = some (.string me) ∧ W'.cell? ⟨wr.heap.size, 5, none⟩ = some (.int .i64 now)) := Lib.hid (fun W' hb => by
      have f := Fr.of_below (F := fun _ => False) hb
      have q1 := HB2.out.tb.fr f (fun h => h)
      have q2 := HA2.out.fr f (fun h => h)
      skip
      exact ⟨q1.cell 0, q1.cell 1, q1.cell 2, q2.cell 1, q2.cell 2, q2.cell 3, q2.cell 5⟩)
    have HR1 := Lib.hid (HB2.out.rd.drewN 1)
    have HR2 := Lib.hid ((HB2.out.rd.alloc (.cells #[.int .i64 0, .int .i64 0, .slice none 0 0] 117)).drewN 1)
    have HL := Lib.hid HB2.out.le
    have HC := Lib.hid HB2.out.cm
    have hla : 0 ≤ last ∧ last ≤ 1000000000 := by omega
    have HLA := Lib.hid hla
    clear a0 a1 a2 a3 a4 a5 s0 s1 t0 t1 t2 hla
    go_region_held3 (fun w' => w'.cell? ⟨rb, 0, none⟩ = some (.int .i64 most) ∧ w'.cell? ⟨rb, 1, none⟩ = some (.int .i64 last) ∧ w'.cell? ⟨rb, 2, none⟩ = some (.slice A cs.length c) ∧ w'.cell? ⟨wr.heap.size, 1, none⟩ = some (.string br) ∧ w'.cell? ⟨wr.heap.size, 2, none⟩ = some (.string by_) ∧ w'.cell? ⟨wr.heap.size, 3, none⟩ = some (.string me) ∧ w'.cell? ⟨wr.heap.size, 5, none⟩ = some (.int .i64 now))
      ((refine HSS.out _ ?_; (repeat (first | exact Below.refl _ _ | exact hb6 | refine Below.drew ?_ | refine Below.setCell ?_ (by first | omega | (simp; done) | (simp; omega)) _ | refine Below.alloc ?_ (by first | omega | (simp; done) | (simp; omega)) _))))
      (first | (go_at_call 71; (refine (rsstart_any (w := W2.drew) HR1.out (by omega) HL.out HC.out most last HLA.out br by_ me now).mono ?_); rintro e w5 ⟨v5, rfl, ⟨A5, c5, rfl, l5, m5, hr5⟩, hb5⟩; have hb6 : Below W2.heap.size W2 w5 := (Below.refl _ _).drew.trans hb5; have hs6 := hb6.size) | (go_at_call 71; (refine (rsstart_any (w := (W2.alloc (.cells #[.int .i64 0, .int .i64 0, .slice none 0 0] 117)).drew) HR2.out (by omega) HL.out HC.out most last HLA.out br by_ me now).mono ?_); rintro e w5 ⟨v5, rfl, ⟨A5, c5, rfl, l5, m5, hr5⟩, hb5⟩; have hb6 : Below W2.heap.size W2 w5 := ((Below.refl _ _).alloc (Nat.le_refl _) _).drew.trans (hb5.mono (sz1 _ _)); have hs6 := hb6.size; have hz6 := ((Blk.new W2 117 #[.int .i64 0, .int .i64 0, .slice none 0 0]).drewN 1).fr (Fr.of_below (F := fun _ => False) hb5) (fun h => h); have z0 := hz6.cell 0; have z1 := hz6.cell 1; have z2 := hz6.cell 2; have z3 := hz6.frozen 0; have z4 := hz6.frozen 1; have z5 := hz6.frozen 2))
    all_goals
      go_wp2_with fail

      first
      | (show Calls _ _ _ (World.alloc w5 _) _
         have HZB := Lib.hid (hb6.alloc hs6 (.cells #[.int .i64 most, .int .i64 (sStartN most last cs (br, by_, me) now), .slice A5 (sStartL most last cs (br, by_, me) now).length c5] 117))
         have HZT := Lib.hid (Blk.new w5 117 #[.int .i64 most, .int .i64 (sStartN most last cs (br, by_, me) now), .slice A5 (sStartL most last cs (br, by_, me) now).length c5])
         have HZR := Lib.hid (hr5.alloc (.cells #[.int .i64 most, .int .i64 (sStartN most last cs (br, by_, me) now), .slice A5 (sStartL most last cs (br, by_, me) now).length c5] 117))
         skip
         generalize w5.alloc (.cells #[.int .i64 most, .int .i64 (sStartN most last cs (br, by_, me) now), .slice A5 (sStartL most last cs (br, by_, me) now).length c5] 117) = wz at *)
      | (have HZB : Hid (Below W2.heap.size W2 (((w5.setCell ⟨W2.heap.size, 0, none⟩ (.int .i64 most)).setCell ⟨W2.heap.size, 1, none⟩ (.int .i64 (sStartN most last cs (br, by_, me) now))).setCell ⟨W2.heap.size, 2, none⟩ (.slice A5 (sStartL most last cs (br, by_, me) now).length c5))) := Lib.hid (((hb6.setCell (Nat.le_refl _) _).setCell (Nat.le_refl _) _).setCell (Nat.le_refl _) _)
         have HZT : Hid (Blk (((w5.setCell ⟨W2.heap.size, 0, none⟩ (.int .i64 most)).setCell ⟨W2.heap.size, 1, none⟩ (.int .i64 (sStartN most last cs (br, by_, me) now))).setCell ⟨W2.heap.size, 2, none⟩ (.slice A5 (sStartL most last cs (br, by_, me) now).length c5)) W2.heap.size 117 #[.int .i64 most, .int .i64 (sStartN most last cs (br, by_, me) now), .slice A5 (sStartL most last cs (br, by_, me) now).length c5]) := Lib.hid (((hz6.set_ 0 _).set_ 1 _).set_ 2 _)
         have hfz : Fr (fun k => k = W2.heap.size) w5 (((w5.setCell ⟨W2.heap.size, 0, none⟩ (.int .i64 most)).setCell ⟨W2.heap.size, 1, none⟩ (.int .i64 (sStartN most last cs (br, by_, me) now))).setCell ⟨W2.heap.size, 2, none⟩ (.slice A5 (sStartL most last cs (br, by_, me) now).length c5)) := (((Fr.refl (fun k => k = W2.heap.size) w5).set (p := ⟨W2.heap.size, 0, none⟩) (fun _ => rfl) _).set (p := ⟨W2.heap.size, 1, none⟩) (fun _ => rfl) _).set (p := ⟨W2.heap.size, 2, none⟩) (fun _ => rfl) _
         have hnz : ∀ (T : TypeId) gb ds fr, T ≠ 117 → w5.heap[gb]? = some (.cells ds T fr) → ¬ gb = W2.heap.size := fun T gb ds fr hT hb e => by
           subst e
           unfold Blk at hz6
           rw [hb] at hz6; injection hz6 with hz6; injection hz6 with _ q; exact hT q
         have HZR := Lib.hid (hr5.fr hfz (fun gb ds fr hb => hnz _ gb ds fr (by decide) hb))
         skip
         clear z0 z1 z2 z3 z4 z5 hz6 hfz hnz
         generalize ((w5.setCell ⟨W2.heap.size, 0, none⟩ (.int .i64 most)).setCell ⟨W2.heap.size, 1, none⟩ (.int .i64 (sStartN most last cs (br, by_, me) now))).setCell ⟨W2.heap.size, 2, none⟩ (.slice A5 (sStartL most last cs (br, by_, me) now).length c5) = wz at *)
      have HBz := Lib.hid (HB2.out.below HZB.out)

      refine (sstart_any HBz.out.own.sv br by_ me now (by have := HLA.out; omega)).mono ?_
      rintro e w7 ⟨rfl, F7, hC, hf, hx⟩
      have HO7 := Lib.hid (HBz.out.own.next hC hf hx)
      have HT7 := HBz.out.own.blk hf HZT.out (by decide) (by decide) (by decide) (by decide) (by decide)
      have HB7 := HBz.out.own.blk hf HBz.out.tb (by decide) (by decide) (by decide) (by decide) (by decide)
      have HR7 := Lib.hid (HBz.out.own.rd hf HZR.out (by decide) (by decide) (by decide) (by decide) (by decide))
      have k0 := HT7.cell 0
      have k1 := HT7.cell 1
      have k2 := HT7.cell 2
      have j0 := HB7.cell 0
      have j1 := HB7.cell 1
      have j2 := HB7.cell 2
      have j3 := HB7.frozen 0
      have j4 := HB7.frozen 1
      have j5 := HB7.frozen 2
      have HFIN := Lib.hid (SBoth.next (rb := rb) HO7.out ⟨_, HB7, rfl⟩ HR7.out l5 m5 HBz.out.gb rfl)
      have HLE : Hid (sStartN most last cs (br, by_, me) now ≤ last + 1) := Lib.hid (sstartN_le most last cs (br, by_, me) now)
      have HKP := Lib.hid (fun b ds (hb : Blk wr b 110 ds) => (((HBz.out.own.blk hf ((hb.fr (Fr.of_below (F := fun _ => False) HBE.out) (fun h => h)).fr (Fr.of_below (F := fun _ => False) HZB.out) (fun h => h)) (by decide) (by decide) (by decide) (by decide) (by decide))).keep3 HB7 (by decide)))
      clear hC hf hx HT7 HB7
      go_wp2
      go_ret
      exact ⟨rfl, _, _, F7, A5, c5, HFIN.out, HLE.out, fun b ds hb => HKP.out b ds hb _ _ _⟩
  · by_cases hk1 : kd = 1
    · subst hk1
      go_enter Try.func52, Try.ntmps52
      go_wp2_with fail
      obtain ⟨W2, hW2⟩ : ∃ W2, W2 = W := ⟨_, rfl⟩
      clear hW
      subst hW2
      have HB2 := HB
      have HA2 := HA
      have HS2 := HS
      have HSS : Hid (∀ W', Below W2.heap.size W2 W' → W'.cell? ⟨rb, 0, none⟩ = some (.int .i64 most) ∧ W'.cell? ⟨rb, 1, none⟩ = some (.int .i64 last) ∧ W'.cell? ⟨rb, 2, none⟩ = some (.slice A cs.length c) ∧ W'.cell? ⟨wr.heap.size, 4, none⟩ = some (.int .i64 id) ∧ W'.cell? ⟨wr.heap.size + 1, 0, none⟩ = some (.string by_) ∧ W'.cell? ⟨wr.heap.size + 1, 1, none⟩ = some (.string tx)) := Lib.hid (fun W' hb => by
        have f := Fr.of_below (F := fun _ => False) hb
        have q1 := HB2.out.tb.fr f (fun h => h)
        have q2 := HA2.out.fr f (fun h => h)
        have q3 := HS2.out.fr f (fun h => h)
        exact ⟨q1.cell 0, q1.cell 1, q1.cell 2, q2.cell 4, q3.cell 0, q3.cell 1⟩)
      have HR1 := Lib.hid (HB2.out.rd.drewN 1)
      have HR2 := Lib.hid ((HB2.out.rd.alloc (.cells #[.int .i64 0, .int .i64 0, .slice none 0 0] 117)).drewN 1)
      have HL := Lib.hid HB2.out.le
      have HC := Lib.hid HB2.out.cm
      have hla : 0 ≤ last ∧ last ≤ 1000000000 := by omega
      have HLA := Lib.hid hla
      clear a0 a1 a2 a3 a4 a5 s0 s1 t0 t1 t2 hla
      go_region_held3 (fun w' => w'.cell? ⟨rb, 0, none⟩ = some (.int .i64 most) ∧ w'.cell? ⟨rb, 1, none⟩ = some (.int .i64 last) ∧ w'.cell? ⟨rb, 2, none⟩ = some (.slice A cs.length c) ∧ w'.cell? ⟨wr.heap.size, 4, none⟩ = some (.int .i64 id) ∧ w'.cell? ⟨wr.heap.size + 1, 0, none⟩ = some (.string by_) ∧ w'.cell? ⟨wr.heap.size + 1, 1, none⟩ = some (.string tx))
        ((refine HSS.out _ ?_; (repeat (first | exact Below.refl _ _ | exact hb6 | refine Below.drew ?_ | refine Below.setCell ?_ (by first | omega | (simp; done) | (simp; omega)) _ | refine Below.alloc ?_ (by first | omega | (simp; done) | (simp; omega)) _))))
        (first | (go_at_call 72; (refine (ranswer_any (w := W2.drew) HR1.out (by omega) HL.out HC.out HIDS.out most last id by_ tx).mono ?_); rintro e w5 ⟨v5, rfl, ⟨A5, c5, rfl, l5, m5, hr5⟩, hb5⟩; have hb6 : Below W2.heap.size W2 w5 := (Below.refl _ _).drew.trans hb5; have hs6 := hb6.size) | (go_at_call 72; (refine (ranswer_any (w := (W2.alloc (.cells #[.int .i64 0, .int .i64 0, .slice none 0 0] 117)).drew) HR2.out (by omega) HL.out HC.out HIDS.out most last id by_ tx).mono ?_); rintro e w5 ⟨v5, rfl, ⟨A5, c5, rfl, l5, m5, hr5⟩, hb5⟩; have hb6 : Below W2.heap.size W2 w5 := ((Below.refl _ _).alloc (Nat.le_refl _) _).drew.trans (hb5.mono (sz1 _ _)); have hs6 := hb6.size; have hz6 := ((Blk.new W2 117 #[.int .i64 0, .int .i64 0, .slice none 0 0]).drewN 1).fr (Fr.of_below (F := fun _ => False) hb5) (fun h => h); have z0 := hz6.cell 0; have z1 := hz6.cell 1; have z2 := hz6.cell 2; have z3 := hz6.frozen 0; have z4 := hz6.frozen 1; have z5 := hz6.frozen 2))
      have HAW := Lib.hid (fun W' (hb : Below W2.heap.size W2 W') => HA2.out.fr (Fr.of_below (F := fun _ => False) hb) (fun h => h))
      all_goals
        go_wp2_with fail

        first
        | (show Calls _ _ _ (World.alloc w5 _) _
           have HZB := Lib.hid (hb6.alloc hs6 (.cells #[.int .i64 most, .int .i64 (last), .slice A5 (sAnsL id by_ tx cs).length c5] 117))
           have HZT := Lib.hid (Blk.new w5 117 #[.int .i64 most, .int .i64 (last), .slice A5 (sAnsL id by_ tx cs).length c5])
           have HZR := Lib.hid (hr5.alloc (.cells #[.int .i64 most, .int .i64 (last), .slice A5 (sAnsL id by_ tx cs).length c5] 117))
           skip
           generalize w5.alloc (.cells #[.int .i64 most, .int .i64 (last), .slice A5 (sAnsL id by_ tx cs).length c5] 117) = wz at *)
        | (have HZB : Hid (Below W2.heap.size W2 (((w5.setCell ⟨W2.heap.size, 0, none⟩ (.int .i64 most)).setCell ⟨W2.heap.size, 1, none⟩ (.int .i64 (last))).setCell ⟨W2.heap.size, 2, none⟩ (.slice A5 (sAnsL id by_ tx cs).length c5))) := Lib.hid (((hb6.setCell (Nat.le_refl _) _).setCell (Nat.le_refl _) _).setCell (Nat.le_refl _) _)
           have HZT : Hid (Blk (((w5.setCell ⟨W2.heap.size, 0, none⟩ (.int .i64 most)).setCell ⟨W2.heap.size, 1, none⟩ (.int .i64 (last))).setCell ⟨W2.heap.size, 2, none⟩ (.slice A5 (sAnsL id by_ tx cs).length c5)) W2.heap.size 117 #[.int .i64 most, .int .i64 (last), .slice A5 (sAnsL id by_ tx cs).length c5]) := Lib.hid (((hz6.set_ 0 _).set_ 1 _).set_ 2 _)
           have hfz : Fr (fun k => k = W2.heap.size) w5 (((w5.setCell ⟨W2.heap.size, 0, none⟩ (.int .i64 most)).setCell ⟨W2.heap.size, 1, none⟩ (.int .i64 (last))).setCell ⟨W2.heap.size, 2, none⟩ (.slice A5 (sAnsL id by_ tx cs).length c5)) := (((Fr.refl (fun k => k = W2.heap.size) w5).set (p := ⟨W2.heap.size, 0, none⟩) (fun _ => rfl) _).set (p := ⟨W2.heap.size, 1, none⟩) (fun _ => rfl) _).set (p := ⟨W2.heap.size, 2, none⟩) (fun _ => rfl) _
           have hnz : ∀ (T : TypeId) gb ds fr, T ≠ 117 → w5.heap[gb]? = some (.cells ds T fr) → ¬ gb = W2.heap.size := fun T gb ds fr hT hb e => by
             subst e
             unfold Blk at hz6
             rw [hb] at hz6; injection hz6 with hz6; injection hz6 with _ q; exact hT q
           have HZR := Lib.hid (hr5.fr hfz (fun gb ds fr hb => hnz _ gb ds fr (by decide) hb))
           skip
           clear z0 z1 z2 z3 z4 z5 hz6 hfz hnz
           generalize ((w5.setCell ⟨W2.heap.size, 0, none⟩ (.int .i64 most)).setCell ⟨W2.heap.size, 1, none⟩ (.int .i64 (last))).setCell ⟨W2.heap.size, 2, none⟩ (.slice A5 (sAnsL id by_ tx cs).length c5) = wz at *)
        have HBz := Lib.hid (HB2.out.below HZB.out)

        refine (sanswer_any HBz.out.own.sv id by_ tx).mono ?_
        rintro e w7 ⟨rfl, hC, hf⟩
        have HO7 := Lib.hid (HBz.out.own.next hC hf (fun k h => .inl h))
        have HT7 := HBz.out.own.blk hf HZT.out (by decide) (by decide) (by decide) (by decide) (by decide)
        have HB7 := HBz.out.own.blk hf HBz.out.tb (by decide) (by decide) (by decide) (by decide) (by decide)
        have HR7 := Lib.hid (HBz.out.own.rd hf HZR.out (by decide) (by decide) (by decide) (by decide) (by decide))
        have k0 := HT7.cell 0
        have k1 := HT7.cell 1
        have k2 := HT7.cell 2
        have j0 := HB7.cell 0
        have j1 := HB7.cell 1
        have j2 := HB7.cell 2
        have j3 := HB7.frozen 0
        have j4 := HB7.frozen 1
        have j5 := HB7.frozen 2
        have HFIN := Lib.hid (SBoth.next (rb := rb) HO7.out ⟨_, HB7, rfl⟩ HR7.out l5 m5 HBz.out.gb rfl)
        have HLE : Hid (last ≤ last + 1) := Lib.hid (by omega)
        have HKP := Lib.hid (fun b ds (hb : Blk wr b 110 ds) => (((HBz.out.own.blk hf ((hb.fr (Fr.of_below (F := fun _ => False) HBE.out) (fun h => h)).fr (Fr.of_below (F := fun _ => False) HZB.out) (fun h => h)) (by decide) (by decide) (by decide) (by decide) (by decide))).keep3 HB7 (by decide)))
        clear hC hf HT7 HB7
        go_wp2
        go_ret
        exact ⟨rfl, _, _, F, A5, c5, HFIN.out, HLE.out, fun b ds hb => HKP.out b ds hb _ _ _⟩
    · have hk0' : ((kd : Int) == 0) = false := beq_eq_false_iff_ne.2 hk0
      have hk1' : ((kd : Int) == 1) = false := beq_eq_false_iff_ne.2 hk1
      clear hk0 hk1
      go_enter Try.func52, Try.ntmps52
      go_wp2_with fail
      obtain ⟨W2, hW2⟩ : ∃ W2, W2 = W := ⟨_, rfl⟩
      clear hW
      subst hW2
      have HB2 := HB
      have HA2 := HA
      have HS2 := HS
      have HSS : Hid (∀ W', Below W2.heap.size W2 W' → W'.cell? ⟨rb, 0, none⟩ = some (.int .i64 most) ∧ W'.cell? ⟨rb, 1, none⟩ = some (.int .i64 last) ∧ W'.cell? ⟨rb, 2, none⟩ = some (.slice A cs.length c) ∧ W'.cell? ⟨wr.heap.size, 5, none⟩ = some (.int .i64 now)) := Lib.hid (fun W' hb => by
        have f := Fr.of_below (F := fun _ => False) hb
        have q1 := HB2.out.tb.fr f (fun h => h)
        have q2 := HA2.out.fr f (fun h => h)
        skip
        exact ⟨q1.cell 0, q1.cell 1, q1.cell 2, q2.cell 5⟩)
      have HR1 := Lib.hid (HB2.out.rd.drewN 1)
      have HR2 := Lib.hid ((HB2.out.rd.alloc (.cells #[.int .i64 0, .int .i64 0, .slice none 0 0] 117)).drewN 1)
      have HL := Lib.hid HB2.out.le
      have HC := Lib.hid HB2.out.cm
      have hla : 0 ≤ last ∧ last ≤ 1000000000 := by omega
      have HLA := Lib.hid hla
      clear a0 a1 a2 a3 a4 a5 s0 s1 t0 t1 t2 hla
      go_region_held3 (fun w' => w'.cell? ⟨rb, 0, none⟩ = some (.int .i64 most) ∧ w'.cell? ⟨rb, 1, none⟩ = some (.int .i64 last) ∧ w'.cell? ⟨rb, 2, none⟩ = some (.slice A cs.length c) ∧ w'.cell? ⟨wr.heap.size, 5, none⟩ = some (.int .i64 now))
        ((refine HSS.out _ ?_; (repeat (first | exact Below.refl _ _ | exact hb6 | refine Below.drew ?_ | refine Below.setCell ?_ (by first | omega | (simp; done) | (simp; omega)) _ | refine Below.alloc ?_ (by first | omega | (simp; done) | (simp; omega)) _))))
        (first | (go_at_call 73; (refine (rexpire_any (w := W2.drew) HR1.out (by omega) most last now).mono ?_); rintro e w5 ⟨v5, u5, rfl, ⟨A5, c5, rfl, l5, m5, hr5⟩, ⟨A6, c6, rfl, l6, m6, hr6⟩, hb5⟩; have hb6 : Below W2.heap.size W2 w5 := (Below.refl _ _).drew.trans hb5; have hs6 := hb6.size) | (go_at_call 73; (refine (rexpire_any (w := (W2.alloc (.cells #[.int .i64 0, .int .i64 0, .slice none 0 0] 117)).drew) HR2.out (by omega) most last now).mono ?_); rintro e w5 ⟨v5, u5, rfl, ⟨A5, c5, rfl, l5, m5, hr5⟩, ⟨A6, c6, rfl, l6, m6, hr6⟩, hb5⟩; have hb6 : Below W2.heap.size W2 w5 := ((Below.refl _ _).alloc (Nat.le_refl _) _).drew.trans (hb5.mono (sz1 _ _)); have hs6 := hb6.size; have hz6 := ((Blk.new W2 117 #[.int .i64 0, .int .i64 0, .slice none 0 0]).drewN 1).fr (Fr.of_below (F := fun _ => False) hb5) (fun h => h); have z0 := hz6.cell 0; have z1 := hz6.cell 1; have z2 := hz6.cell 2; have z3 := hz6.frozen 0; have z4 := hz6.frozen 1; have z5 := hz6.frozen 2))
      all_goals
        have HAW := Lib.hid (fun W' (hb : Below W2.heap.size W2 W') => HA2.out.fr (Fr.of_below (F := fun _ => False) hb) (fun h => h))
        first
        | (have HZB : Hid (Below W2.heap.size W2 (((w5.setCell ⟨W2.heap.size, 0, none⟩ (.int .i64 most)).setCell ⟨W2.heap.size, 1, none⟩ (.int .i64 (last))).setCell ⟨W2.heap.size, 2, none⟩ (.slice A5 ((sKeep now cs)).length c5))) := Lib.hid (((hb6.setCell (Nat.le_refl _) _).setCell (Nat.le_refl _) _).setCell (Nat.le_refl _) _)
           have HZT : Hid (Blk (((w5.setCell ⟨W2.heap.size, 0, none⟩ (.int .i64 most)).setCell ⟨W2.heap.size, 1, none⟩ (.int .i64 (last))).setCell ⟨W2.heap.size, 2, none⟩ (.slice A5 ((sKeep now cs)).length c5)) W2.heap.size 117 #[.int .i64 most, .int .i64 (last), .slice A5 ((sKeep now cs)).length c5]) := Lib.hid (((hz6.set_ 0 _).set_ 1 _).set_ 2 _)
           have hfz : Fr (fun k => k = W2.heap.size) w5 (((w5.setCell ⟨W2.heap.size, 0, none⟩ (.int .i64 most)).setCell ⟨W2.heap.size, 1, none⟩ (.int .i64 (last))).setCell ⟨W2.heap.size, 2, none⟩ (.slice A5 ((sKeep now cs)).length c5)) := (((Fr.refl (fun k => k = W2.heap.size) w5).set (p := ⟨W2.heap.size, 0, none⟩) (fun _ => rfl) _).set (p := ⟨W2.heap.size, 1, none⟩) (fun _ => rfl) _).set (p := ⟨W2.heap.size, 2, none⟩) (fun _ => rfl) _
           have hnz : ∀ (T : TypeId) gb ds fr, T ≠ 117 → w5.heap[gb]? = some (.cells ds T fr) → ¬ gb = W2.heap.size := fun T gb ds fr hT hb e => by
             subst e
             unfold Blk at hz6
             rw [hb] at hz6; injection hz6 with hz6; injection hz6 with _ q; exact hT q
           have HZR := Lib.hid (hr5.fr hfz (fun gb ds fr hb => hnz _ gb ds fr (by decide) hb))
           have HZU := Lib.hid (hr6.fr hfz (fun gb ds fr hb => hnz _ gb ds fr (by decide) hb))
           clear z0 z1 z2 z3 z4 z5 hz6 hfz hnz
           generalize ((w5.setCell ⟨W2.heap.size, 0, none⟩ (.int .i64 most)).setCell ⟨W2.heap.size, 1, none⟩ (.int .i64 (last))).setCell ⟨W2.heap.size, 2, none⟩ (.slice A5 ((sKeep now cs)).length c5) = wz at *)
        | (have HZB := Lib.hid (hb6.alloc hs6 (.cells #[.int .i64 most, .int .i64 (last), .slice A5 ((sKeep now cs)).length c5] 117))
           have HZT := Lib.hid (Blk.new w5 117 #[.int .i64 most, .int .i64 (last), .slice A5 ((sKeep now cs)).length c5])
           have HZR := Lib.hid (hr5.alloc (.cells #[.int .i64 most, .int .i64 (last), .slice A5 ((sKeep now cs)).length c5] 117))
           have HZU := Lib.hid (hr6.alloc (.cells #[.int .i64 most, .int .i64 (last), .slice A5 ((sKeep now cs)).length c5] 117))
           generalize w5.alloc (.cells #[.int .i64 most, .int .i64 (last), .slice A5 ((sKeep now cs)).length c5] 117) = wz at *)

        have HBz := Lib.hid (HB2.out.below HZB.out)
        have HAz := Lib.hid (HAW.out wz HZB.out)
        have i0 := HBz.out.tb.cell 0
        have i1 := HBz.out.tb.cell 1
        have i2 := HBz.out.tb.cell 2
        have i3 := HBz.out.tb.frozen 0
        have i4 := HBz.out.tb.frozen 1
        have i5 := HBz.out.tb.frozen 2
        have k0 := HZT.out.cell 0
        have k1 := HZT.out.cell 1
        have k2 := HZT.out.cell 2
        have fs : Fr (fun k => k = rb) wz (((wz.setCell ⟨rb, 0, none⟩ (.int .i64 most)).setCell ⟨rb, 1, none⟩ (.int .i64 last)).setCell ⟨rb, 2, none⟩ (.slice A5 (sKeep now cs).length c5)) := (((Fr.refl (fun k => k = rb) wz).set (p := ⟨rb, 0, none⟩) (fun _ => rfl) _).set (p := ⟨rb, 1, none⟩) (fun _ => rfl) _).set (p := ⟨rb, 2, none⟩) (fun _ => rfl) _
        have hnr := HBz.out.own.sv.notT HBz.out.tb (by decide) (by decide) (by decide) (by decide) (by decide)
        have hnT : ∀ (T : TypeId) gb ds fr, T ≠ 117 → wz.heap[gb]? = some (.cells ds T fr) → ¬ gb = rb := fun T gb ds fr hT hb e => by
          subst e
          have := HBz.out.tb
          unfold Blk at this
          rw [hb] at this; injection this with this; injection this with _ q; exact hT q
        have HOX : Hid (SOwn w p most last cs F (((wz.setCell ⟨rb, 0, none⟩ (.int .i64 most)).setCell ⟨rb, 1, none⟩ (.int .i64 last)).setCell ⟨rb, 2, none⟩ (.slice A5 (sKeep now cs).length c5))) := Lib.hid ⟨HBz.out.own.sv.fr fs (fun k hk e => hnr (e ▸ hk)), HBz.out.own.be.trans (fs.to_below HBz.out.own.be.size (fun k e => by have := HBz.out.gb; omega)), HBz.out.own.ge⟩
        have HTX : Hid (Blk (((wz.setCell ⟨rb, 0, none⟩ (.int .i64 most)).setCell ⟨rb, 1, none⟩ (.int .i64 last)).setCell ⟨rb, 2, none⟩ (.slice A5 (sKeep now cs).length c5)) rb 117 #[.int .i64 most, .int .i64 last, .slice A5 (sKeep now cs).length c5]) := Lib.hid (((HBz.out.tb.set_ 0 _).set_ 1 _).set_ 2 _)
        have HRX := Lib.hid (HZR.out.fr fs (fun gb ds fr hb => hnT _ gb ds fr (by decide) hb))
        have HUX := Lib.hid (HZU.out.fr fs (fun gb ds fr hb => hnT _ gb ds fr (by decide) hb))
        have HAX := Lib.hid (HAz.out.fr fs (hnT _ _ _ _ (by decide) HAz.out))
        have a3x := HAX.out.cell 5
        have HFSX := Lib.hid fs
        clear fs hnr hnT
        go_wp2_with fail
        generalize ((wz.setCell ⟨rb, 0, none⟩ (.int .i64 most)).setCell ⟨rb, 1, none⟩ (.int .i64 last)).setCell ⟨rb, 2, none⟩ (.slice A5 (sKeep now cs).length c5) = wx at *
        refine (sexpire_any HOX.out.sv now).mono ?_
        rintro e w8 ⟨v8, F8, rfl, ho8, hC, hf, hx⟩
        have HO8 := Lib.hid (HOX.out.next hC hf (fun k h => .inl (hx k h)))
        have HT8 := Lib.hid (HOX.out.blk hf HTX.out (by decide) (by decide) (by decide) (by decide) (by decide))
        have HR8 := Lib.hid (HOX.out.rd hf HRX.out (by decide) (by decide) (by decide) (by decide) (by decide))
        have HU8 := Lib.hid (HOX.out.rd hf HUX.out (by decide) (by decide) (by decide) (by decide) (by decide))
        obtain ⟨A8, c8, rfl, _, _, hr8⟩ := RdV.of_own ho8
        have hle8 : (sGone now cs).length ≤ 1000000 := by have := (gone_at (sv_p HBz.out.own.sv).1 now).2; omega
        have HSM := Lib.hid (ints_any (c := c8) (d := c6) hr8 HU8.out hle8)
        have HKP : Hid (∀ b ds, Blk wr b 110 ds → Blk w8 b 110 ds) := Lib.hid (fun b ds hb => HOX.out.blk hf (((hb.fr (Fr.of_below (F := fun _ => False) HBE.out) (fun h => h)).fr (Fr.of_below (F := fun _ => False) HZB.out) (fun h => h)).fr HFSX.out (fun e => (Blk.ne_ ((hb.fr (Fr.of_below (F := fun _ => False) HBE.out) (fun h => h)).fr (Fr.of_below (F := fun _ => False) HZB.out) (fun h => h)) HBz.out.tb (by decide)) e)) (by decide) (by decide) (by decide) (by decide) (by decide))
        have HFIN : Hid (∀ n, SBoth w p rb most last (sKeep now cs) F8 A5 c5 (w8.drewN n)) := Lib.hid (fun n => SBoth.below ⟨HO8.out, HT8.out, HR8.out, l5, m5, HBz.out.gb⟩ (below_drewN (Below.refl _ _) n))
        clear hC hf hx ho8 hr8
        go_wp2_with fail
        refine (HSM.out).mono ?_
        rintro e w9 ⟨rfl, n9, rfl⟩
        go_wp2
        go_ret
        exact ⟨rfl, _, _, F8, A5, c5, HFIN.out n9, by omega, fun b ds hb => (HKP.out b ds hb).drewN n9⟩
end Go.Proofs.Ytgfoobgkpnknmaa
