/- The laws of the server: ServerPlays. -/
import Derived.Test.YtgfoobgkpnknmaaP1
import Derived.Test.YtgfoobgkpnknmaaS9
import Derived.Deep.RegionWith
import Derived.Deep.RegionHeld3
import Derived.Deep.DeepCutAuto
import Derived.Deep.LoopGhost
namespace Go.Proofs.Ytgfoobgkpnknmaa
set_option linter.unusedSimpArgs false
set_option linter.unusedVariables false
open Go.RowKit
def SPlRel (w : World) (p rb : Nat) (most : Int) (j : Nat) (wr : World) : Prop :=
  ∃ (last : Int) (cs : List SC) (F : Nat → Prop) (A : Option Addr) (c : Nat), SBoth w p rb most last cs F A c wr ∧ last ≤ j
/-- behind a call of both: the tables, and the act's own block -/
def SPlMid (w : World) (p rb ab : Nat) (most : Int) (j : Nat) (ds : Array Value) (wx : World) : Prop :=
  ∃ (last : Int) (cs : List SC) (F : Nat → Prop) (A : Option Addr) (c : Nat), SBoth w p rb most last cs F A c wx ∧ last ≤ j + 1 ∧ Blk wx ab 110 ds
def SPlSent (w : World) (s1 s2 : ByteArray) (v : Value) (wx : World) : Prop := ∃ sb, v = .pointer (some ⟨sb, 0, none⟩) ∧ wx.cell? ⟨sb, 0, none⟩ = some (.string s1) ∧ wx.cell? ⟨sb, 1, none⟩ = some (.string s2) ∧ Below w.heap.size w wx
set_option maxRecDepth 100000 in
set_option maxHeartbeats 8000000 in
theorem law_splays {w : World} {n c0 : Nat} {A0 : Option Addr} (most : Int) (h : RowSA w w.heap.size n A0) (hl : n ≤ 9223372036854775807) :
    Calls Try.prog 17 #[.int .i64 most, .slice A0 n c0] w (LawPost w) := by
  by_cases ha : most < 1 ∨ 200 < most
  · have HN := Lib.hid (snew_no most w ha)
    rcases ha with ha | ha
    all_goals
      go_enter Try.func17, Try.ntmps17
      go_wp2_with fail
      refine (HN.out).mono ?_
      rintro e w1 ⟨rfl, rfl⟩
      go_wp2_with fail
      refine (sawake_any _).mono ?_
      rintro e w3 ⟨rfl, hb3⟩
      go_wp2
      go_ret
      exact ⟨rfl, hb3⟩
  · have h1 : 1 ≤ most := by omega
    have h2 : most ≤ 200 := by omega
    have HR := Lib.hid h
    clear ha h
    go_enter Try.func17, Try.ntmps17
    go_wp2_with fail
    refine (snew_any most w h1 h2).mono ?_
    rintro e w1 ⟨p, F, rfl, hC, hb1, hF⟩
    have HST : Hid (SPlRel w p w1.heap.size most 0 (w1.alloc (.cells #[.int .i64 most, .int .i64 0, .slice none 0 0] 117))) := Lib.hid
      ⟨0, [], F, none, 0, ⟨SOwn.below ⟨hC, hb1, hF⟩ ((Below.refl _ _).alloc (Nat.le_refl _) _), Blk.new _ _ _, Rd.nil _ _ _ _, Nat.le_refl _, by unfold maxLen; omega, hb1.size⟩, Int.le_refl _⟩
    clear hC hb1 hF
    go_wp2
    obtain ⟨rb, hrb⟩ : ∃ rb, rb = w1.heap.size := ⟨_, rfl⟩
    rw [← hrb] at HST ⊢
    clear hrb
    go_loopg [8] 60 (fun k i wr => ∃ j : Nat, j ≤ n ∧ j + k = 60 ∧ i = .int .i64 j ∧ SPlRel w p rb most j wr)
    case atStart => exact ⟨0, by omega, by omega, rfl, HST.out⟩
    case round =>
      obtain ⟨j, hj, hjk, rfl, last, cs, F, A, c, hB, hlast⟩ := hrel
      have hj5 : j ≤ 60 := by omega
      by_cases hlt : j < n ∧ j < 60
      · obtain ⟨hlt1, hlt2⟩ := hlt
        obtain ⟨gb, off, rfl, hgb, hc⟩ := (HR.out.below hB.own.be) (by omega)
        obtain ⟨kd, br, by_, me, id, now, tx, c0, c1, c2, c3, c4, c5, c6⟩ := hc j hlt1
        have hal : Below wr.heap.size wr ((wr.alloc (.cells #[.int .i64 kd, .string br, .string by_, .string me, .int .i64 id, .int .i64 now, .string tx] 110)).drewN 1) := below_drewN ((Below.refl _ _).alloc (Nat.le_refl _) _) 1
        have HD := Lib.hid (sdoes_any (hB.below hal) (by omega) kd br by_ me id now tx)
        have HAC := Lib.hid ((Blk.new wr 110 #[.int .i64 kd, .string br, .string by_, .string me, .int .i64 id, .int .i64 now, .string tx]).drewN 1)
        have x0 : (0 : Int) ≤ j := by omega
        have x1 : (j : Int) < n := by omega
        clear hc hB hal
        obtain ⟨ab, hab⟩ : ∃ ab, wr.heap.size = ab := ⟨_, rfl⟩
        go_wp2_with fail
        go_cut [75] (fun cc wx => cc = .bool false ∧ SPlMid w p rb ab most j #[.int .i64 kd, .string br, .string by_, .string me, .int .i64 id, .int .i64 now, .string tx] wx)
        case first =>
          go_region_with ((first | (go_at_call 52; (refine (HD.out).mono ?_); rintro e w7 ⟨rfl, last7, cs7, F7, A7, c7, hB7, hl7, hk7⟩; have k2 := hB7.tb.cell 2; have HMID : Hid (SPlMid w p rb ab most j #[.int .i64 kd, .string br, .string by_, .string me, .int .i64 id, .int .i64 now, .string tx] w7 ∧ ∀ n, SPlMid w p rb ab most j #[.int .i64 kd, .string br, .string by_, .string me, .int .i64 id, .int .i64 now, .string tx] (w7.drewN n)) := Lib.hid ⟨⟨last7, cs7, F7, A7, c7, hB7, by omega, hab ▸ hk7 _ _ HAC.out⟩, fun n => ⟨last7, cs7, F7, A7, c7, hB7.below (below_drewN (Below.refl _ _) n), by omega, hab ▸ hk7 _ _ HAC.out⟩⟩; have HLN := Lib.hid (slen_any hB7.own.sv); clear hB7 hk7) | (go_at_call 50; (refine (HLN.out).mono ?_); rintro e w8 ⟨rfl, rfl⟩)))
          all_goals
            go_wp2_with fail
            go_meet
            first | exact ⟨rfl, HMID.out.1⟩ | exact ⟨rfl, HMID.out.2 _⟩ | exact ⟨rfl, HMID.out.2 1⟩
        case rest =>
          obtain ⟨rfl, last7, cs7, F7, A7, c7, hB7, hl7, hA7⟩ := hcut
          obtain ⟨w7, hw7⟩ : ∃ w7, w7 = wc := ⟨_, rfl⟩
          subst hw7
          obtain ⟨hids, hlen7, _⟩ := hB7.own.sv.okk
          have HB7 := Lib.hid hB7
          have HA7 := Lib.hid hA7
          have HL7 := Lib.hid hl7
          have a1 := hA7.cell 1
          have a2 := hA7.cell 2
          have a3 := hA7.cell 3
          have HSS : Hid (∀ W', Below w7.heap.size w7 W' → W'.cell? ⟨rb, 0, none⟩ = some (.int .i64 most) ∧ W'.cell? ⟨rb, 1, none⟩ = some (.int .i64 last7) ∧ W'.cell? ⟨rb, 2, none⟩ = some (.slice A7 cs7.length c7) ∧ W'.cell? ⟨ab, 1, none⟩ = some (.string br) ∧ W'.cell? ⟨ab, 2, none⟩ = some (.string by_) ∧ W'.cell? ⟨ab, 3, none⟩ = some (.string me)) := Lib.hid (fun W' hb => by
            have f := Fr.of_below (F := fun _ => False) hb
            have q1 := hB7.tb.fr f (fun h => h)
            have q2 := hA7.fr f (fun h => h)
            exact ⟨q1.cell 0, q1.cell 1, q1.cell 2, q2.cell 1, q2.cell 2, q2.cell 3⟩)
          have HS6 : Hid (∀ W', Below w7.heap.size w7 W' → W'.cell? ⟨rb, 0, none⟩ = some (.int .i64 most) ∧ W'.cell? ⟨rb, 1, none⟩ = some (.int .i64 last7) ∧ W'.cell? ⟨rb, 2, none⟩ = some (.slice A7 cs7.length c7) ∧ W'.cell? ⟨ab, 4, none⟩ = some (.int .i64 id)) := Lib.hid (fun W' hb => by
            have f := Fr.of_below (F := fun _ => False) hb
            have q1 := hB7.tb.fr f (fun h => h)
            have q2 := hA7.fr f (fun h => h)
            exact ⟨q1.cell 0, q1.cell 1, q1.cell 2, q2.cell 4⟩)
          have HF := Lib.hid (sfind_any hB7.own.sv br by_ me)
          have HRF := Lib.hid (rfind_any (c := c7) (hB7.rd.drewN 1) (by omega) most last7 br by_ me)
          have HCA := Lib.hid (fun w' (hb : Below w7.heap.size w7 w') => scached_any (hB7.own.sv.below hb) id)
          have HRC := Lib.hid (fun w' (hb : Below w7.heap.size w7 w') => rcached_any (c := c7) (hB7.rd.below hb) (by omega) most last7 id)
          have HEND : Hid (∀ w', Below w7.heap.size w7 w' → SPlRel w p rb most (j + 1) w') := Lib.hid (fun w' hb => ⟨last7, cs7, F7, A7, c7, hB7.below hb, HL7.out⟩)
          obtain ⟨fd, hfd⟩ : ∃ fd, sFind (br, by_, me) cs7 = fd := ⟨_, rfl⟩
          have HFD := Lib.hid hfd
          obtain ⟨s1, s2, sb, hsc⟩ : ∃ s1 s2 sb, ∀ w0 e w', SCachPost w0 cs7 id e w' → e = .returned (.tuple #[.agg #[.string s1, .string s2], .bool sb]) ∧ Below w0.heap.size w0 w' := ⟨_, _, _, fun w0 e w' h => h⟩
          have HSC := Lib.hid hsc
          have t0 := hB7.tb.cell 0
          have t1 := hB7.tb.cell 1
          have t2 := hB7.tb.cell 2
          clear hB7 hA7 hl7 hids hfd hsc hlen7
          go_wp2_with fail
          refine (HF.out).mono ?_
          rintro e w8 ⟨rfl, rfl⟩
          rw [HFD.out]
          go_wp2_with fail
          go_cut [12, 13] (fun a b wx => a = .int .i64 (fd.getD 0) ∧ b = .bool fd.isSome ∧ Below w7.heap.size w7 wx)
          case first =>
            clear t0 t1 t2 a1 a2 a3
            go_region_held3 (fun w' => w'.cell? ⟨rb, 0, none⟩ = some (.int .i64 most) ∧ w'.cell? ⟨rb, 1, none⟩ = some (.int .i64 last7) ∧ w'.cell? ⟨rb, 2, none⟩ = some (.slice A7 cs7.length c7) ∧ w'.cell? ⟨ab, 1, none⟩ = some (.string br) ∧ w'.cell? ⟨ab, 2, none⟩ = some (.string by_) ∧ w'.cell? ⟨ab, 3, none⟩ = some (.string me))
              ((refine HSS.out _ ?_; (first | exact Below.refl _ _ | exact (Below.refl _ _).drew | exact HB9.out)))
              (first | (go_at_call 53; (refine (HRF.out).mono ?_); rintro e w9 ⟨rfl, hb9⟩; rw [HFD.out]; have HB9 := Lib.hid (show Below w7.heap.size w7 w9 from (Below.refl _ _).drew.trans hb9); clear hb9))
            all_goals
              go_wp2_with fail
              go_meet
              exact ⟨rfl, rfl, HB9.out⟩
          case rest =>
            obtain ⟨rfl, rfl, hb9⟩ := hcut
            obtain ⟨w9, hw9⟩ : ∃ w9, w9 = wc := ⟨_, rfl⟩
            subst hw9
            have a4 := (HS6.out w9 hb9).2.2.2
            have HB9 := Lib.hid hb9
            clear hb9 t0 t1 t2 a1 a2 a3
            go_wp2_with fail
            refine (HCA.out w9 HB9.out).mono ?_
            rintro e w10 hp
            obtain ⟨rfl, hb10⟩ := HSC.out _ _ _ hp
            have HB10 := Lib.hid (HB9.out.trans (hb10.mono HB9.out.size))
            clear hp hb10 a4
            go_wp2_with fail
            have hbs := Blk.new w10 71 #[.string s1, .string s2]
            have hb11 : Below w7.heap.size w7 (w10.alloc (.cells #[.string s1, .string s2] 71)) := HB10.out.alloc HB10.out.size _
            obtain ⟨g1, hg1⟩ : ∃ g1, w10.heap.size = g1 := ⟨_, rfl⟩
            obtain ⟨w11, hw11⟩ : ∃ w11, w10.alloc (.cells #[.string s1, .string s2] 71) = w11 := ⟨_, rfl⟩
            rw [hw11]
            rw [hw11] at hbs hb11
            rw [hg1] at hbs ⊢
            have HBS := Lib.hid hbs
            have HB11 := Lib.hid hb11
            clear hw11 hg1 hbs hb11
            have HR1 := Lib.hid (HRC.out w11.drew HB11.out.drew)
            have HR2 := Lib.hid (HRC.out (w11.alloc (.cells #[.string ⟨#[]⟩, .string ⟨#[]⟩] 71)).drew (HB11.out.alloc HB11.out.size _).drew)
            go_cut [16, 17] (fun v b wx => b = .bool sb ∧ SPlSent w11 s1 s2 v wx)
            case first =>
              go_region_held3 (fun w' => w'.cell? ⟨rb, 0, none⟩ = some (.int .i64 most) ∧ w'.cell? ⟨rb, 1, none⟩ = some (.int .i64 last7) ∧ w'.cell? ⟨rb, 2, none⟩ = some (.slice A7 cs7.length c7) ∧ w'.cell? ⟨ab, 4, none⟩ = some (.int .i64 id))
                ((refine HS6.out _ ?_; (first | exact HB11.out | exact HB11.out.drew | exact (HB11.out.alloc HB11.out.size _) | exact (HB11.out.alloc HB11.out.size _).drew | exact HBC.out | exact HBC.out.alloc (by have := HBC.out.size; omega) _ | exact (HBC.out.setCell (by have := HB11.out.size; omega) _) | exact ((HBC.out.setCell (by have := HB11.out.size; omega) _).setCell (by have := HB11.out.size; omega) _))))
                (first | (go_at_call 55; (refine (HR1.out).mono ?_); rintro e w12 hp; obtain ⟨rfl, hb12⟩ := HSC.out _ _ _ hp; have HB12 := Lib.hid (show Below w11.heap.size w11 w12 from (Below.refl _ _).drew.trans hb12); have HBC := Lib.hid (HB11.out.trans (HB12.out.mono HB11.out.size)); clear hp hb12) | (go_at_call 55; (refine (HR2.out).mono ?_); rintro e w12 hp; obtain ⟨rfl, hb12⟩ := HSC.out _ _ _ hp; have HB12 := Lib.hid (show Below w11.heap.size w11 w12 from ((Below.refl _ _).alloc (Nat.le_refl _) _).drew.trans (hb12.mono (sz1 _ _))); have HBC := Lib.hid (HB11.out.trans (HB12.out.mono HB11.out.size)); have hz := ((Blk.new w11 71 #[.string ⟨#[]⟩, .string ⟨#[]⟩]).drewN 1).fr (Fr.of_below (F := fun _ => False) hb12) (fun h => h); have HZ := Lib.hid hz; have z0 := hz.cell 0; have z1 := hz.cell 1; have z2 := hz.frozen 0; have z3 := hz.frozen 1; clear hp hb12 hz))
              all_goals
                go_wp2_with fail
                go_meet
                first
                | exact ⟨rfl, _, rfl, (Blk.new w12 71 #[.string s1, .string s2]).cell 0, (Blk.new w12 71 #[.string s1, .string s2]).cell 1, HB12.out.alloc HB12.out.size _⟩
                | exact ⟨rfl, _, rfl, ((HZ.out.set_ 0 (.string s1)).set_ 1 (.string s2)).cell 0, ((HZ.out.set_ 0 (.string s1)).set_ 1 (.string s2)).cell 1, (HB12.out.setCell (Nat.le_refl _) _).setCell (Nat.le_refl _) _⟩
            case rest =>
              obtain ⟨rfl, g2, rfl, d0, d1, hb12⟩ := hcut
              obtain ⟨w13, hw13⟩ : ∃ w13, w13 = wc := ⟨_, rfl⟩
              subst hw13
              have hbs2 := HBS.out.fr (Fr.of_below (F := fun _ => False) hb12) (fun h => h)
              have e0 := hbs2.cell 0
              have e1 := hbs2.cell 1
              have hns := sneq_sent s1 s2
              have HX := Lib.hid (HEND.out w13 (HB11.out.trans (hb12.mono HB11.out.size)))
              clear hb12 hbs2
              go_wp2
              go_roundg (59 - j)
              case measure => omega
              case rel => exact ⟨j + 1, by omega, by omega, by go_num, HX.out⟩
      · have hlt2 : n ≤ j ∨ 60 ≤ j := by omega
        have HB := Lib.hid hB
        clear hlt hB
        rcases hlt2 with hlt | hlt
        all_goals
          go_wp2_with fail
          all_goals
            refine (sawake_any _).mono ?_
            rintro e w8 ⟨rfl, hb8⟩
            go_wp2
            go_ret
            exact LawPost.via HB.out.own.be ⟨rfl, hb8⟩
end Go.Proofs.Ytgfoobgkpnknmaa
