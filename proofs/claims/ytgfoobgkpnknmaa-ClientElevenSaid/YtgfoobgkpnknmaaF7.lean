/- The laws of the client: ClientEleven. -/
import Derived.Test.YtgfoobgkpnknmaaF1
import Derived.Test.YtgfoobgkpnknmaaM6
import Derived.Laws.Concat
import Derived.Deep.DeepCutAuto
import Derived.Deep.CutBlock
namespace Go.Proofs.Ytgfoobgkpnknmaa
set_option linter.unusedSimpArgs false
set_option linter.unusedVariables false
open Go.RowKit
def elC (br : ByteArray) (now : Int) (tx : ByteArray) (tm : Int) : CC := ⟨1, br, now, tm, -1, br, tx⟩
/-- ahead of the step of tick now + d -/
def ElS (br : ByteArray) (now : Int) (tx : ByteArray) (d : Nat) (cs : List CC) (s o : Int) : Prop :=
  (∃ tm : Int, 1 ≤ tm ∧ tm ≤ 11 ∧ (d : Int) ≤ cNx tm ∧ cs = [elC br now tx tm] ∧ s = tm ∧ o = 0) ∨ (320 < d ∧ cs = [] ∧ s = 11 ∧ o = 1)
theorem nx_succ {tm : Int} (h1 : 1 ≤ tm) (h2 : tm ≤ 10) : cNx tm < cNx (tm + 1) := by
  unfold cNx cum
  split <;> split <;> omega
theorem el_at (br : ByteArray) (now : Int) (tx : ByteArray) (tm : Int) : cAt (elC br now tx tm) = now + cNx tm := by
  unfold cAt; rw [if_neg (by show ¬ (0 : Int) ≤ -1; omega)]; rfl
theorem el_step {br : ByteArray} {now : Int} {tx : ByteArray} {d : Nat} {cs : List CC} {s o : Int} (h : ElS br now tx d cs s o) :
    ∃ cs' l s' o', cStep cs (now + d) = (cs', l) ∧ ElS br now tx (d + 1) cs' s' o' ∧
      ((l = [] ∧ s' = s ∧ o' = o) ∨ (l = [⟨1, false, br, tx⟩] ∧ ((d : Int) == 320) = false ∧ o = 0 ∧ s' = s + 1 ∧ o' = o) ∨ (l = [⟨1, true, ⟨#[]⟩, ⟨#[]⟩⟩] ∧ ((d : Int) == 320) = true ∧ o = 0 ∧ s' = s ∧ o' = 1)) := by
  rcases h with ⟨tm, h1, h2, h3, rfl, rfl, rfl⟩ | ⟨h1, rfl, rfl, rfl⟩
  · have ha := el_at br now tx s
    by_cases hn : (d : Int) = cNx s
    · have hnl : ¬ now + (d : Int) < cAt (elC br now tx s) := by omega
      by_cases hx : cNx s < 320
      · have ht := (nx_lt (tm := s) (by omega)).1 hx
        have hs := nx_succ h1 ht
        refine ⟨[elC br now tx (s + 1)], [⟨1, false, br, tx⟩], s + 1, 0, ?_, .inl ⟨s + 1, by omega, by omega, by omega, rfl, rfl, rfl⟩, .inr (.inl ⟨rfl, by rw [beq_eq_false_iff_ne]; omega, rfl, rfl, rfl⟩)⟩
        exact one_send hnl (by show (-1 : Int) < 0; omega) hx (by rw [show ({ elC br now tx s with tm := (elC br now tx s).tm + 1 } : CC) = elC br now tx (s + 1) from rfl, el_at]; omega)
      · have hb := nx_bd s
        have hs11 : s = 11 := by
          have := (nx_lt (tm := s) (by omega))
          omega
        refine ⟨[], [⟨1, true, ⟨#[]⟩, ⟨#[]⟩⟩], s, 1, ?_, .inr ⟨by omega, rfl, hs11, rfl⟩, .inr (.inr ⟨rfl, by rw [beq_iff_eq]; omega, rfl, rfl, rfl⟩)⟩
        exact one_over hnl (by show (-1 : Int) < 0; omega) hx
    · refine ⟨_, _, s, 0, one_stop (by omega), .inl ⟨s, h1, h2, by omega, rfl, rfl, rfl⟩, .inl ⟨rfl, rfl, rfl⟩⟩
  · exact ⟨[], [], 11, 1, nil_step _, .inr ⟨by omega, rfl, rfl, rfl⟩, .inl ⟨rfl, rfl, rfl⟩⟩
theorem respL_low {cs : List CC} {br : ByteArray} {st now : Int} (h : st < 200) : cRespL cs br st now = cs := by unfold cRespL; rw [if_neg (by omega)]
def ElRel (w : World) (p sb : Nat) (br : ByteArray) (now : Int) (tx : ByteArray) (d : Nat) (s o : Value) (wr : World) : Prop :=
  ∃ (F : Nat → Prop) (cs : List CC) (sn on : Int), Own w p 3 1 cs F wr ∧ Blk wr sb 71 #[.string br, .string tx] ∧ ElS br now tx d cs sn on ∧ s = .int .i64 sn ∧ o = .int .i64 on ∧ 0 ≤ sn ∧ sn ≤ 1000 ∧ 0 ≤ on ∧ on ≤ 1
theorem el_bd {br : ByteArray} {now : Int} {tx : ByteArray} {d : Nat} {cs : List CC} {s o : Int} (h : ElS br now tx d cs s o) : 0 ≤ s ∧ s ≤ 1000 ∧ 0 ≤ o ∧ o ≤ 1 := by
  rcases h with ⟨tm, h1, h2, h3, rfl, rfl, rfl⟩ | ⟨h1, rfl, rfl, rfl⟩ <;> omega
def pick2 (j : Nat) (a b : Int) : Int := if j = 0 then a else b
theorem pick2_0 (a b : Int) : pick2 0 a b = a := rfl
theorem pick2_1 (a b : Int) : pick2 1 a b = b := rfl
set_option maxRecDepth 100000 in
set_option maxHeartbeats 8000000 in
theorem law_celeven {w : World} {A : Option Addr} {c : Nat} {zs : List Int} (br : ByteArray) (now : Int) (tx : ByteArray) (hbr : br.size ≤ 140737488351232)
    (h : RdB w w.heap.size 1 zs.length A (zs.map fun n => .int .u8 n)) (hz : ∀ z ∈ zs, 0 ≤ z ∧ z ≤ 255) (hl : zs.length ≤ 9223372036854775807) :
    Calls Try.prog 9 #[.string br, .int .i64 now, .string tx, .slice A zs.length c] w (LawPost w) := by
  by_cases ha : now < 0 ∨ 1099511627136 < now
  · rcases ha with ha | ha
    all_goals
      go_enter Try.func9, Try.ntmps9
      go_wp2_with fail
      all_goals
        refine (cawake_any _).mono ?_
        rintro e w3 ⟨rfl, hb3⟩
        go_wp2
        go_ret
        exact ⟨rfl, hb3⟩
  · have h0 : 0 ≤ now := by omega
    have h1 : now ≤ 1099511627136 := by omega
    have S1 := Lib.hid (start_one 3 br now br tx (by omega) h0 h1)
    have HR := Lib.hid h
    have HZ := Lib.hid hz
    have hadd : ∀ W : World, (Op.stringOp .add br ⟨#[120]⟩).run Try.prog W = .ok (.string (br ++ ⟨#[120]⟩)) W := fun W => run_string_add_sum (P := Try.prog) (w := W) br ⟨#[120]⟩ (by show br.size + 1 ≤ _; omega)
    have hbr2 := Lib.hid hbr
    clear ha h hz hbr
    go_enter Try.func9, Try.ntmps9
    go_wp2_with fail
    refine (cnew_any 3 w (by omega) (by omega)).mono ?_
    rintro e w1 ⟨p, F, rfl, hC, hb1, hF⟩
    have O1 := Lib.hid (Own.below (w1 := w1.alloc (.cells #[.string br, .string tx] 71)) ⟨hC, hb1, hF⟩ ((Below.refl _ _).alloc (Nat.le_refl _) _))
    have B1 := Lib.hid (Blk.new w1 71 #[.string br, .string tx])
    clear hC hb1 hF
    go_wp2_with fail
    refine (cstart_any O1.out.cl br now br tx (by omega)).mono ?_
    rintro e w2 ⟨rfl, F2, hC, hf, hx⟩
    have O2 := O1.out.next hC hf hx
    rw [S1.out.2.2.1, S1.out.2.2.2] at O2
    rw [S1.out.2.1, S1.out.1]
    have HST : Hid (ElRel w p w1.heap.size br now tx 0 (.int .i64 1) (.int .i64 0) w2) := Lib.hid ⟨F2, _, 1, 0, O2, O1.out.blk hf B1.out (by decide) (by decide) (by decide) (by decide) (by decide), .inl ⟨1, by omega, by omega, by have := nx_bd 1; omega, rfl, rfl, rfl⟩, rfl, rfl, by omega, by omega, by omega, by omega⟩
    clear hC hf hx O2
    go_wp2
    go_loopw [13, 14, 15] (fun s o dv wr => ∃ d : Nat, d ≤ 400 ∧ dv = .int .i64 d ∧ ElRel w p w1.heap.size br now tx d s o wr) (fun _ _ dv _ => 400 - (intOf dv).toNat)
    case atStart => exact ⟨0, by omega, rfl, HST.out⟩
    case round =>
      obtain ⟨d, hd, rfl, F, cs, sn, on, hO, hB, hE, rfl, rfl, b1, b2, b3, b4⟩ := hrel
      by_cases hlt : d < 400
      · obtain ⟨cs', l, s', o', e1, e2, e3⟩ := el_step hE
        have HO := Lib.hid hO
        have HB := Lib.hid hB
        have HST := Lib.hid e1
        have HE2 := Lib.hid e2
        clear hO hB hE e1 e2
        go_wp2_with fail
        refine (cstep_any HO.out.cl (now + d)).mono ?_
        rintro e w4 ⟨v4, F4, rfl, ho4, hC, hf4, hx4⟩
        rw [HST.out] at ho4 hC
        have HO4 := Lib.hid (HO.out.next hC hf4 hx4)
        have HB4 := Lib.hid (HO.out.blk hf4 HB.out (by decide) (by decide) (by decide) (by decide) (by decide))
        obtain ⟨A4, c4, rfl, _, _, hr4⟩ := RdV.of_own ho4
        have HR4 := Lib.hid hr4
        clear ho4 hC hf4 hx4 hr4
        go_upto_block 2 with (fail)
        go_cut [13, 14] (fun s o wx => ∃ n : Nat, s = .int .i64 s' ∧ o = .int .i64 o' ∧ wx = w4.drewN n)
        case first =>
          rcases e3 with ⟨rfl, rfl, rfl⟩ | ⟨rfl, hdd, rfl, rfl, rfl⟩ | ⟨rfl, hdd, rfl, rfl, rfl⟩
          · have hlz : ([] : List DD).length = 0 := rfl
            go_wp2_with fail
            go_loopw [13, 14, 17] (fun s o iv wi => iv = .int .i64 0 ∧ s = .int .i64 s' ∧ o = .int .i64 o' ∧ ∃ n : Nat, wi = w4.drewN n) (fun _ _ iv _ => 0)
            case atStart => exact ⟨rfl, rfl, rfl, 0, rfl⟩
            case round =>
              obtain ⟨rfl, rfl, rfl, n, rfl⟩ := hrel
              go_wp2_with fail
              go_meet
              exact ⟨n, rfl, rfl, rfl⟩
          · have HDD := Lib.hid hdd
            clear hdd
            obtain ⟨wo, hwo⟩ : ∃ wo : World, wo = wr := ⟨_, rfl⟩
            have HWO := Lib.hid hwo
            clear hwo
            go_wp2_with fail
            have b0 : (0 : Int) ≤ d := by omega
            go_loopw [13, 14, 17] (fun s o iv wi => ∃ (j n : Nat), j ≤ 1 ∧ iv = .int .i64 j ∧ s = .int .i64 (pick2 j (sn) (sn + 1)) ∧ o = .int .i64 (pick2 j 0 (0)) ∧ wi = w4.drewN n) (fun _ _ iv _ => 1 - (intOf iv).toNat)
            case atStart => exact ⟨0, 0, by omega, rfl, rfl, rfl, rfl⟩
            case round =>
              obtain ⟨j, n, hj, rfl, rfl, rfl, rfl⟩ := hrel
              by_cases hj1 : j < 1
              · obtain rfl : j = 0 := by omega
                obtain ⟨gl, ol, rfl, _, hc⟩ := rd_row dcell_len HR4.out (i := 0) (by simp)
                have c0 : w4.cell? ⟨gl, ol, none⟩ = some (.int .i64 1) := by have := hc 0 (by omega); simpa [dcell] using this
                have c1 : w4.cell? ⟨gl, ol + 1, none⟩ = some (.bool false) := by have := hc 1 (by omega); simpa [dcell] using this
                have c2 : w4.cell? ⟨gl, ol + 2, none⟩ = some (.string br) := by have := hc 2 (by omega); simpa [dcell] using this
                have c3 : w4.cell? ⟨gl, ol + 3, none⟩ = some (.string tx) := by have := hc 3 (by omega); simpa [dcell] using this
                have g0 := HB4.out.cell 0
                have g1 := HB4.out.cell 1
                have hns := neq_sent br tx
                have hdd : ((d : Int) == 320) = false := HDD.out
                clear hc
                rw [pick2_0, pick2_0]
                go_wp2
                go_quiet (fail)
                go_wp2
                go_roundw
                case rel => exact ⟨1, _, by omega, by go_num, by rw [pick2_1], by rw [pick2_1], rfl⟩
                case measure => simp [intOf]
              · obtain rfl : j = 1 := by omega
                rw [pick2_1, pick2_1]
                go_wp2_with fail
                go_meet
                exact ⟨n, rfl, rfl, rfl⟩
          · have HDD := Lib.hid hdd
            clear hdd
            obtain ⟨wo, hwo⟩ : ∃ wo : World, wo = wr := ⟨_, rfl⟩
            have HWO := Lib.hid hwo
            clear hwo
            go_wp2_with fail
            have b0 : (0 : Int) ≤ d := by omega
            go_loopw [13, 14, 17] (fun s o iv wi => ∃ (j n : Nat), j ≤ 1 ∧ iv = .int .i64 j ∧ s = .int .i64 (pick2 j (s') (s')) ∧ o = .int .i64 (pick2 j 0 (1)) ∧ wi = w4.drewN n) (fun _ _ iv _ => 1 - (intOf iv).toNat)
            case atStart => exact ⟨0, 0, by omega, rfl, rfl, rfl, rfl⟩
            case round =>
              obtain ⟨j, n, hj, rfl, rfl, rfl, rfl⟩ := hrel
              by_cases hj1 : j < 1
              · obtain rfl : j = 0 := by omega
                obtain ⟨gl, ol, rfl, _, hc⟩ := rd_row dcell_len HR4.out (i := 0) (by simp)
                have c0 : w4.cell? ⟨gl, ol, none⟩ = some (.int .i64 1) := by have := hc 0 (by omega); simpa [dcell] using this
                have c1 : w4.cell? ⟨gl, ol + 1, none⟩ = some (.bool true) := by have := hc 1 (by omega); simpa [dcell] using this
                have c2 : w4.cell? ⟨gl, ol + 2, none⟩ = some (.string ⟨#[]⟩) := by have := hc 2 (by omega); simpa [dcell] using this
                have c3 : w4.cell? ⟨gl, ol + 3, none⟩ = some (.string ⟨#[]⟩) := by have := hc 3 (by omega); simpa [dcell] using this
                have g0 := HB4.out.cell 0
                have g1 := HB4.out.cell 1
                have hns := neq_sent br tx
                have hdd : ((d : Int) == 320) = true := HDD.out
                clear hc
                rw [pick2_0, pick2_0]
                go_wp2
                go_quiet (fail)
                go_wp2
                go_roundw
                case rel => exact ⟨1, _, by omega, by go_num, by rw [pick2_1], by rw [pick2_1], rfl⟩
                case measure => simp [intOf]
              · obtain rfl : j = 1 := by omega
                rw [pick2_1, pick2_1]
                go_wp2_with fail
                go_meet
                exact ⟨n, rfl, rfl, rfl⟩
        case rest =>
          obtain ⟨n, rfl, rfl, rfl⟩ := hcut
          clear e3
          have HOx := Lib.hid (HO4.out.below (below_drewN (Below.refl _ _) n))
          have HBx := Lib.hid (HB4.out.drewN n)
          generalize w4.drewN n = wx at *
          have hbd := el_bd HE2.out
          have HREL : Hid (∀ F5 w5, Own w p 3 1 cs' F5 w5 → Blk w5 w1.heap.size 71 #[.string br, .string tx] → ∃ d2 : Nat, d2 ≤ 400 ∧ Value.int .i64 ((d : Int) + 1) = .int .i64 d2 ∧ ElRel w p w1.heap.size br now tx d2 (.int .i64 s') (.int .i64 o') w5) := Lib.hid (fun F5 w5 h1 h2 => ⟨d + 1, by omega, by go_num, F5, cs', s', o', h1, h2, HE2.out, rfl, rfl, hbd.1, hbd.2.1, hbd.2.2.1, hbd.2.2.2⟩)
          have x0 : (0 : Int) ≤ d := by omega
          clear hbd
          by_cases hd2 : d < zs.length
          · obtain ⟨gb, off, rfl, hgl, hcz⟩ := (HR.out.below HOx.out.be).at_ (by omega)
            have cz := hcz d (.int .u8 (zs.getD d 0)) (by rw [List.getElem?_map]; simp [List.getD, List.getElem?_eq_getElem hd2])
            have hzi := HZ.out (zs.getD d 0) (by simp [List.getD, List.getElem?_eq_getElem hd2])
            have HCZ : Hid (∀ W, Below w.heap.size wx W → W.cell? ⟨gb, off + d, none⟩ = some (.int .u8 (zs.getD d 0))) := Lib.hid (fun W hb => (hb.cell (p := ⟨gb, off + d, none⟩) hgl).trans cz)
            generalize zs.getD d 0 = z at *
            obtain ⟨z0, z1⟩ := hzi
            have x1 : (d : Int) < zs.length := by omega
            clear hcz
            by_cases hz3 : 0 < z % 3
            · have HOW : Hid (∀ W, Below wx.heap.size wx W → Own w p 3 1 cs' F4 W) := Lib.hid (fun W hb => HOx.out.below hb)
              have HBW : Hid (∀ W, Below wx.heap.size wx W → Blk W w1.heap.size 71 #[.string br, .string tx]) := Lib.hid (fun W hb => HBx.out.fr (Fr.of_below (F := fun _ => False) hb) (fun h => h))
              have hws := HOx.out.be.size
              have HS2 : Hid (w.heap.size ≤ wx.heap.size) := Lib.hid hws
              have x4 : (0 : Int) ≤ z % 2 := by omega
              have x5 : z % 2 < 2 := by omega
              have hz2 : z % 2 = 0 ∨ z % 2 = 1 := by omega
              clear cz
              have cz := HCZ.out wx (Below.refl _ _)
              have HbA0 : Below wx.heap.size wx ((wx.alloc (.cells #[.string (br ++ ⟨#[120]⟩), .string br] 9)).drew) := ((Below.refl _ _).alloc (Nat.le_refl _) _).drew
              have HOA := Lib.hid (HOW.out _ HbA0)
              have HBA := Lib.hid (HBW.out _ HbA0)
              have HbA : Hid (Below w.heap.size wx ((wx.alloc (.cells #[.string (br ++ ⟨#[120]⟩), .string br] 9)).drew)) := Lib.hid (((Below.refl _ _).alloc HS2.out _).drew)
              clear HbA0
              have m0 : IntKind.i64.wrap z = z := IntWalk.i64_in _ (by omega)
              have m1 : z.tmod 2 = z % 2 := Int.tmod_eq_emod_of_nonneg z0
              have m2 : z.tmod 100 = z % 100 := Int.tmod_eq_emod_of_nonneg z0
              have m3 : IntKind.i64.wrap (100 + z % 100) = 100 + z % 100 := IntWalk.i64_in _ (by omega)
              have m4 : IntKind.i64.wrap (now + (d : Int)) = now + (d : Int) := IntWalk.i64_in _ (by omega)
              have m5 : z % 100 < 100 := by omega
              have M5 := Lib.hid m5
              rcases hz2 with hz2 | hz2
              all_goals
                have czA : (wx.alloc (.cells #[.string (br ++ ⟨#[120]⟩), .string br] 9)).cell? ⟨gb, off + d, none⟩ = some (.int .u8 z) := HCZ.out _ ((Below.refl _ _).alloc HS2.out _)
                go_wp2_with fail
                go_region_with ((go_at_call 40; (with_reducible refine (cresp_any HOA.out.cl _ _ _).mono ?_); rintro e w5 ⟨rfl, F5, hC5, hf5, hx5⟩))
                all_goals
                 clear cz czA
                 have hlow := M5.out
                 rw [respL_low (by first | (rw [m0, m2, m3]; omega) | (rw [m2, m3]; omega) | omega)] at hC5
                 clear hlow
                 have HX := Lib.hid (HREL.out F5 w5 (HOA.out.next hC5 hf5 hx5) (HOA.out.blk hf5 HBA.out (by decide) (by decide) (by decide) (by decide) (by decide)))
                 clear m0 m1 m2 m3 m4 hz2
                 clear hC5 hf5 hx5
                 go_wp2
                 go_roundw
                 case rel => exact HX.out
                 case measure => simp [intOf] <;> omega
            · have HX := Lib.hid (HREL.out F4 wx HOx.out HBx.out)
              go_wp2
              go_roundw
              case rel => exact HX.out
              case measure => simp [intOf] <;> omega
          · have HX := Lib.hid (HREL.out F4 wx HOx.out HBx.out)
            go_wp2
            go_roundw
            case rel => exact HX.out
            case measure => simp [intOf] <;> omega
      · obtain rfl : d = 400 := by omega
        rcases hE with ⟨tm, h1, h2, h3, _⟩ | ⟨_, rfl, rfl, rfl⟩
        · have := nx_bd tm; omega
        · have HO := Lib.hid hO
          clear hO hB
          go_wp2_with fail
          refine (clen_any HO.out.cl).mono ?_
          rintro e w3 ⟨rfl, rfl⟩
          go_wp2_with fail
          refine (cawake_any _).mono ?_
          rintro e w4 ⟨rfl, hb4⟩
          go_wp2
          go_ret
          exact LawPost.via HO.out.be ⟨rfl, hb4⟩
end Go.Proofs.Ytgfoobgkpnknmaa

