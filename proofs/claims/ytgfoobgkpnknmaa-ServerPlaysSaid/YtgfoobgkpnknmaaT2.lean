/- The laws of the server: ServerRises. -/
import Derived.Test.YtgfoobgkpnknmaaS8
import Derived.Test.YtgfoobgkpnknmaaS9
namespace Go.Proofs.Ytgfoobgkpnknmaa
set_option linter.unusedSimpArgs false
set_option linter.unusedVariables false
open Go.RowKit
theorem sv_p {w : World} {p : Nat} {most last : Int} {cs : List SC} {F : Nat → Prop} (H : Sv w p most last cs F) : SvP most last cs ∧ 0 ≤ last ∧ most ≤ 200 := by
  obtain ⟨xs, l, bn, bc, pw, kn, kc, FW, rfl, _, P⟩ := H
  exact ⟨P.p, P.last, P.most⟩
theorem startE_vals (most : Int) (cs : List SC) (k : SK) (now : Int) : sStartE most cs k now = 0 ∨ sStartE most cs k now = 1 ∨ sStartE most cs k now = 5 ∨ sStartE most cs k now = 7 := by
  unfold sStartE
  split
  · exact .inr (.inl rfl)
  · split
    · exact .inr (.inr (.inr rfl))
    · split
      · exact .inr (.inr (.inl rfl))
      · exact .inl rfl
theorem gone_at {most last : Int} {cs : List SC} (H : SvP most last cs) (now : Int) : (∀ x ∈ sGone now cs, x ≤ last) ∧ (sGone now cs).length ≤ cs.length := by
  refine ⟨fun x hx => ?_, ?_⟩
  · obtain ⟨c, hc, rfl⟩ := List.mem_map.1 hx
    exact (H.low c (List.mem_filter.1 hc).1).2
  · unfold sGone
    rw [List.length_map]
    exact List.length_filter_le _ _
def RiRel (w : World) (p : Nat) (most : Int) (j : Nat) (la : Value) (wr : World) : Prop :=
  ∃ (last : Int) (cs : List SC) (F : Nat → Prop), la = .int .i64 last ∧ SOwn w p most last cs F wr ∧ last ≤ j
set_option maxRecDepth 100000 in
set_option maxHeartbeats 8000000 in
theorem law_srises {w : World} {n c0 : Nat} {A0 : Option Addr} (m : Nat) (hm : m < 256) (h : RowSA w w.heap.size n A0) (hl : n ≤ 9223372036854775807) :
    Calls Try.prog 15 #[.int .u8 m, .slice A0 n c0] w (LawPost w) := by
  obtain ⟨most, hmost⟩ : ∃ most : Int, 1 + (m : Int) % 9 = most := ⟨_, rfl⟩
  have h1 : 1 ≤ most := by omega
  have h2 : most ≤ 200 := by omega
  have HM := Lib.hid hmost
  have HR := Lib.hid h
  clear hmost h
  go_enter Try.func15, Try.ntmps15
  go_wp2_with fail
  rw [HM.out]
  refine (snew_any most w h1 h2).mono ?_
  rintro e w1 ⟨p, F, rfl, hC, hb1, hF⟩
  have HST : Hid (RiRel w p most 0 (.int .i64 0) w1) := Lib.hid ⟨0, [], F, rfl, ⟨hC, hb1, hF⟩, Int.le_refl _⟩
  clear hC hb1 hF
  go_wp2
  go_loopw [7, 8] (fun la i wr => ∃ j : Nat, j ≤ n ∧ j ≤ 60 ∧ i = .int .i64 j ∧ RiRel w p most j la wr) (fun _ i _ => 60 - (intOf i).toNat)
  case atStart => exact ⟨0, by omega, by omega, rfl, HST.out⟩
  case round =>
    obtain ⟨j, hj, hj5, rfl, last, cs, F, rfl, hO, hlast⟩ := hrel
    obtain ⟨hP, hla0, _⟩ := sv_p hO.sv
    by_cases hlt : j < n ∧ j < 60
    · obtain ⟨hlt1, hlt2⟩ := hlt
      obtain ⟨gb, off, rfl, hgb, hc⟩ := (HR.out.below hO.be) (by omega)
      obtain ⟨kd, br, by_, me, id, now, tx, c0, c1, c2, c3, c4, c5, c6⟩ := hc j hlt1
      have hal : Below wr.heap.size wr (wr.alloc (.cells #[.int .i64 kd, .string br, .string by_, .string me, .int .i64 id, .int .i64 now, .string tx] 110)) := (Below.refl _ _).alloc (Nat.le_refl _) _
      have O1 := Lib.hid (hO.below hal)
      have x0 : (0 : Int) ≤ j := by omega
      have x1 : (j : Int) < n := by omega
      have hpl : cs.length ≤ 200 := by have := hP.len; omega
      clear hc hO hal
      by_cases hk : kd = 2
      · subst hk
        have HG := Lib.hid (gone_at hP now)
        have HRI := Lib.hid (rises_gone hP.ids now)
        clear hP
        go_wp2_with fail
        refine (sexpire_any O1.out.sv now).mono ?_
        rintro e w2 ⟨v2, F2, rfl, ho, hC, hf, hx⟩
        have O2 := Lib.hid (O1.out.next hC hf (fun k hk => .inl (hx k hk)))
        obtain ⟨A2, q2, rfl, _, _, hr2⟩ := RdV.of_own ho
        have R2 := Lib.hid hr2
        have hgl : (sGone now cs).length ≤ 200 := by have := HG.out.2; omega
        clear ho hC hf hx hr2 c0 c1 c2 c3 c4 c5 c6
        obtain ⟨G, hG⟩ : ∃ G, sGone now cs = G := ⟨_, rfl⟩
        rw [hG] at HG HRI R2 hgl
        rw [hG]
        clear hG
        go_wp2
        go_loopw [11] (fun iv wi => ∃ k : Nat, k ≤ G.length ∧ iv = .int .i64 k ∧ ∃ nn, wi = w2.drewN nn) (fun iv _ => G.length - (intOf iv).toNat)
        case atStart => exact ⟨0, by omega, rfl, 0, rfl⟩
        case round =>
          obtain ⟨k, hk, rfl, nn, rfl⟩ := hrel
          by_cases hkl : k < G.length
          · obtain ⟨gb2, off2, rfl, _, hc2⟩ := R2.out.at_ (by omega)
            have e0 : w2.cell? ⟨gb2, off2 + k, none⟩ = some (.int .i64 G[k]) := hc2 k _ (by rw [List.getElem?_map, List.getElem?_eq_getElem hkl]; rfl)
            have y0 : (0 : Int) ≤ k := by omega
            have y1 : (k : Int) < G.length := by omega
            have z1 : decide (last < G[k]) = false := decide_eq_false (by have := HG.out.1 _ (List.getElem_mem hkl); omega)
            by_cases hk0 : k = 0
            · have z2 : decide (0 < k) = false := decide_eq_false (by omega)
              have HK := Lib.hid hk0
              clear hc2 hk0
              generalize G[k] = g at *
              go_wp2
              go_quiet (fail)
              go_wp2
              go_roundw
              case rel => exact ⟨k + 1, by omega, by go_num, _, rfl⟩
              case measure => simp [intOf] <;> omega
            · have z2 : decide (0 < k) = true := decide_eq_true (by omega)
              have e1 : w2.cell? ⟨gb2, off2 + (k - 1), none⟩ = some (.int .i64 G[k - 1]) := hc2 (k - 1) _ (by rw [List.getElem?_map, List.getElem?_eq_getElem (by omega)]; rfl)
              have z3 : decide (G[k] ≤ G[k - 1]) = false := decide_eq_false (by have := List.pairwise_iff_getElem.1 HRI.out (k - 1) k (by omega) hkl (by omega); omega)
              have s1 : IntKind.i64.wrap ((k : Int) - 1) = (k : Int) - 1 := IntWalk.i64_in _ (by omega)
              have s2 : (0 : Int) ≤ (k : Int) - 1 := by omega
              have s3 : (k : Int) - 1 < G.length := by omega
              have s4 : ((k : Int) - 1).toNat = k - 1 := by omega
              clear hc2 hk0
              generalize G[k] = g at *
              generalize G[k - 1] = g' at *
              go_wp2
              go_quiet (fail)
              clear s4
              go_wp2
              go_roundw
              case rel => exact ⟨k + 1, by omega, by go_num, _, rfl⟩
              case measure => simp [intOf] <;> omega
          · have HX := Lib.hid (show ∃ j2 : Nat, j2 ≤ n ∧ j2 ≤ 60 ∧ Value.int .i64 ((j : Int) + 1) = .int .i64 j2 ∧ RiRel w p most j2 (.int .i64 last) _ from ⟨j + 1, by omega, by omega, by go_num, last, sKeep now cs, F2, rfl, O2.out.below (below_drewN (Below.refl _ _) nn), by omega⟩)
            go_wp2
            go_roundw
            case rel => exact HX.out
            case measure => simp [intOf] <;> omega
      · have hkb : ((kd : Int) == 2) = false := beq_eq_false_iff_ne.2 hk
        clear hk hP
        go_wp2_with fail
        refine (sstart_any O1.out.sv br by_ me now (by omega)).mono ?_
        rintro e w2 ⟨rfl, F2, hC, hf, hx⟩
        have O2 := O1.out.next hC hf hx
        rcases startE_vals most cs (br, by_, me) now with hE | hE
        · obtain ⟨q1, q2, q3⟩ := sst_ok (last := last) hE
          rw [q2, q3] at O2
          rw [q1, hE]
          have O2 := Lib.hid O2
          have hwl : IntKind.i64.wrap (last + 1) = last + 1 := IntWalk.i64_in _ (by omega)
          have HX := Lib.hid (show ∃ j2 : Nat, j2 ≤ n ∧ j2 ≤ 60 ∧ Value.int .i64 ((j : Int) + 1) = .int .i64 j2 ∧ RiRel w p most j2 (.int .i64 (last + 1)) w2 from ⟨j + 1, by omega, by omega, by go_num, _, _, F2, rfl, O2.out, by omega⟩)
          clear hC hf hx hE q1 q2 q3 c0 c1 c2 c3 c4 c5 c6
          go_wp2
          go_roundw
          case rel => exact HX.out
          case measure => simp [intOf] <;> omega
        · obtain ⟨er, her, hne⟩ : ∃ er, sStartE most cs (br, by_, me) now = er ∧ er ≠ 0 := ⟨_, rfl, by omega⟩
          obtain ⟨q1, q2, q3⟩ := sst_no (last := last) her hne
          rw [q2, q3] at O2
          rw [q1, her]
          have O2 := Lib.hid O2
          have hneb : ((er : Int) == 0) = false := beq_eq_false_iff_ne.2 hne
          have HX := Lib.hid (show ∃ j2 : Nat, j2 ≤ n ∧ j2 ≤ 60 ∧ Value.int .i64 ((j : Int) + 1) = .int .i64 j2 ∧ RiRel w p most j2 (.int .i64 last) w2 from ⟨j + 1, by omega, by omega, by go_num, _, _, F2, rfl, O2.out, by omega⟩)
          clear hC hf hx hE her hne q1 q2 q3 c0 c1 c2 c3 c4 c5 c6
          go_wp2
          go_roundw
          case rel => exact HX.out
          case measure => simp [intOf] <;> omega
    · have hlt2 : n ≤ j ∨ 60 ≤ j := by omega
      have HO := Lib.hid hO
      clear hlt hO hP
      rcases hlt2 with hlt | hlt
      all_goals
        go_wp2_with fail
        all_goals
          refine (sawake_any _).mono ?_
          rintro e w8 ⟨rfl, hb8⟩
          go_wp2
          go_ret
          exact LawPost.via HO.out.be ⟨rfl, hb8⟩
end Go.Proofs.Ytgfoobgkpnknmaa
