/- Chapter 20: PolicyPlays. -/
import Derived.Test.YtpnchfigehgkgaaGreatDoorGp
import Derived.Deep.RegionHeld3
namespace Go.Proofs.YtpnchfigehgkgaaGreatDoor
set_option linter.unusedSimpArgs false
set_option linter.unusedVariables false
open Go.RowKit
theorem rsetL_len (l : List Rule) (r : Rule) : (rSetRL l r).length ≤ l.length + 1 := by
  have := rest_le l r
  unfold rSetRL
  split
  · omega
  · split
    · omega
    · split
      · omega
      · have h := (ins_perm_ (restR l r) r).length_eq
        rw [h, List.length_cons]; omega
def PlRel (w : World) (p : Nat) (F : Nat → Prop) (k : Nat) (v : Value) (wr : World) : Prop :=
  ∃ kv ll, Tb wr p kv F ∧ RdV wr 28 3 ll.length v (rows ruleC ll) ∧ Stands kv ll ∧ ll.length ≤ k ∧ Below w.heap.size w wr
theorem plays_asks {w7 : World} {p : Nat} {K : KV} {F : Nat → Prop} {d : List Rule} {a : T} {r : Rule} {A7 : Option Addr} (hT : Tb w7 p K F) (hV : Rd w7 28 3 d.length A7 (rows ruleC d)) (hS : Stands K d) (hl : d.length ≤ 1000000) (ha : a.length ≤ 99999990) (hr : RuleS r) (c7 : Nat) (b : T) :
    (∀ W, Below w7.heap.size w7 W → Calls Tryz.prog 11 #[.pointer (some ⟨p, 0, none⟩), .string (str a), .string (str b)] W (fun e w' => e = .returned (.int .i64 (askV K a b)) ∧ Below W.heap.size W w')) ∧
    (∀ W, Below w7.heap.size w7 W → Calls Tryz.prog 12 #[.slice A7 d.length c7, .string (str a), .string (str b)] W (fun e w' => e = .returned (.int .i64 (askV K a b)) ∧ Below W.heap.size W w')) ∧
    (∀ W, Below w7.heap.size w7 W → Calls Tryz.prog 11 #[.pointer (some ⟨p, 0, none⟩), .string (str r.who), .string (str r.watcher)] W (fun e w' => e = .returned (.int .i64 (askV K r.who r.watcher)) ∧ Below W.heap.size W w')) ∧
    (∀ W, Below w7.heap.size w7 W → Calls Tryz.prog 12 #[.slice A7 d.length c7, .string (str r.who), .string (str r.watcher)] W (fun e w' => e = .returned (.int .i64 (askV K r.who r.watcher)) ∧ Below W.heap.size W w')) := by
  refine ⟨fun W h => pask_any ha (hT.below h), fun W h => ?_, fun W h => pask_any hr.who (hT.below h), fun W h => ?_⟩
  · rw [hS.ask a b]
    exact rask20_any (hV.below h) hl ha
  · rw [hS.ask r.who r.watcher]
    exact rask20_any (hV.below h) hl hr.who
set_option maxRecDepth 100000 in
set_option maxHeartbeats 16000000 in
theorem policyPlays_any {l : List Rule} {a b : T} {A : Option Addr} {c : Nat} {w : World} (hr : RdB w w.heap.size 3 l.length A (rows ruleC l)) (hl : l.length ≤ maxLen) (hs : ∀ r ∈ l, RuleS r) (ha : a.length ≤ 99999990) :
    Calls Tryz.prog 3 #[.slice A l.length c, .string (str a), .string (str b)] w (TruePost w) := by
  have HA := Lib.hid awake20
  have HR := Lib.hid hr
  have HS := Lib.hid hs
  have HNW := Lib.hid (pnew_any w)
  have HLA := Lib.hid ha
  unfold maxLen at hl
  clear hr hs ha
  go_enter Tryz.func3, Tryz.ntmps3
  go_wp2_with fail
  refine (HNW.out).mono ?_
  rintro e w1 ⟨p, F, rfl, hT, hb, hF⟩
  have HF := Lib.hid hF
  have H0 : Hid (PlRel w p F 0 (.slice none 0 0) w1) := Lib.hid ⟨[], [], hT, RdV.nil _ _ _, Stands.nil, Nat.le_refl _, hb⟩
  clear hT hb hF
  go_wp2
  go_loopw [8, 9] (fun v i wr => ∃ k : Nat, k ≤ l.length ∧ k ≤ 60 ∧ i = .int .i64 k ∧ PlRel w p F k v wr) (fun _ i _ => 60 - (intOf i).toNat)
  case atStart => exact ⟨0, Nat.zero_le _, by omega, rfl, H0.out⟩
  case round =>
    obtain ⟨k, hk, hk6, rfl, kv, ll, hT, hV, hSt, hlen, hB⟩ := hrel
    have HB := Lib.hid hB
    by_cases hc : k < l.length ∧ k < 60
    · obtain ⟨hlt, h60⟩ := hc
      obtain ⟨gb, off, hA, hgb, _, _, _⟩ := rul_at HR.out hlt
      subst hA
      have HZ : Hid (∀ W, Below w.heap.size w W → W.cell? ⟨gb, off + k * 3, none⟩ = some (.string (str l[k].who)) ∧ W.cell? ⟨gb, off + k * 3 + 1, none⟩ = some (.string (str l[k].watcher)) ∧ W.cell? ⟨gb, off + k * 3 + 2, none⟩ = some (.int .i64 l[k].what)) := Lib.hid (fun W hW => by
        obtain ⟨gb', off', e, _, z0, z1, z2⟩ := rul_at (HR.out.below hW) hlt
        injection e with e
        injection e with e1 e2
        subst e1; subst e2
        exact ⟨z0, z1, z2⟩)
      have HRS := Lib.hid (HS.out l[k] (List.getElem_mem hlt))
      obtain ⟨Av, cv, rfl, hcv1, hcv2, hrd⟩ := hV
      have HSET1 := Lib.hid (rset20_any HRS.out hrd (by omega) hcv1 hcv2 (r := l[k]))
      have hst := hSt.set l[k]
      have HST2 := Lib.hid hst.1
      have HEQ := Lib.hid hst.2
      have HLN : Hid ((rSetRL ll l[k]).length ≤ k + 1) := Lib.hid (by have := rsetL_len ll l[k]; omega)
      have HT := Lib.hid hT
      have x0 : (0 : Int) ≤ k := by omega
      have x1 : (k : Int) < l.length := by omega
      have x2 : (k : Int) < 60 := by omega
      have h61 : k ≤ 60 := by omega
      clear hT hSt hB hst hrd
      generalize l[k] = r at *
      obtain ⟨z0, z1, z2⟩ := HZ.out wr HB.out
      unfold RSet20Post at HSET1
      rw [← HEQ.out] at HSET1
      go_wp2_with fail
      refine (HSET1.out).mono ?_
      rintro e w2 ⟨v2, rfl, hv2, hb2⟩
      have HX : Hid (Below w.heap.size w w2.drew) := Lib.hid (thenB HB.out hb2).drew
      have HT2 := Lib.hid ((HT.out.below hb2).below ((Below.refl _ _).drew))
      obtain ⟨A7, c7, rfl, hc71, hc72, hr2⟩ := hv2
      have HC71 := Lib.hid hc71
      have HC72 := Lib.hid hc72
      have HV2 : Hid (Rd w2.drew 28 3 (rSetRL ll r).length A7 (rows ruleC (rSetRL ll r))) := Lib.hid (hr2.drewN 1)
      have HSET2 := Lib.hid (pset_any HRS.out HT2.out)
      unfold PSetPost at HSET2
      have HC1 := Lib.hid (fun W => pcheck_any HRS.out W)
      have HC2 := Lib.hid (fun W => rcheck20_any HRS.out W)
      unfold IntPost at HC1 HC2
      clear hb2 hr2 hc71 hc72 z0 z1 z2 HSET1 HEQ HT
      generalize setE kv r = E at *
      generalize setL kv r = K at *
      generalize rSetRL ll r = L2 at *
      generalize chkR r = C at *
      go_wp2_with fail
      simp only [List.append_eq, List.cons_append, List.nil_append]
      go_region_held3 (fun w' => w'.cell? ⟨gb, off + k * 3, none⟩ = some (.string (str r.who)) ∧ w'.cell? ⟨gb, off + k * 3 + 1, none⟩ = some (.string (str r.watcher)) ∧ w'.cell? ⟨gb, off + k * 3 + 2, none⟩ = some (.int .i64 r.what))
        (first | exact HZ.out _ HX.out)
        (first | (go_at_call 6; (with_reducible refine (HSET2.out).mono ?_); rintro e w3 ⟨rfl, hT3, hf3⟩; have HT3 := Lib.hid hT3; have HV3 := Lib.hid (HV2.out.fr hf3 (fun gb cs fr h => HT2.out.notT h (by decide))); have HX := Lib.hid (HX.out.trans (hf3.to_below HX.out.size HF.out)); clear hT3 hf3) | (go_at_call 7; (with_reducible refine (HC1.out _).mono ?_); rintro e w4 ⟨rfl, hb4⟩; have HX4 := Lib.hid hb4; have HX := Lib.hid (thenB HX.out hb4); clear hb4) | (go_at_call 8; (with_reducible refine (HC2.out _).mono ?_); rintro e w5 ⟨rfl, hb5⟩; have HX5 := Lib.hid (thenB HX4.out hb5); have HT5 := Lib.hid (HT3.out.below HX5.out); have HV5 := Lib.hid (HV3.out.below HX5.out); have HALL := Lib.hid (pall_any HT5.out); have HX := Lib.hid (thenB HX.out hb5); clear hb5) | (go_at_call 10; (with_reducible refine (HALL.out).mono ?_); rintro e w6 ⟨v6, d, rfl, ho6, hp6, hs6, hb6⟩; obtain rfl := HST2.out.sorted hp6 hs6; have HX := Lib.hid (thenB HX.out hb6); have HT6 := Lib.hid (HT5.out.below hb6); have HV6 := Lib.hid (HV5.out.below hb6); obtain ⟨A6, c6, rfl, _, _, hr6⟩ := RdV.of_own ho6; have HSM := Lib.hid (rsame20_any (c1 := c6) (c2 := c7) hr6 HV6.out (by have := HLN.out; omega)); have HLD : Hid (d.length ≤ 1000000) := Lib.hid (by have := HLN.out; omega); clear ho6 hp6 hs6 hb6 hr6) | (go_at_call 9; (with_reducible refine (HSM.out).mono ?_); rintro e w7 ⟨rfl, n7, h7⟩; have hB7 : Below w6.heap.size w6 w7 := h7 ▸ below_drewN (Below.refl _ _) n7; have HX := Lib.hid (thenB HX.out hB7); have HT7 := Lib.hid (HT6.out.below hB7); have HV7 := Lib.hid (HV6.out.below hB7); have HX8 : Hid (Below w7.heap.size w7 w7) := Lib.hid (Below.refl _ _); have HA := Lib.hid (plays_asks HT7.out HV7.out HST2.out HLD.out HLA.out HRS.out c7 b); clear hB7 h7) | (go_at_call 11; first | ((with_reducible refine (HA.out.1 _ HX8.out).mono ?_); rintro e wn ⟨rfl, hbn⟩; have HX8 := Lib.hid (thenB HX8.out hbn); have HX := Lib.hid (thenB HX.out hbn); clear hbn) | ((with_reducible refine (HA.out.2.2.1 _ HX8.out).mono ?_); rintro e wn ⟨rfl, hbn⟩; have HX8 := Lib.hid (thenB HX8.out hbn); have HX := Lib.hid (thenB HX.out hbn); clear hbn)) | (go_at_call 12; first | ((with_reducible refine (HA.out.2.1 _ HX8.out).mono ?_); rintro e wn ⟨rfl, hbn⟩; have HX8 := Lib.hid (thenB HX8.out hbn); have HX := Lib.hid (thenB HX.out hbn); clear hbn) | ((with_reducible refine (HA.out.2.2.2 _ HX8.out).mono ?_); rintro e wn ⟨rfl, hbn⟩; have HX8 := Lib.hid (thenB HX8.out hbn); have HX := Lib.hid (thenB HX.out hbn); clear hbn)))
      all_goals
        have HEND : Hid (PlRel w p F (k + 1) (.slice A7 d.length c7) _) := Lib.hid ⟨K, d, HT7.out.below HX8.out, ⟨A7, c7, rfl, HC71.out, HC72.out, HV7.out.below HX8.out⟩, HST2.out, HLN.out, HX.out⟩
        go_wp2
        go_roundw
        case rel => exact ⟨k + 1, by omega, by omega, by go_num, HEND.out⟩
        case measure => simp [intOf] <;> omega
    · have hg : ¬ (k : Int) < l.length ∨ ((k : Int) < l.length ∧ ¬ (k : Int) < 60) := by omega
      clear hT hV hSt hlen hB hc
      rcases hg with hg | ⟨hg1, hg2⟩
      · go_wp2_with fail
        refine (HA.out _).mono ?_
        rintro e w1 ⟨rfl, hb⟩
        have HX := Lib.hid (thenB HB.out hb)
        clear hb
        go_wp2
        go_ret
        exact ⟨rfl, HX.out⟩
      · go_wp2_with fail
        refine (HA.out _).mono ?_
        rintro e w1 ⟨rfl, hb⟩
        have HX := Lib.hid (thenB HB.out hb)
        clear hb
        go_wp2
        go_ret
        exact ⟨rfl, HX.out⟩
end Go.Proofs.YtpnchfigehgkgaaGreatDoor
