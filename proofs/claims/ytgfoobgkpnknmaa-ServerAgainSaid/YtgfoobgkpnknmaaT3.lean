/- The laws of the server: ServerFull. -/
import Derived.Test.YtgfoobgkpnknmaaT2
namespace Go.Proofs.Ytgfoobgkpnknmaa
set_option linter.unusedSimpArgs false
set_option linter.unusedVariables false
open Go.RowKit
def fb (i : Nat) : ByteArray := str [UInt8.ofNat i]
theorem run_byte {P : Program} (w : World) (src dst e : TypeId) (hs : P.underlying src = some (.slice e)) (he : P.underlying e = some (.int .u8)) (hd : P.underlying dst = some .string) (i : Nat) (hi : i < 256) :
    (convert src dst (.slice (some ⟨w.heap.size, 0, none⟩) 1 1)).run P (w.alloc (.cells #[.int .u8 (i : Int)] e)) = .ok (.string (fb i)) (w.alloc (.cells #[.int .u8 (i : Int)] e)) := by
  have hB : B (UInt8.ofNat i) = .int .u8 (i : Int) := by unfold B; simp; omega
  refine run_string_own src dst e hs he hd (base := 0) (n := 1) (l := [UInt8.ofNat i]) ⟨rfl, .inr ⟨w.heap.size, 1, #[.int .u8 (i : Int)], rfl, by omega, heap_alloc_new w _, Nat.le_refl _, by unfold maxLen; omega, by simp, ?_⟩⟩
  simp [hB]
theorem fb_inj {i j : Nat} (hi : i < 256) (hj : j < 256) (h : fb i = fb j) : i = j := by
  have h := str_inj h
  injection h with h _
  have := congrArg UInt8.toNat h
  simp at this
  omega
def KeysBelow (i : Nat) (cs : List SC) : Prop := ∀ c ∈ cs, ∃ k : Nat, k < i ∧ c.key = (⟨#[98]⟩, ⟨#[99]⟩, fb k)
theorem keys_find {i : Nat} {cs : List SC} (h : KeysBelow i cs) (hi : i < 256) : sFind (⟨#[98]⟩, ⟨#[99]⟩, fb i) cs = none := by
  refine sFind_none.2 fun c hc e => ?_
  obtain ⟨k, hk, hke⟩ := h c hc
  rw [hke] at e
  injection e with _ e
  injection e with _ e
  have := fb_inj (by omega) hi e
  omega
theorem keys_keep {i : Nat} {cs : List SC} (h : KeysBelow i cs) (now : Int) : KeysBelow i (sKeep now cs) := fun c hc => h c (List.mem_filter.1 hc).1
theorem keys_up {i : Nat} {cs : List SC} (h : KeysBelow i cs) : KeysBelow (i + 1) cs := fun c hc => by
  obtain ⟨k, hk, e⟩ := h c hc
  exact ⟨k, by omega, e⟩
theorem keys_new {i : Nat} {cs : List SC} (h : KeysBelow i cs) (last now : Int) : KeysBelow (i + 1) (cs ++ [sNew last (⟨#[98]⟩, ⟨#[99]⟩, fb i) now]) := fun c hc => by
  rcases List.mem_append.1 hc with q | q
  · exact keys_up h c q
  · rw [List.mem_singleton.1 q]
    exact ⟨i, by omega, rfl⟩
theorem keep_gone (now : Int) (cs : List SC) : (sGone now cs).length + (sKeep now cs).length = cs.length := by
  unfold sGone sKeep
  rw [List.length_map]
  induction cs with
  | nil => rfl
  | cons c r ih =>
    by_cases h : c.over ≤ now
    · rw [List.filter_cons_of_pos (by simpa using h), List.filter_cons_of_neg (by simp; omega)]
      simp only [List.length_cons]
      omega
    · rw [List.filter_cons_of_neg (by simpa using h), List.filter_cons_of_pos (by simp; omega)]
      simp only [List.length_cons]
      omega
def FuRel (w : World) (p : Nat) (most : Int) (i : Nat) (lv : Value) (wr : World) : Prop :=
  ∃ (last : Int) (cs : List SC) (F : Nat → Prop), lv = .int .i64 cs.length ∧ SOwn w p most last cs F wr ∧ last ≤ i ∧ KeysBelow i cs
theorem FuRel.step {w wr : World} {p : Nat} {most last : Int} {cs : List SC} {F : Nat → Prop} {i : Nat} (h : SOwn w p most last cs F wr) (h1 : last ≤ i) (h2 : KeysBelow i cs) : FuRel w p most i (.int .i64 cs.length) wr := ⟨last, cs, F, rfl, h, h1, h2⟩
set_option maxRecDepth 100000 in
set_option maxHeartbeats 8000000 in
theorem law_sfull (most : Int) (n step : Nat) (hn : n < 256) (hs : step < 256) (w : World) :
    Calls Try.prog 14 #[.int .i64 most, .int .u8 n, .int .u8 step] w (LawPost w) := by
  by_cases ha : most < 1 ∨ 200 < most
  · have HN := Lib.hid (snew_no most w ha)
    clear ha
    go_enter Try.func14, Try.ntmps14
    go_wp2_with fail
    refine (HN.out).mono ?_
    rintro e w1 ⟨rfl, rfl⟩
    go_wp2_with fail
    refine (sawake_any _).mono ?_
    rintro e w3 ⟨rfl, hb3⟩
    go_wp2
    go_ret
    exact ⟨rfl, hb3⟩
  · have h1 : 1 ≤ most := by omega
    have h2 : most ≤ 200 := by omega
    clear ha
    go_enter Try.func14, Try.ntmps14
    go_wp2_with fail
    refine (snew_any most w h1 h2).mono ?_
    rintro e w1 ⟨p, F, rfl, hC, hb1, hF⟩
    have HST : Hid (FuRel w p most 0 (.int .i64 0) w1) := Lib.hid ⟨0, [], F, rfl, ⟨hC, hb1, hF⟩, Int.le_refl _, fun c hc => by cases hc⟩
    clear hC hb1 hF
    go_wp2
    go_loopw [9, 10] (fun lv iv wr => ∃ i : Nat, i ≤ n ∧ iv = .int .i64 i ∧ FuRel w p most i lv wr) (fun _ iv _ => n - (intOf iv).toNat)
    case atStart => exact ⟨0, by omega, rfl, HST.out⟩
    case round =>
      obtain ⟨i, hi, rfl, last, cs, F, rfl, hO, hlast, hK⟩ := hrel
      obtain ⟨hP, hla0, _⟩ := sv_p hO.sv
      by_cases hlt : i < n
      · have hi256 : i < 256 := by omega
        obtain ⟨nw, hnw⟩ : ∃ nw : Int, (i : Int) * ((step : Int) % 60) = nw := ⟨_, rfl⟩
        have hw0 : 0 ≤ nw := by rw [← hnw]; exact Int.mul_nonneg (by omega) (by omega)
        have hw1 : nw ≤ 20000 := by
          rw [← hnw]
          have : (i : Int) * ((step : Int) % 60) ≤ 255 * 60 := Int.mul_le_mul (by omega) (by omega) (by omega) (by omega)
          omega
        have x1 : (i : Int) < n := by omega
        have hwi : IntKind.u8.wrap (i : Int) = i := by rw [IntKind.wrap_u8]; omega
        have hst : (step : Int) % 60 < 60 := by omega
        have hst0 : 0 ≤ (step : Int) % 60 := by omega
        have HKG := Lib.hid (keep_gone nw cs)
        have HKK := Lib.hid (keys_keep hK nw)
        have hcl : cs.length ≤ 200 := by have := hP.len; omega
        have HO := Lib.hid hO
        have HPP := Lib.hid (hP.keep nw)
        have hlast2 : Hid (last ≤ i) := Lib.hid hlast
        clear hP hK hO
        go_wp2_with fail
        refine (sexpire_any HO.out.sv nw).mono ?_
        rintro e w2 ⟨v2, F2, rfl, ho, hC, hf, hx⟩
        have O2 := Lib.hid (HO.out.next hC hf (fun k hk => .inl (hx k hk)))
        obtain ⟨A2, q2, rfl, _, _, hr2⟩ := RdV.of_own ho
        clear ho hC hf hx hr2
        obtain ⟨L1, hL1⟩ : ∃ L1, sKeep nw cs = L1 := ⟨_, rfl⟩
        rw [hL1] at O2 HKG HKK HPP
        clear hL1
        have hkg := HKG.out
        have hgl : (sGone nw cs).length ≤ 200 := by omega
        have hsub : (cs.length : Int) - (sGone nw cs).length = L1.length := by omega
        have hl1 : L1.length ≤ 200 := by omega
        clear hkg
        have hlm := HPP.out.len
        have hcv := run_byte (P := Try.prog) w2 66 9 5 Try.underlying66 Try.underlying5 Try.underlying9 i hi256
        have O3 := Lib.hid (O2.out.below ((Below.refl _ _).alloc (Nat.le_refl _) (.cells #[.int .u8 (i : Int)] 5)))
        have hfi := keys_find HKK.out hi256
        by_cases hf : most ≤ (L1.length : Int)
        · have hE := sE_full (most := most) (cs := L1) (k := (⟨#[98]⟩, ⟨#[99]⟩, fb i)) (now := nw) (by omega) hfi hf
          obtain ⟨s1, s2, s3⟩ := sst_no (last := last) hE (by omega)
          have HS := Lib.hid (And.intro hE (And.intro s1 (And.intro s2 s3)))
          have z1 : decide ((L1.length : Int) < most) = false := decide_eq_false (by omega)
          have z2 : decide (most < (L1.length : Int)) = false := decide_eq_false (by omega)
          clear hE s1 s2 s3 hfi hf
          go_wp2_with fail
          refine (sstart_any O3.out.sv ⟨#[98]⟩ ⟨#[99]⟩ (fb i) nw (by have := hlast2.out; omega)).mono ?_
          rintro e w4 ⟨rfl, F4, hC, hf4, hx⟩
          have O4 := O3.out.next hC hf4 hx
          rw [HS.out.2.2.1, HS.out.2.2.2] at O4
          rw [HS.out.1, HS.out.2.1]
          have O4 := Lib.hid O4
          clear hC hf4 hx hcv
          go_wp2_with fail
          refine (slen_any O4.out.sv).mono ?_
          rintro e w5 ⟨rfl, rfl⟩
          have HX := Lib.hid (FuRel.step (i := i + 1) O4.out (by have := hlast2.out; omega) (keys_up HKK.out))
          go_wp2
          go_roundw
          case rel => exact ⟨i + 1, by omega, by go_num, HX.out⟩
          case measure => simp [intOf] <;> omega
        · have hE := sE_ok (most := most) (cs := L1) (k := (⟨#[98]⟩, ⟨#[99]⟩, fb i)) (now := nw) (by omega) hfi hf
          obtain ⟨s1, s2, s3⟩ := sst_ok (last := last) hE
          have HS := Lib.hid (And.intro hE (And.intro s1 (And.intro s2 s3)))
          have z1 : decide ((L1.length : Int) < most) = true := decide_eq_true (by omega)
          have z2 : decide (most < (L1.length : Int) + 1) = false := decide_eq_false (by omega)
          have hf' : (L1.length : Int) < most := by omega
          clear hE s1 s2 s3 hfi hf
          go_wp2_with fail
          refine (sstart_any O3.out.sv ⟨#[98]⟩ ⟨#[99]⟩ (fb i) nw (by have := hlast2.out; omega)).mono ?_
          rintro e w4 ⟨rfl, F4, hC, hf4, hx⟩
          have O4 := O3.out.next hC hf4 hx
          rw [HS.out.2.2.1, HS.out.2.2.2] at O4
          rw [HS.out.1, HS.out.2.1]
          have O4 := Lib.hid O4
          clear hC hf4 hx hcv
          go_wp2_with fail
          refine (slen_any O4.out.sv).mono ?_
          rintro e w5 ⟨rfl, rfl⟩
          have hle : ((L1 ++ [sNew last (⟨#[98]⟩, ⟨#[99]⟩, fb i) nw]).length : Int) = (L1.length : Int) + 1 := by simp
          have HX := FuRel.step (i := i + 1) O4.out (by have := hlast2.out; omega) (keys_new HKK.out last nw)
          rw [hle] at HX ⊢
          have HX := Lib.hid HX
          clear hle
          go_wp2
          go_roundw
          case rel => exact ⟨i + 1, by omega, by go_num, HX.out⟩
          case measure => simp [intOf] <;> omega
      · have HO := Lib.hid hO
        clear hO hP hK
        go_wp2_with fail
        refine (sawake_any _).mono ?_
        rintro e w8 ⟨rfl, hb8⟩
        go_wp2
        go_ret
        exact LawPost.via HO.out.be ⟨rfl, hb8⟩
end Go.Proofs.Ytgfoobgkpnknmaa
