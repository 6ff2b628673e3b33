/- The laws of the server: ServerAgain. -/
import Derived.Test.YtgfoobgkpnknmaaT3
namespace Go.Proofs.Ytgfoobgkpnknmaa
set_option linter.unusedSimpArgs false
set_option linter.unusedVariables false
open Go.RowKit
def toldC (k : SK) (now : Int) (to bs : ByteArray) : SC := ⟨1, k, now + 320, true, to, bs⟩
theorem ag_0 (k : SK) {now : Int} (h0 : 0 ≤ now) (h1 : now ≤ 1099511627456) : sStartE 200 [] k now = 0 := by
  refine sE_ok (by omega) rfl (by simp)
theorem ag_ans (k : SK) (now : Int) (to bs : ByteArray) : sAnsE [sNew 0 k now] 1 = 0 ∧ sAnsL 1 to bs [sNew 0 k now] = [toldC k now to bs] := by
  have h : sAnsE [sNew 0 k now] 1 = 0 := by unfold sAnsE sPlace sNew; simp
  refine ⟨h, ?_⟩
  unfold sAnsL
  rw [if_pos h]
  unfold sTell sNew toldC
  simp
structure AgP (k : SK) (now : Int) (to bs : ByteArray) (cs : List SC) (last : Int) (i : Nat) : Prop where
  hd : ∃ r, cs = toldC k now to bs :: r ∧ ∀ c ∈ r, c.key ≠ k
  ov : ∀ c ∈ cs, c.over = now + 320
  la : last ≤ 1 + i
theorem AgP.start {k : SK} {now : Int} {to bs : ByteArray} {cs : List SC} {last : Int} {i : Nat} (H : AgP k now to bs cs last i) {k2 : SK} (hk : k2 ≠ k) :
    AgP k now to bs (sStartL 200 last cs k2 now) (sStartN 200 last cs k2 now) (i + 1) := by
  obtain ⟨r, hr, hn⟩ := H.hd
  have hla := H.la
  unfold sStartL sStartN
  split
  · refine ⟨⟨r ++ [sNew last k2 now], by rw [hr]; rfl, fun c hc => ?_⟩, fun c hc => ?_, by omega⟩
    · rcases List.mem_append.1 hc with q | q
      · exact hn c q
      · rw [List.mem_singleton.1 q]; exact hk
    · rcases List.mem_append.1 hc with q | q
      · exact H.ov c q
      · rw [List.mem_singleton.1 q]; rfl
  · exact ⟨H.hd, H.ov, by omega⟩
theorem AgP.stay {k : SK} {now later : Int} {to bs : ByteArray} {cs : List SC} {last : Int} {i : Nat} (H : AgP k now to bs cs last i) (h : later - now < 320) :
    sKeep later cs = cs ∧ sGone later cs = [] ∧ sFind k cs = some 1 ∧ sCached 1 cs = some (to, bs) := by
  obtain ⟨r, hr, hn⟩ := H.hd
  refine ⟨List.filter_eq_self.2 fun c hc => by have := H.ov c hc; simp; omega, ?_, ?_, ?_⟩
  · unfold sGone
    rw [List.filter_eq_nil_iff.2 fun c hc => by have := H.ov c hc; simp; omega]
    rfl
  · rw [hr]; unfold sFind toldC; simp
  · rw [hr]; unfold sCached sPlace toldC; simp
theorem AgP.go {k : SK} {now later : Int} {to bs : ByteArray} {cs : List SC} {last : Int} {i : Nat} (H : AgP k now to bs cs last i) (h : ¬ later - now < 320) :
    sKeep later cs = [] ∧ ∃ g, sGone later cs = 1 :: g := by
  obtain ⟨r, hr, hn⟩ := H.hd
  refine ⟨List.filter_eq_nil_iff.2 fun c hc => by have := H.ov c hc; simp; omega, ?_⟩
  unfold sGone
  rw [List.filter_eq_self.2 fun c hc => by have := H.ov c hc; simp; omega, hr]
  exact ⟨_, rfl⟩
theorem seql_sent (a b : ByteArray) (W : World) : (binOp .eql 71 (.agg #[.string a, .string b]) (.agg #[.string a, .string b])).run Try.prog W = .ok (.bool true) W := by
  simp [go_sem]
def AgRel (w : World) (p : Nat) (k : SK) (now : Int) (to bs : ByteArray) (i : Nat) (wr : World) : Prop :=
  ∃ (last : Int) (cs : List SC) (F : Nat → Prop), SOwn w p 200 last cs F wr ∧ AgP k now to bs cs last i
set_option maxRecDepth 100000 in
set_option maxHeartbeats 8000000 in
theorem law_sagain (br by_ me : ByteArray) (now later : Int) (tx : ByteArray) (ot : Nat) (hot : ot < 256) (hbr : br.size ≤ 140737488351232) (hlm : later ≤ 9223372036854775807) (w : World) :
    Calls Try.prog 18 #[.string br, .string by_, .string me, .int .i64 now, .int .i64 later, .string tx, .int .u8 ot] w (LawPost w) := by
  by_cases ha : now < 0 ∨ 1099511627456 < now ∨ later < now
  · by_cases a1 : now < 0 <;> by_cases a2 : 1099511627456 < now <;> by_cases a3 : later < now
    all_goals first | (exfalso; omega) | skip
    all_goals
      clear ha
      go_enter Try.func18, Try.ntmps18
      go_wp2_with fail
      refine (sawake_any _).mono ?_
      rintro e w3 ⟨rfl, hb3⟩
      go_wp2
      go_ret
      exact ⟨rfl, hb3⟩
  · have h0 : 0 ≤ now := by omega
    have h1 : now ≤ 1099511627456 := by omega
    have h2 : now ≤ later := by omega
    have S1 := Lib.hid (sst_ok (last := 0) (ag_0 (br, by_, me) h0 h1))
    have E1 := Lib.hid (ag_0 (br, by_, me) h0 h1)
    have AN := Lib.hid (ag_ans (br, by_, me) now by_ tx)
    obtain ⟨bx, hadd, hne⟩ : ∃ bx : ByteArray, (∀ W : World, (Op.stringOp .add br ⟨#[120]⟩).run Try.prog W = .ok (.string bx) W) ∧ ∀ me2 : ByteArray, ((bx, by_, me2) : SK) ≠ (br, by_, me) := by
      refine ⟨br ++ ⟨#[120]⟩, fun W => run_string_add_sum (P := Try.prog) (w := W) br ⟨#[120]⟩ (by show br.size + 1 ≤ _; omega), fun me2 e => ?_⟩
      have e := congrArg (fun x : SK => x.1.size) e
      have h3 : (br ++ (⟨#[120]⟩ : ByteArray)).size = br.size + 1 := ByteArray.size_append
      simp only [h3] at e
      omega
    have HNE := Lib.hid hne
    clear hne
    obtain ⟨d, hd⟩ : ∃ d : Nat, ot % 50 = d := ⟨_, rfl⟩
    have hd5 : d < 50 := by omega
    have hdi : ((ot : Int) % 50) = (d : Int) := by omega
    clear ha hd hbr
    go_enter Try.func18, Try.ntmps18
    go_wp2_with fail
    refine (snew_any 200 w (by omega) (by omega)).mono ?_
    rintro e w1 ⟨p, F, rfl, hC, hb1, hF⟩
    have O1 := Lib.hid (SOwn.mk hC hb1 hF)
    clear hC hb1 hF
    go_wp2_with fail
    refine (sstart_any O1.out.sv br by_ me now (by omega)).mono ?_
    rintro e w2 ⟨rfl, F2, hC, hf, hx⟩
    have O2 := O1.out.next hC hf hx
    rw [S1.out.2.1, S1.out.2.2] at O2
    rw [S1.out.1, E1.out]
    have O2 : Hid (SOwn w p 200 1 [sNew 0 (br, by_, me) now] F2 w2) := Lib.hid O2
    clear hC hf hx
    go_wp2_with fail
    refine (sanswer_any O2.out.sv 1 by_ tx).mono ?_
    rintro e w3 ⟨rfl, hC, hf⟩
    rw [AN.out.2] at hC
    rw [AN.out.1]
    have HST : Hid (AgRel w p (br, by_, me) now by_ tx 0 w3) := Lib.hid ⟨1, _, F2, O2.out.next hC hf (fun k h => .inl h), ⟨⟨[], rfl, fun c hc => by cases hc⟩, fun c hc => by rw [List.mem_singleton.1 hc]; rfl, by omega⟩⟩
    clear hC hf
    go_wp2
    go_loopw [18] (fun iv wr => ∃ i : Nat, i ≤ d ∧ iv = .int .i64 i ∧ AgRel w p (br, by_, me) now by_ tx i wr) (fun iv _ => d - (intOf iv).toNat)
    case atStart => exact ⟨0, by omega, rfl, HST.out⟩
    case round =>
      obtain ⟨i, hi, rfl, last, cs, F3, hO, hA⟩ := hrel
      by_cases hlt : i < d
      · have hi256 : i < 256 := by omega
        have x1 : (i : Int) < d := by omega
        have hwi : IntKind.u8.wrap (i : Int) = i := by rw [IntKind.wrap_u8]; omega
        have hcv := run_byte (P := Try.prog) wr 66 9 5 Try.underlying66 Try.underlying5 Try.underlying9 i hi256
        have O3 := Lib.hid (hO.below ((Below.refl _ _).alloc (Nat.le_refl _) (.cells #[.int .u8 (i : Int)] 5)))
        have HA := Lib.hid hA
        have HLA : Hid (last ≤ 1000000000) := Lib.hid (by have := hA.la; omega)
        clear hO hA
        go_wp2_with fail
        refine (sstart_any O3.out.sv bx by_ (fb i) now HLA.out).mono ?_
        rintro e w4 ⟨rfl, F4, hC, hf4, hx⟩
        have HX : Hid (AgRel w p (br, by_, me) now by_ tx (i + 1) w4) := Lib.hid ⟨_, _, F4, O3.out.next hC hf4 hx, HA.out.start (HNE.out (fb i))⟩
        clear hC hf4 hx hcv
        go_wp2
        go_roundw
        case rel => exact ⟨i + 1, by omega, by go_num, HX.out⟩
        case measure => simp [intOf] <;> omega
      · have HO := Lib.hid hO
        by_cases hr : later - now < 320
        · obtain ⟨k1, k2, k3, k4⟩ := hA.stay hr
          have HK := Lib.hid (And.intro k1 k2)
          have HF := Lib.hid k3
          have HCA := Lib.hid k4
          have heq := seql_sent by_ tx
          clear hO hA k1 k2 k3 k4
          go_wp2_with fail
          refine (sexpire_any HO.out.sv later).mono ?_
          rintro e w5 ⟨v5, F5, rfl, ho, hC, hf, hx⟩
          rw [HK.out.1] at hC
          rw [HK.out.2] at ho
          have O5 := Lib.hid (HO.out.next hC hf (fun k hk => .inl (hx k hk)))
          obtain ⟨A5, q5, rfl, _, _, hr5⟩ := RdV.of_own ho
          clear ho hC hf hx hr5
          go_wp2_with fail
          refine (sfind_any O5.out.sv br by_ me).mono ?_
          rintro e w6 ⟨rfl, rfl⟩
          rw [HF.out]
          go_wp2_with fail
          refine (scached_any O5.out.sv 1).mono ?_
          rintro e w6 ⟨rfl, hb6⟩
          rw [HCA.out]
          have O6 := Lib.hid (O5.out.below hb6)
          have O7 := Lib.hid (O6.out.below ((Below.refl _ _).alloc (Nat.le_refl _) (.cells #[.string by_, .string tx] 71)))
          clear hb6
          go_wp2_with fail
          refine (sawake_any _).mono ?_
          rintro e w8 ⟨rfl, hb8⟩
          go_wp2
          go_ret
          exact LawPost.via O7.out.be ⟨rfl, hb8⟩
        · obtain ⟨k1, g, k2⟩ := hA.go hr
          have HK := Lib.hid (And.intro k1 k2)
          clear hO hA k1 k2
          go_wp2_with fail
          refine (sexpire_any HO.out.sv later).mono ?_
          rintro e w5 ⟨v5, F5, rfl, ho, hC, hf, hx⟩
          rw [HK.out.1] at hC
          rw [HK.out.2] at ho
          have O5 := Lib.hid (HO.out.next hC hf (fun k hk => .inl (hx k hk)))
          obtain ⟨A5, q5, rfl, _, _, hr5⟩ := RdV.of_own ho
          obtain ⟨gb, off, rfl, hgb, hc5⟩ := hr5.at_ (by simp)
          have B5 : Hid (w5.cell? ⟨gb, off, none⟩ = some (.int .i64 1)) := Lib.hid (hc5 0 _ rfl)
          clear ho hC hf hx hr5 hc5
          go_wp2_with fail
          refine (sfind_any O5.out.sv br by_ me).mono ?_
          rintro e w6 ⟨rfl, rfl⟩
          rw [show sFind (br, by_, me) ([] : List SC) = none from rfl]
          go_wp2_with fail
          refine (scached_any O5.out.sv 1).mono ?_
          rintro e w6 ⟨rfl, hb6⟩
          rw [show sCached 1 ([] : List SC) = none from rfl]
          have O6 := Lib.hid (O5.out.below hb6)
          have O7 := Lib.hid (O6.out.below ((Below.refl _ _).alloc (Nat.le_refl _) (.cells #[.string ⟨#[]⟩, .string ⟨#[]⟩] 71)))
          have B7 : (w6.alloc (.cells #[.string ⟨#[]⟩, .string ⟨#[]⟩] 71)).cell? ⟨gb, off, none⟩ = some (.int .i64 1) := by
            rw [World.cell?_alloc_lt _ _ _ (by have := hb6.size; show gb < _; omega)]
            exact (hb6.cell (p := ⟨gb, off, none⟩) hgb).trans B5.out
          have hgl : ((1 :: g).length : Int) = (g.length : Int) + 1 := by simp
          have z1 : (0 : Int) < (g.length : Int) + 1 := by omega
          have HL := Lib.hid (slen_any O7.out.sv)
          clear hb6
          go_wp2_with fail
          refine (HL.out).mono ?_
          rintro e w8 ⟨rfl, rfl⟩
          go_wp2_with fail
          refine (sawake_any _).mono ?_
          rintro e w8 ⟨rfl, hb8⟩
          go_wp2
          go_ret
          exact LawPost.via O7.out.be ⟨rfl, hb8⟩
end Go.Proofs.Ytgfoobgkpnknmaa
