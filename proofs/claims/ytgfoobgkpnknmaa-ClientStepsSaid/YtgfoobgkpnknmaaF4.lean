/- The laws of the client: ClientSteps: the plain law, and filled. -/
import Derived.Test.YtgfoobgkpnknmaaE2
import Derived.Test.YtgfoobgkpnknmaaK4
namespace Go.Proofs.Ytgfoobgkpnknmaa
set_option linter.unusedSimpArgs false
set_option linter.unusedVariables false
open Go.RowKit
def CQ (cs : List CC) : Prop := ∀ c ∈ cs, 1 ≤ c.tm ∧ c.tm ≤ 11
theorem cq_after {cs : List CC} {k : Nat} {c : CC} (h : CQ cs) (hk : cs[k]? = some c) : CQ (cAfter cs k c) := by
  have hc := h c (List.mem_of_getElem? hk)
  unfold cAfter
  split
  · rename_i hn
    intro d hd
    rcases List.mem_or_eq_of_mem_set hd with q | q
    · exact h d q
    · have := (nx_lt (tm := c.tm) (by omega)).1 hn.2
      subst q; exact ⟨by show 1 ≤ c.tm + 1; omega, by show c.tm + 1 ≤ 11; omega⟩
  · exact fun d hd => h d ((List.eraseIdx_sublist _ _).subset hd)
theorem ms_after {cs : List CC} {k : Nat} {c : CC} (h : CQ cs) (hk : cs[k]? = some c) : cMs (cAfter cs k c) < cMs cs := by
  have he := h c (List.mem_of_getElem? hk)
  have hlt := (List.getElem?_eq_some_iff.1 hk).1
  have h0 := ((at_perm cs k c hk).map cW).sum_nat
  have hs := ((set_perm cs k { c with tm := c.tm + 1 } hlt).map cW).sum_nat
  simp only [List.map_cons, List.sum_cons] at h0 hs
  unfold cMs cAfter
  split
  · rename_i h
    have hn := (nx_lt (tm := c.tm) (by omega)).1 h.2
    have hw1 : cW c = (13 - c.tm).toNat := if_pos h.1
    have hw2 : cW { c with tm := c.tm + 1 } = (13 - (c.tm + 1)).toNat := if_pos h.1
    omega
  · have hw : 1 ≤ cW c := by unfold cW; split <;> omega
    omega
theorem run_acc : ∀ (n : Nat) (cs : List CC) (now : Int) (a o : List DD), cRun n cs now (a ++ o) = ((cRun n cs now o).1, a ++ (cRun n cs now o).2)
  | 0, _, _, _, _ => rfl
  | n + 1, cs, now, a, o => by
    cases hT : cTop cs with
    | none => rw [run_none hT, run_none hT]
    | some kc =>
      obtain ⟨k, c⟩ := kc
      by_cases hn : now < cAt c
      · rw [run_stop hT hn, run_stop hT hn]
      · rw [run_go hT hn, run_go hT hn, List.append_assoc, run_acc n]
theorem run_fuel : ∀ (n m : Nat) (cs : List CC) (now : Int) (o : List DD), CQ cs → cMs cs ≤ n → cMs cs ≤ m → cRun n cs now o = cRun m cs now o
  | n, m, cs, now, o, hq, h1, h2 => by
    cases hT : cTop cs with
    | none => rw [run_none hT, run_none hT]
    | some kc =>
      obtain ⟨k, c⟩ := kc
      by_cases hn : now < cAt c
      · rw [run_stop hT hn, run_stop hT hn]
      · have hk := (top_spec hT).at_
        have hlt := ms_after hq hk
        match n, m with
        | 0, _ => omega
        | _ + 1, 0 => omega
        | n + 1, m + 1 =>
          rw [run_go hT hn, run_go hT hn]
          exact run_fuel n m _ now _ (cq_after hq hk) (by omega) (by omega)
theorem run_two : ∀ (n k m : Nat) (cs : List CC) (f s : Int), CQ cs → cMs cs ≤ n → cMs cs ≤ k → cMs cs ≤ m → f ≤ s →
    cRun m cs s [] = ((cRun k (cRun n cs f []).1 s []).1, (cRun n cs f []).2 ++ (cRun k (cRun n cs f []).1 s []).2)
  | n, k, m, cs, f, s, hq, h1, h2, h3, hfs => by
    cases hT : cTop cs with
    | none => rw [run_none (n := n) hT, run_none (n := k) hT, run_none (n := m) hT]; rfl
    | some jc =>
      obtain ⟨j, c⟩ := jc
      by_cases hn : f < cAt c
      · rw [run_stop (n := n) hT hn]
        rw [run_fuel m k cs s [] hq h3 h2]; rfl
      · have hj := (top_spec hT).at_
        have hlt := ms_after hq hj
        have hn2 : ¬ s < cAt c := by omega
        match n, m with
        | 0, _ => omega
        | _ + 1, 0 => omega
        | n + 1, m + 1 =>
          rw [run_go (n := n) hT hn, run_go (n := m) hT hn2, List.nil_append]
          have e1 := run_acc n (cAfter cs j c) f (cDue c) []
          have e2 := run_acc m (cAfter cs j c) s (cDue c) []
          rw [List.append_nil] at e1 e2
          rw [e1, e2]
          have ih := run_two n k m (cAfter cs j c) f s (cq_after hq hj) (by omega) (by omega) (by omega) hfs
          rw [ih]
          simp
theorem step_two {cs : List CC} {f s : Int} (hq : CQ cs) (hm : cMs cs ≤ 100000) (h : f ≤ s) (hm1 : cMs (cStep cs f).1 ≤ 100000) :
    cStep cs s = ((cStep (cStep cs f).1 s).1, (cStep cs f).2 ++ (cStep (cStep cs f).1 s).2) := run_two 100000 100000 100000 cs f s hq hm hm hm h
theorem Cl.cq {w : World} {p : Nat} {most last : Int} {cs : List CC} {F : Nat → Prop} (H : Cl w p most last cs F) : CQ cs ∧ cMs cs ≤ 2400 := by
  obtain ⟨xs, l, bn, bc, pw, kn, kc, FW, e, H, P⟩ := H
  exact ⟨fun c hc => ⟨(P.each c hc).2.2.2.2.1, (P.each c hc).2.2.2.2.2.1⟩, by have := P.ms; have := P.len; have := P.most; omega⟩
def fb (i : Nat) : ByteArray := str [UInt8.ofNat i]
structure FS where
  last : Int
  cs : List CC
  now : Int
def fillS (zs : List Int) (bl : Nat) (f : Nat → Bool) : Nat → FS
  | 0 => ⟨0, [], 0⟩
  | i + 1 =>
    let s := fillS zs bl f i
    let nw := s.now + zs.getD i 0 % 100
    let cs := cStartL 200 s.last s.cs (fb i) nw (fb i) ⟨#[]⟩
    ⟨cStartN 200 s.last s.cs (fb i) nw, if i < bl ∧ f i = true then cRespL cs (fb i) 200 nw else cs, nw⟩
theorem fill_bd (zs : List Int) (bl : Nat) (f : Nat → Bool) : ∀ i, (fillS zs bl f i).last ≤ i ∧ 0 ≤ (fillS zs bl f i).now ∧ (fillS zs bl f i).now ≤ 100 * i
  | 0 => ⟨Int.le_refl _, Int.le_refl _, Int.le_refl _⟩
  | i + 1 => by
    obtain ⟨h1, h2, h3⟩ := fill_bd zs bl f i
    refine ⟨?_, ?_, ?_⟩
    · show cStartN 200 (fillS zs bl f i).last (fillS zs bl f i).cs (fb i) _ ≤ _
      unfold cStartN
      split <;> omega
    · show 0 ≤ (fillS zs bl f i).now + zs.getD i 0 % 100; omega
    · show (fillS zs bl f i).now + zs.getD i 0 % 100 ≤ _; omega
/-- bools that came in -/
def RowB (w : World) (B n : Nat) (A : Option Addr) (f : Nat → Bool) : Prop := 0 < n → ∃ gb off, A = some ⟨gb, off, none⟩ ∧ gb < B ∧ ∀ i, i < n → w.cell? ⟨gb, off + i, none⟩ = some (.bool (f i))
theorem RowB.below {w w' : World} {B n : Nat} {A : Option Addr} {f : Nat → Bool} (h : RowB w B n A f) (hb : Below B w w') : RowB w' B n A f := fun hn => by
  obtain ⟨gb, off, e, hB, hc⟩ := h hn
  exact ⟨gb, off, e, hB, fun i hi => (hb.cell (p := ⟨gb, off + i, none⟩) hB).trans (hc i hi)⟩
theorem run_byte {P : Program} (w : World) (src dst e : TypeId) (hs : P.underlying src = some (.slice e)) (he : P.underlying e = some (.int .u8)) (hd : P.underlying dst = some .string) (i : Nat) (hi : i < 256) :
    (convert src dst (.slice (some ⟨w.heap.size, 0, none⟩) 1 1)).run P (w.alloc (.cells #[.int .u8 (i : Int)] e)) = .ok (.string (fb i)) (w.alloc (.cells #[.int .u8 (i : Int)] e)) := by
  have hB : B (UInt8.ofNat i) = .int .u8 (i : Int) := by unfold B; simp; omega
  refine run_string_own src dst e hs he hd (base := 0) (n := 1) (l := [UInt8.ofNat i]) ⟨rfl, .inr ⟨w.heap.size, 1, #[.int .u8 (i : Int)], rfl, by omega, heap_alloc_new w _, Nat.le_refl _, by unfold maxLen; omega, by simp, ?_⟩⟩
  simp [hB]
def FillRel (w : World) (p : Nat) (zs : List Int) (bl : Nat) (f : Nat → Bool) (nw iv : Value) (wr : World) : Prop :=
  ∃ (i : Nat) (F : Nat → Prop), i ≤ zs.length ∧ i ≤ 60 ∧ iv = .int .i64 i ∧ nw = .int .i64 (fillS zs bl f i).now ∧ Own w p 200 (fillS zs bl f i).last (fillS zs bl f i).cs F wr
def FillPost (w : World) (zs : List Int) (bl : Nat) (f : Nat → Bool) (e : Ending) (w' : World) : Prop :=
  ∃ (p i : Nat) (F : Nat → Prop), e = .returned (.pointer (some ⟨p, 0, none⟩)) ∧ i = min zs.length 60 ∧ Own w p 200 (fillS zs bl f i).last (fillS zs bl f i).cs F w'
set_option maxRecDepth 100000 in
set_option maxHeartbeats 4000000 in
theorem filled_any {w : World} {b0 : Nat} {A : Option Addr} {c : Nat} {zs : List Int} {A2 : Option Addr} {c2 bl : Nat} {f : Nat → Bool} (hb0 : b0 ≤ w.heap.size)
    (h : RdB w b0 1 zs.length A (zs.map fun n => .int .u16 n)) (hz : ∀ z ∈ zs, 0 ≤ z ∧ z ≤ 65535) (hl : zs.length ≤ 9223372036854775807) (h2 : RowB w b0 bl A2 f) (hl2 : bl ≤ 9223372036854775807) :
    Calls Try.prog 42 #[.slice A zs.length c, .slice A2 bl c2] w (FillPost w zs bl f) := by
  have HR := Lib.hid h
  have HR2 := Lib.hid h2
  clear h h2
  go_enter Try.func42, Try.ntmps42
  go_wp2_with fail
  refine (cnew_any 200 w (by omega) (by omega)).mono ?_
  rintro e w1 ⟨p, F, rfl, hC, hb1, hF⟩
  have HST : Hid (FillRel w p zs bl f (.int .i64 0) (.int .i64 0) w1) := Lib.hid ⟨0, F, by omega, by omega, rfl, rfl, ⟨hC, hb1, hF⟩⟩
  clear hC hb1 hF
  go_wp2
  go_loopw [7, 8] (fun nw iv wr => FillRel w p zs bl f nw iv wr) (fun _ iv _ => 60 - (intOf iv).toNat)
  case atStart => exact HST.out
  case round =>
    obtain ⟨i, F, hi1, hi2, rfl, rfl, hO⟩ := hrel
    have hbd := fill_bd zs bl f i
    by_cases hlt : i < zs.length ∧ i < 60
    · obtain ⟨hlt1, hlt2⟩ := hlt
      obtain ⟨gb, off, rfl, hgl, hcz⟩ := (HR.out.below (hO.be.mono hb0)).at_ (by omega)
      have cz := hcz i (.int .u16 (zs.getD i 0)) (by rw [List.getElem?_map]; simp [List.getD, List.getElem?_eq_getElem hlt1])
      have hzi := hz (zs.getD i 0) (by simp [List.getD, List.getElem?_eq_getElem hlt1])
      have HOA := Lib.hid (hO.below ((Below.refl _ _).alloc (Nat.le_refl _) (.cells #[.int .u8 (i : Int)] 5)))
      have hcv := run_byte (P := Try.prog) wr 66 9 5 Try.underlying66 Try.underlying5 Try.underlying9 i (by omega)
      have hwi : IntKind.u8.wrap (i : Int) = i := by rw [IntKind.wrap_u8]; omega
      have hsz : wr.heap.size ≤ (wr.alloc (.cells #[.int .u8 (i : Int)] 5)).heap.size := by simp
      have HW0 := Lib.hid hO.be.size
      obtain ⟨z, hzz⟩ : ∃ z, z = zs.getD i 0 := ⟨_, rfl⟩
      rw [← hzz] at cz hzi
      obtain ⟨nw, hnw⟩ : ∃ nw, nw = (fillS zs bl f i).now := ⟨_, rfl⟩
      rw [← hnw] at hbd
      rw [← hnw]
      obtain ⟨hl1, hn0, hn1⟩ := hbd
      have HNX : Hid (∀ cs', (cs' = if i < bl ∧ f i = true then cRespL (cStartL 200 (fillS zs bl f i).last (fillS zs bl f i).cs (fb i) (nw + z % 100) (fb i) ⟨#[]⟩) (fb i) 200 (nw + z % 100) else cStartL 200 (fillS zs bl f i).last (fillS zs bl f i).cs (fb i) (nw + z % 100) (fb i) ⟨#[]⟩) →
          ∀ F' w', Own w p 200 (cStartN 200 (fillS zs bl f i).last (fillS zs bl f i).cs (fb i) (nw + z % 100)) cs' F' w' → FillRel w p zs bl f (.int .i64 (nw + z % 100)) (.int .i64 ((i : Int) + 1)) w') := Lib.hid (fun cs' hcs F' w' hO => by
        subst hcs
        refine ⟨i + 1, F', by omega, by omega, by go_num, ?_, ?_⟩
        · rw [hnw, hzz]; rfl
        · rw [hnw, hzz] at hO; exact hO)
      have HLS : Hid ((fillS zs bl f i).last ≤ 1000000000) := Lib.hid (by omega)
      clear hcz hzz hnw hO
      obtain ⟨hz0, hz1⟩ := hzi
      have x0 : (0 : Int) ≤ i := by omega
      have x1 : (i : Int) < zs.length := by omega
      have x2 : 0 ≤ z % 100 := by omega
      have x3 : z % 100 < 100 := by omega
      clear hz
      go_wp2_with fail
      refine (cstart_any HOA.out.cl (fb i) (nw + z % 100) (fb i) ⟨#[]⟩ HLS.out).mono ?_
      rintro e w2 ⟨rfl, F2, hC, hf, hx⟩
      have HO2 := Lib.hid (HOA.out.next hC hf hx)
      clear hC hf hx cz hcv
      by_cases hb : i < bl
      · obtain ⟨gb2, off2, rfl, _, hcb⟩ := (HR2.out.below (HO2.out.be.mono hb0)) (by omega)
        have cb := hcb i hb
        have x4 : (i : Int) < bl := by omega
        clear hcb
        cases hfi : f i with
        | true =>
          rw [hfi] at cb
          have HNT : Hid (∀ F' w', Own w p 200 (cStartN 200 (fillS zs bl f i).last (fillS zs bl f i).cs (fb i) (nw + z % 100)) (cRespL (cStartL 200 (fillS zs bl f i).last (fillS zs bl f i).cs (fb i) (nw + z % 100) (fb i) ⟨#[]⟩) (fb i) 200 (nw + z % 100)) F' w' → FillRel w p zs bl f (.int .i64 (nw + z % 100)) (.int .i64 ((i : Int) + 1)) w') := Lib.hid (fun F' w' h => HNX.out _ (if_pos ⟨hb, hfi⟩).symm F' w' h)
          clear hfi
          go_wp2_with fail
          refine (cresp_any HO2.out.cl (fb i) 200 (nw + z % 100)).mono ?_
          rintro e w3 ⟨rfl, F3, hC, hf, hx⟩
          have HX := Lib.hid (HNT.out F3 w3 (HO2.out.next hC hf hx))
          clear hC hf hx
          go_wp2
          go_roundw
          case rel => exact HX.out
          case measure => simp [intOf] <;> omega
        | false =>
          rw [hfi] at cb
          have HX := Lib.hid (HNX.out _ (if_neg (fun q => by rw [hfi] at q; cases q.2)).symm F2 w2 HO2.out)
          clear hfi
          go_wp2
          go_roundw
          case rel => exact HX.out
          case measure => simp [intOf] <;> omega
      · have HX := Lib.hid (HNX.out _ (if_neg (fun q => hb q.1)).symm F2 w2 HO2.out)
        go_wp2
        go_roundw
        case rel => exact HX.out
        case measure => simp [intOf] <;> omega
    · have hlt2 : zs.length ≤ i ∨ 60 ≤ i := by omega
      have HX : Hid (FillPost w zs bl f (.returned (.pointer (some ⟨p, 0, none⟩))) wr) := Lib.hid ⟨p, i, F, rfl, by omega, hO⟩
      clear hlt hO
      rcases hlt2 with hlt | hlt
      all_goals
        go_wp2
        all_goals
          go_ret
          exact HX.out
end Go.Proofs.Ytgfoobgkpnknmaa
