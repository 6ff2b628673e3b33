/- The laws of the server: rosterref11.Ints, tables of the call's own, awake, what no call made. -/
import Derived.Test.YtgfoobgkpnknmaaS6
import Derived.Test.YtgfoobgkpnknmaaK
import Derived.Test.YtgfoobgkpnknmaaM6
namespace Go.Proofs.Ytgfoobgkpnknmaa
set_option linter.unusedSimpArgs false
set_option linter.unusedVariables false
open Go.RowKit
set_option maxHeartbeats 1000000 in
theorem ints_any {w : World} {l : List Int} {A B : Option Addr} {c d : Nat} (h : Rd w 3 1 l.length A (l.map (.int .i64))) (h' : Rd w 3 1 l.length B (l.map (.int .i64))) (hl : l.length ≤ 1000000) :
    Calls Try.prog 68 #[.slice A l.length c, .slice B l.length d] w fun e w' => e = .returned (.bool true) ∧ ∃ n, w' = w.drewN n := by
  have hlb : (((l.length : Int)) != l.length) = false := by simp
  go_enter Try.func68, Try.ntmps68
  go_wp2
  go_loopw [5] (fun i wr => ∃ j : Nat, j ≤ l.length ∧ i = .int .i64 j ∧ ∃ n, wr = w.drewN n) (fun i _ => l.length - (intOf i).toNat)
  case atStart => exact ⟨0, by omega, rfl, 0, rfl⟩
  case round =>
    obtain ⟨j, hj, rfl, n, rfl⟩ := hrel
    by_cases hlt : j < l.length
    · obtain ⟨gb, off, rfl, _, hc⟩ := h.at_ (by omega)
      obtain ⟨gb', off', rfl, _, hd⟩ := h'.at_ (by omega)
      have c0 : w.cell? ⟨gb, off + j, none⟩ = some (.int .i64 l[j]) := hc j _ (by rw [List.getElem?_map, List.getElem?_eq_getElem hlt]; rfl)
      have d0 : w.cell? ⟨gb', off' + j, none⟩ = some (.int .i64 l[j]) := hd j _ (by rw [List.getElem?_map, List.getElem?_eq_getElem hlt]; rfl)
      generalize l[j] = x at *
      have b0 : (0 : Int) ≤ j := by omega
      have b1 : (j : Int) < l.length := by omega
      have e0 : ((x : Int) != x) = false := by simp
      clear hc hd
      go_wp2
      go_quiet (fail)
      go_wp2
      go_roundw
      case rel => exact ⟨j + 1, by omega, by go_num, _, rfl⟩
      case measure => simp [intOf] <;> omega
    · go_wp2
      go_ret
      exact ⟨rfl, _, rfl⟩
theorem ints_no {w : World} {m n : Nat} {A B : Option Addr} {c d : Nat} (h : m ≠ n) :
    Calls Try.prog 68 #[.slice A m c, .slice B n d] w fun e w' => e = .returned (.bool false) ∧ w = w' := by
  have hlb : (((m : Int)) != n) = true := by simp; omega
  clear h
  go_enter Try.func68, Try.ntmps68
  go_wp2
  go_ret
  exact ⟨rfl, rfl⟩
theorem sst_ok {most last : Int} {cs : List SC} {k : SK} {now : Int} (h : sStartE most cs k now = 0) : sStartI most last cs k now = last + 1 ∧ sStartN most last cs k now = last + 1 ∧ sStartL most last cs k now = cs ++ [sNew last k now] :=
  ⟨if_pos h, if_pos h, if_pos h⟩
theorem sst_no {most last n : Int} {cs : List SC} {k : SK} {now : Int} (h : sStartE most cs k now = n) (hn : n ≠ 0) : sStartI most last cs k now = 0 ∧ sStartN most last cs k now = last ∧ sStartL most last cs k now = cs :=
  ⟨if_neg (by omega), if_neg (by omega), if_neg (by omega)⟩
/-- a table of the call's own -/
structure SOwn (w : World) (p : Nat) (most last : Int) (cs : List SC) (F : Nat → Prop) (wr : World) : Prop where
  sv : Sv wr p most last cs F
  be : Below w.heap.size w wr
  ge : ∀ k, F k → w.heap.size ≤ k
section
variable {w wr w1 : World} {p : Nat} {most last most2 last2 : Int} {cs cs2 : List SC} {F F2 : Nat → Prop}
theorem SOwn.below (H : SOwn w p most last cs F wr) (hb : Below wr.heap.size wr w1) : SOwn w p most last cs F w1 := ⟨H.sv.below hb, H.be.trans (hb.mono H.be.size), H.ge⟩
theorem SOwn.next (H : SOwn w p most last cs F wr) (hc : Sv w1 p most2 last2 cs2 F2) (hf : Fr F wr w1) (hx : Ext F F2 wr) : SOwn w p most2 last2 cs2 F2 w1 :=
  ⟨hc, H.be.trans (hf.to_below H.be.size H.ge), fun k hk => (hx k hk).elim (H.ge k) fun h => by have := H.be.size; omega⟩
theorem SOwn.rd (H : SOwn w p most last cs F wr) (hf : Fr F wr w1) {T : TypeId} {sz n : Nat} {A : Option Addr} {xs : List Value} (h : Rd wr T sz n A xs) (h1 : T ≠ 63) (h2 : T ≠ 133) (h3 : T ≠ 130) (h4 : T ≠ 127) (h5 : T ≠ 158) : Rd w1 T sz n A xs :=
  h.fr hf fun gb ds fr hb => H.sv.notT hb h1 h2 h3 h4 h5
theorem SOwn.blk (H : SOwn w p most last cs F wr) (hf : Fr F wr w1) {b : Nat} {T : TypeId} {ds : Array Value} (h : Blk wr b T ds) (h1 : T ≠ 63) (h2 : T ≠ 133) (h3 : T ≠ 130) (h4 : T ≠ 127) (h5 : T ≠ 158) : Blk w1 b T ds :=
  h.fr hf (H.sv.notT h h1 h2 h3 h4 h5)
end
def kB : SK := (⟨#[98]⟩, ⟨#[99]⟩, ⟨#[88]⟩)
def kD : SK := (⟨#[100]⟩, ⟨#[99]⟩, ⟨#[88]⟩)
def sr1 : SC := ⟨1, kB, 320, false, ⟨#[]⟩, ⟨#[]⟩⟩
theorem sa_0 : sStartE 1 [] kB 0 = 0 := by decide
theorem sa_1 : sStartE 1 [sr1] kB 9 = 7 := by decide
theorem sa_2 : sStartE 1 [sr1] kD 9 = 5 := by decide
theorem sa_3 : sKeep 319 [sr1] = [sr1] ∧ sGone 319 [sr1] = [] := ⟨rfl, rfl⟩
theorem sa_4 : sKeep 320 [sr1] = [] ∧ sGone 320 [sr1] = [1] := ⟨rfl, rfl⟩
theorem sa_5 : sStartE 1 [] kD 320 = 0 := by decide
set_option maxRecDepth 100000 in
set_option maxHeartbeats 2000000 in
theorem sawake_any (w : World) : Calls Try.prog 47 #[] w (LawPost w) := by
  have S0 := Lib.hid (sst_ok (last := 0) sa_0)
  have S1 := Lib.hid (sst_no (last := 1) sa_1 (by decide))
  have S2 := Lib.hid (sst_no (last := 1) sa_2 (by decide))
  have S5 := Lib.hid (sst_ok (last := 1) sa_5)
  have E0 := Lib.hid sa_0
  have E1 := Lib.hid sa_1
  have E2 := Lib.hid sa_2
  have E5 := Lib.hid sa_5
  go_enter Try.func47, Try.ntmps47
  go_wp2_with fail
  refine (snew_any 1 w (by omega) (by omega)).mono ?_
  rintro e w1 ⟨p, F, rfl, hC, hb1, hF⟩
  have O1 := Lib.hid (SOwn.mk hC hb1 hF)
  clear hC hb1 hF
  go_wp2_with fail
  refine (sstart_any O1.out.sv ⟨#[98]⟩ ⟨#[99]⟩ ⟨#[88]⟩ 0 (by omega)).mono ?_
  rintro e w2 ⟨rfl, F2, hC, hf, hx⟩
  have O2 : SOwn w p 1 1 [sr1] F2 w2 := by
    have := O1.out.next hC hf hx
    rw [show sStartN 1 0 [] (⟨#[98]⟩, ⟨#[99]⟩, ⟨#[88]⟩) 0 = 1 from S0.out.2.1, show sStartL 1 0 [] (⟨#[98]⟩, ⟨#[99]⟩, ⟨#[88]⟩) 0 = [sr1] from S0.out.2.2] at this
    exact this
  rw [show sStartI 1 0 [] (⟨#[98]⟩, ⟨#[99]⟩, ⟨#[88]⟩) 0 = 1 from S0.out.1, show sStartE 1 [] (⟨#[98]⟩, ⟨#[99]⟩, ⟨#[88]⟩) 0 = 0 from E0.out]
  have O2 := Lib.hid O2
  clear hC hf hx
  go_wp2_with fail
  refine (sstart_any O2.out.sv ⟨#[98]⟩ ⟨#[99]⟩ ⟨#[88]⟩ 9 (by omega)).mono ?_
  rintro e w3 ⟨rfl, F3, hC, hf, hx⟩
  have O3 : SOwn w p 1 1 [sr1] F3 w3 := by
    have := O2.out.next hC hf hx
    rw [show sStartN 1 1 [sr1] (⟨#[98]⟩, ⟨#[99]⟩, ⟨#[88]⟩) 9 = 1 from S1.out.2.1, show sStartL 1 1 [sr1] (⟨#[98]⟩, ⟨#[99]⟩, ⟨#[88]⟩) 9 = [sr1] from S1.out.2.2] at this
    exact this
  rw [show sStartI 1 1 [sr1] (⟨#[98]⟩, ⟨#[99]⟩, ⟨#[88]⟩) 9 = 0 from S1.out.1, show sStartE 1 [sr1] (⟨#[98]⟩, ⟨#[99]⟩, ⟨#[88]⟩) 9 = 7 from E1.out]
  have O3 := Lib.hid O3
  clear hC hf hx
  go_wp2_with fail
  refine (sstart_any O3.out.sv ⟨#[100]⟩ ⟨#[99]⟩ ⟨#[88]⟩ 9 (by omega)).mono ?_
  rintro e w4 ⟨rfl, F4, hC, hf, hx⟩
  have O4 : SOwn w p 1 1 [sr1] F4 w4 := by
    have := O3.out.next hC hf hx
    rw [show sStartN 1 1 [sr1] (⟨#[100]⟩, ⟨#[99]⟩, ⟨#[88]⟩) 9 = 1 from S2.out.2.1, show sStartL 1 1 [sr1] (⟨#[100]⟩, ⟨#[99]⟩, ⟨#[88]⟩) 9 = [sr1] from S2.out.2.2] at this
    exact this
  rw [show sStartI 1 1 [sr1] (⟨#[100]⟩, ⟨#[99]⟩, ⟨#[88]⟩) 9 = 0 from S2.out.1, show sStartE 1 [sr1] (⟨#[100]⟩, ⟨#[99]⟩, ⟨#[88]⟩) 9 = 5 from E2.out]
  have O4 := Lib.hid O4
  clear hC hf hx
  go_wp2_with fail
  refine (sexpire_any O4.out.sv 319).mono ?_
  rintro e w5 ⟨v5, F5, rfl, ho, hC, hf, hx⟩
  rw [sa_3.1] at hC
  rw [sa_3.2] at ho
  have O5 := Lib.hid (O4.out.next hC hf (fun k hk => .inl (hx k hk)))
  obtain ⟨A5, c5, rfl, _, _, hr5⟩ := RdV.of_own ho
  clear ho hC hf hx hr5
  go_wp2_with fail
  refine (sexpire_any O5.out.sv 320).mono ?_
  rintro e w6 ⟨v6, F6, rfl, ho, hC, hf, hx⟩
  rw [sa_4.1] at hC
  rw [sa_4.2] at ho
  have O6 := Lib.hid (O5.out.next hC hf (fun k hk => .inl (hx k hk)))
  obtain ⟨A6, c6, rfl, _, _, hr6⟩ := RdV.of_own ho
  have R6 := Lib.hid hr6
  clear ho hC hf hx hr6
  go_wp2_with fail
  refine (sstart_any O6.out.sv ⟨#[100]⟩ ⟨#[99]⟩ ⟨#[88]⟩ 320 (by omega)).mono ?_
  rintro e w7 ⟨rfl, F7, hC, hf, hx⟩
  have O7 := Lib.hid (O6.out.next hC hf hx)
  have R7 := Lib.hid (O6.out.rd hf R6.out (by decide) (by decide) (by decide) (by decide) (by decide))
  rw [show sStartI 1 1 [] (⟨#[100]⟩, ⟨#[99]⟩, ⟨#[88]⟩) 320 = 2 from S5.out.1, show sStartE 1 [] (⟨#[100]⟩, ⟨#[99]⟩, ⟨#[88]⟩) 320 = 0 from E5.out]
  clear hC hf hx
  have hal : Below w7.heap.size w7 (w7.alloc (.cells #[.int .i64 1] 3)) := (Below.refl _ _).alloc (Nat.le_refl _) _
  have P8 := Lib.hid (ints_any (l := [1]) (c := c6) (d := 1) (R7.out.below hal) (Rd.of_blk (el := [.int .i64 1]) (Blk.new w7 3 _) rfl) (by simp))
  have O8 := Lib.hid (O7.out.below hal)
  clear hal
  go_wp2_with fail
  refine (P8.out).mono ?_
  rintro e w8 ⟨rfl, n8, rfl⟩
  have O9 := Lib.hid (O8.out.below (below_drewN (Below.refl _ _) n8))
  go_wp2
  go_ret
  exact ⟨rfl, O9.out.be⟩
end Go.Proofs.Ytgfoobgkpnknmaa
