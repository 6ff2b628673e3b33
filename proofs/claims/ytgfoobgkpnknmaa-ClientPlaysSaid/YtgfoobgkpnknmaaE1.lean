/- The laws of the client: same, awake. -/

import Derived.Test.YtgfoobgkpnknmaaC8
import Derived.Test.YtgfoobgkpnknmaaK
namespace Go.Proofs.Ytgfoobgkpnknmaa
set_option linter.unusedSimpArgs false
set_option linter.unusedVariables false
open Go.RowKit
theorem neq_sent (a b : ByteArray) (W : World) : (binOp .neq 71 (.agg #[.string a, .string b]) (.agg #[.string a, .string b])).run Try.prog W = .ok (.bool false) W := by
  simp [go_sem]
set_option maxHeartbeats 1000000 in
theorem csame_any {w : World} {l : List DD} {A B : Option Addr} {c d : Nat} (h : Rd w 77 4 l.length A (rows dcell l)) (h' : Rd w 139 4 l.length B (rows dcell l)) (hl : l.length ≤ 1000000) :
    Calls Try.prog 61 #[.slice A l.length c, .slice B l.length d] w fun e w' => e = .returned (.bool true) ∧ ∃ n, w' = w.drewN n := by
  have hlb : (((l.length : Int)) != l.length) = false := by simp
  go_enter Try.func61, Try.ntmps61
  go_wp2
  go_loopw [5] (fun i wr => ∃ j : Nat, j ≤ l.length ∧ i = .int .i64 j ∧ ∃ n, wr = w.drewN n) (fun i _ => l.length - (intOf i).toNat)
  case atStart => exact ⟨0, by omega, rfl, 0, rfl⟩
  case round =>
    obtain ⟨j, hj, rfl, n, rfl⟩ := hrel
    by_cases hlt : j < l.length
    · obtain ⟨gb, off, rfl, _, hc⟩ := rd_row dcell_len h hlt
      obtain ⟨gb', off', rfl, _, hd⟩ := rd_row dcell_len h' hlt
      generalize l[j] = x at *
      have c0 : w.cell? ⟨gb, off + j * 4, none⟩ = some (.int .i64 x.id) := hc 0 (by omega)
      have c1 : w.cell? ⟨gb, off + j * 4 + 1, none⟩ = some (.bool x.over) := hc 1 (by omega)
      have c2 : w.cell? ⟨gb, off + j * 4 + 2, none⟩ = some (.string x.to) := hc 2 (by omega)
      have c3 : w.cell? ⟨gb, off + j * 4 + 3, none⟩ = some (.string x.bs) := hc 3 (by omega)
      have d0 : w.cell? ⟨gb', off' + j * 4, none⟩ = some (.int .i64 x.id) := hd 0 (by omega)
      have d1 : w.cell? ⟨gb', off' + j * 4 + 1, none⟩ = some (.bool x.over) := hd 1 (by omega)
      have d2 : w.cell? ⟨gb', off' + j * 4 + 2, none⟩ = some (.string x.to) := hd 2 (by omega)
      have d3 : w.cell? ⟨gb', off' + j * 4 + 3, none⟩ = some (.string x.bs) := hd 3 (by omega)
      have b0 : (0 : Int) ≤ j := by omega
      have b1 : (j : Int) < l.length := by omega
      have e0 : ((x.id : Int) != x.id) = false := by simp
      have e1 : (x.over != x.over) = false := by simp
      have e2 := neq_sent x.to x.bs
      clear hc hd
      go_wp2
      go_quiet (fail)
      go_wp2
      go_roundw
      case rel => exact ⟨j + 1, by omega, by go_num, _, rfl⟩
      case measure => simp [intOf] <;> omega
    · go_wp2
      go_ret
      exact ⟨rfl, _, rfl⟩
end Go.Proofs.Ytgfoobgkpnknmaa
