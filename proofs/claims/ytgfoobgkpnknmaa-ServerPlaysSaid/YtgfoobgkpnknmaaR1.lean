/- The reference's wheel: When, Ahead, Same. -/
import Derived.Test.YtgfoobgkpnknmaaW9
import Derived.Test.YtgfoobgkpnknmaaM4
namespace Go.Proofs.Ytgfoobgkpnknmaa
open Go.RowKit
theorem tcells_at : ∀ {l : List TM} {i : Nat} (h : i < l.length), (tcells l)[i * 2]? = some (.int .i64 l[i].1) ∧ (tcells l)[i * 2 + 1]? = some (.int .i64 l[i].2)
  | t :: r, 0, _ => ⟨rfl, rfl⟩
  | t :: r, i + 1, h => by
    have := tcells_at (l := r) (i := i) (by simpa using h)
    simp only [tcells, List.flatMap_cons] at this ⊢
    rw [show (i + 1) * 2 = i * 2 + 2 from by omega]
    simpa using this
theorem rd_tm {w : World} {l : List TM} {A : Option Addr} (h : Rd w 36 2 l.length A (tcells l)) {i : Nat} (hi : i < l.length) :
    ∃ gb off, A = some ⟨gb, off, none⟩ ∧ w.cell? ⟨gb, off + i * 2, none⟩ = some (.int .i64 l[i].1) ∧ w.cell? ⟨gb, off + i * 2 + 1, none⟩ = some (.int .i64 l[i].2) := by
  obtain ⟨gb, off, e, _, hc⟩ := h.at_ (by omega)
  exact ⟨gb, off, e, hc _ _ (tcells_at hi).1, by rw [Nat.add_assoc]; exact hc _ _ (tcells_at hi).2⟩
theorem when_skip {l : List TM} {i : Nat} {id : Int} (hi : i < l.length) (h : l[i].2 ≠ id) : rWhen (l.drop i) id = rWhen (l.drop (i + 1)) id := by
  rw [List.drop_eq_getElem_cons hi]
  unfold rWhen
  rw [List.find?_cons_of_neg (by simpa using h)]
theorem when_hit {l : List TM} {i : Nat} {id : Int} (hi : i < l.length) (h : l[i].2 = id) : rWhen (l.drop i) id = (l[i].1, true) := by
  rw [List.drop_eq_getElem_cons hi]
  unfold rWhen
  rw [List.find?_cons_of_pos (by simpa using h)]
set_option maxHeartbeats 400000 in
theorem rwhen_any {w : World} {l : List TM} {A : Option Addr} {c : Nat} (h : Rd w 36 2 l.length A (tcells l)) (hl : l.length ≤ 1000000) (id : Int) :
    Calls Try.prog 29 #[.slice A l.length c, .int .i64 id] w fun e w' => e = .returned (.tuple #[.int .i64 (rWhen l id).1, .bool (rWhen l id).2]) ∧ w = w' := by
  go_enter Try.func29, Try.ntmps29
  go_wp2
  go_loop [6] (fun i => ∃ j : Nat, j ≤ l.length ∧ i = .int .i64 j ∧ rWhen l id = rWhen (l.drop j) id) (fun i => l.length - (intOf i).toNat)
  case atStart => exact ⟨0, by omega, rfl, rfl⟩
  case round =>
    obtain ⟨j, hj, rfl, hw⟩ := hrel
    by_cases hlt : j < l.length
    · obtain ⟨gb, off, rfl, c0, c1⟩ := rd_tm h hlt
      by_cases he : l[j].2 = id
      · have HW := Lib.hid (hw.trans (when_hit hlt he))
        have heb : (l[j].2 == id) = true := by rw [he]; exact beq_self_eq_true _
        clear hw he
        go_wp2
        go_ret2
        exact ⟨ret_pair (by rw [HW.out]) (by rw [HW.out]), rfl⟩
      · have HW := Lib.hid (hw.trans (when_skip hlt he))
        have heb : (l[j].2 == id) = false := beq_eq_false_iff_ne.2 he
        clear hw he
        go_wp2
        go_round
        case rel => exact ⟨j + 1, by omega, by go_num, HW.out⟩
        case measure => simp [intOf] <;> omega
    · have HW := Lib.hid (show rWhen l id = (0, false) by rw [hw, List.drop_eq_nil_of_le (by omega)]; rfl)
      clear hw
      go_wp2
      go_ret2
      exact ⟨ret_pair (by rw [HW.out]) (by rw [HW.out]), rfl⟩

theorem ahead_any (a b : TM) (w : World) : Calls Try.prog 34 #[.agg #[.int .i64 a.1, .int .i64 a.2], .agg #[.int .i64 b.1, .int .i64 b.2]] w fun e w' => e = .returned (.bool (lsB a b)) ∧ Below w.heap.size w w' := by
  obtain ⟨a1, a2⟩ := a
  obtain ⟨b1, b2⟩ := b
  by_cases h1 : a1 < b1
  · have HB := Lib.hid (show true = lsB (a1, a2) (b1, b2) from (decide_eq_true (Or.inl h1)).symm)
    go_enter Try.func34, Try.ntmps34
    go_wp2
    go_ret
    exact ⟨ret_bool HB.out, by repeat (first | exact Below.refl _ _ | refine Below.alloc ?_ (by simp) _)⟩
  · by_cases h2 : a1 = b1
    · subst h2
      have hb : (a1 == a1) = true := beq_self_eq_true _
      have HB := Lib.hid (lsB_eq (a := a1) (i1 := a2) (i2 := b2))
      go_enter Try.func34, Try.ntmps34
      go_wp2
      go_ret
      exact ⟨ret_bool (by rw [← HB.out]), by repeat (first | exact Below.refl _ _ | refine Below.alloc ?_ (by simp) _)⟩
    · have hb : (a1 == b1) = false := beq_eq_false_iff_ne.2 h2
      have HB := Lib.hid (show false = lsB (a1, a2) (b1, b2) from (decide_eq_false (fun q => by unfold ah at q; simp at q; omega)).symm)
      clear h2
      go_enter Try.func34, Try.ntmps34
      go_wp2
      go_ret
      exact ⟨ret_bool HB.out, by repeat (first | exact Below.refl _ _ | refine Below.alloc ?_ (by simp) _)⟩
theorem neq_tm (a b : TM) (W : World) : (binOp .neq 36 (.agg #[.int .i64 a.1, .int .i64 a.2]) (.agg #[.int .i64 b.1, .int .i64 b.2])).run Try.prog W = .ok (.bool (!decide (a = b))) W := by
  obtain ⟨a1, a2⟩ := a
  obtain ⟨b1, b2⟩ := b
  simp only [Prod.mk.injEq]
  by_cases h1 : a1 = b1 <;> by_cases h2 : a2 = b2 <;> simp [go_sem, h1, h2]
def sameB (a b : List TM) : Bool := decide (a = b)
theorem samePre {a b : List TM} (hl : a.length = b.length) (h : ∀ i (h1 : i < a.length) (h2 : i < b.length), a[i] = b[i]) : sameB a b = true := decide_eq_true (List.ext_getElem hl h)
set_option maxHeartbeats 400000 in
theorem rsame_any {w : World} {l m : List TM} {A B : Option Addr} {c d : Nat} (h : Rd w 36 2 l.length A (tcells l)) (h' : Rd w 36 2 m.length B (tcells m)) (hl : l.length ≤ 1000000) (hm : m.length ≤ 1000000) :
    Calls Try.prog 23 #[.slice A l.length c, .slice B m.length d] w fun e w' => e = .returned (.bool (sameB l m)) ∧ ∃ n, w' = w.drewN n := by
  by_cases hlm : l.length = m.length
  · have hlb : (((l.length : Int)) != m.length) = false := by simp [hlm]
    have HLM := Lib.hid hlm
    clear hlm
    go_enter Try.func23, Try.ntmps23
    go_wp2
    go_loopw [5] (fun i wr => ∃ j : Nat, j ≤ l.length ∧ i = .int .i64 j ∧ (∀ i (h1 : i < l.length) (h2 : i < m.length), i < j → l[i] = m[i]) ∧ ∃ n, wr = w.drewN n) (fun i _ => l.length - (intOf i).toNat)
    case atStart => exact ⟨0, by omega, rfl, fun _ _ _ h => by omega, 0, rfl⟩
    case round =>
      obtain ⟨j, hj, rfl, hall, n, rfl⟩ := hrel
      by_cases hlt : j < l.length
      · have hlt' : j < m.length := by rw [← HLM.out]; exact hlt
        obtain ⟨gb, off, rfl, c0, c1⟩ := rd_tm h hlt
        obtain ⟨gb', off', rfl, d0, d1⟩ := rd_tm h' hlt'
        have HA := Lib.hid hall
        have b0 : (0 : Int) ≤ j := by omega
        have b1 : (j : Int) < l.length := by omega
        have b2 : (j : Int) < m.length := by omega
        clear hall
        have hnq := neq_tm l[j] m[j]
        by_cases hq : l[j] = m[j]
        · rw [decide_eq_true hq] at hnq
          have HQ := Lib.hid hq
          clear hq
          go_wp2
          go_quiet (fail)
          go_wp2
          go_roundw
          case rel =>
            refine ⟨j + 1, by omega, by go_num, fun i h1 h2 hij => ?_, _, rfl⟩
            by_cases e : i = j
            · subst e; exact HQ.out
            · exact HA.out i h1 h2 (by omega)
          case measure => simp [intOf] <;> omega
        · rw [decide_eq_false hq] at hnq
          have HS := Lib.hid (show sameB l m = false from decide_eq_false fun e => hq (by subst e; rfl))
          clear hq
          go_wp2
          go_quiet (fail)
          go_wp2
          go_ret
          exact ⟨ret_bool HS.out.symm, _, World.drewN_drewN _ _ _⟩
      · have HS := Lib.hid (samePre HLM.out (fun i h1 h2 => hall i h1 h2 (by omega)))
        clear hall
        go_wp2
        go_ret
        exact ⟨ret_bool HS.out.symm, _, rfl⟩
  · have hlb : (((l.length : Int)) != m.length) = true := by rw [bne_iff_ne]; omega
    have HS := Lib.hid (show sameB l m = false from decide_eq_false fun e => hlm (by rw [e]))
    clear hlm
    go_enter Try.func23, Try.ntmps23
    go_wp2
    go_ret
    exact ⟨ret_bool HS.out.symm, 0, rfl⟩
end Go.Proofs.Ytgfoobgkpnknmaa
