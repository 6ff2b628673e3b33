/- The reference's wheel: Stop, Due. -/
import Derived.Test.YtgfoobgkpnknmaaR1
namespace Go.Proofs.Ytgfoobgkpnknmaa
open Go.RowKit
def RStopPost (l : List TM) (id : Int) (w : World) (e : Ending) (w' : World) : Prop :=
  ∃ v, e = .returned (.tuple #[v, .bool (decide ((rStop l id).length < l.length))]) ∧ RdV w' 36 2 (rStop l id).length v (tcells (rStop l id)) ∧ Below w.heap.size w w'
theorem stop_snoc_in {l : List TM} {j : Nat} {id : Int} (hj : j < l.length) (h : l[j].2 ≠ id) : rStop (l.take (j + 1)) id = rStop (l.take j) id ++ [l[j]] := by
  rw [List.take_succ_eq_append_getElem hj]
  unfold rStop
  rw [List.filter_append, List.filter_cons_of_pos (by simpa using h)]
  rfl
theorem stop_snoc_out {l : List TM} {j : Nat} {id : Int} (hj : j < l.length) (h : l[j].2 = id) : rStop (l.take (j + 1)) id = rStop (l.take j) id := by
  rw [List.take_succ_eq_append_getElem hj]
  unfold rStop
  rw [List.filter_append, List.filter_cons_of_neg (by simpa using h)]
  simp
set_option maxRecDepth 100000 in
set_option maxHeartbeats 1000000 in
theorem rstop_any {w : World} {l : List TM} {A : Option Addr} {c : Nat} (h : Rd w 36 2 l.length A (tcells l)) (hl : l.length ≤ 1000000) (id : Int) :
    Calls Try.prog 31 #[.slice A l.length c, .int .i64 id] w (RStopPost l id w) := by
  go_enter Try.func31, Try.ntmps31
  go_wp2
  go_loopw [6, 7] (fun v i wr => ∃ j : Nat, j ≤ l.length ∧ i = .int .i64 j ∧ wr.ownsRow w.heap.size 36 2 v (rStop (l.take j) id).length (tcells (rStop (l.take j) id)) ∧ Below w.heap.size w wr) (fun _ i _ => l.length - (intOf i).toNat)
  case atStart => exact ⟨0, by omega, rfl, ⟨rfl, .inl ⟨rfl, rfl⟩⟩, Below.refl _ _⟩
  case round =>
    obtain ⟨j, hj, rfl, hown, hb⟩ := hrel
    have hbs := hb.size
    have hln : (rStop (l.take j) id).length ≤ j := by
      have := (stop_sub (l.take j) id).length_le
      rw [List.length_take] at this
      omega
    by_cases hlt : j < l.length
    · obtain ⟨gb, off, rfl, c0, c1⟩ := rd_tm (h.below hb) hlt
      have hown' := Lib.hid hown
      have hb' := Lib.hid hb
      clear hown hb
      by_cases he : l[j].2 = id
      · have HS := Lib.hid (stop_snoc_out hlt he)
        have heb : (l[j].2 != id) = false := by rw [he]; simp
        clear he
        go_wp2
        go_roundw
        case rel => exact ⟨j + 1, by omega, by go_num, by rw [HS.out]; exact hown'.out, hb'.out⟩
        case measure => simp [intOf] <;> omega
      · have HS := Lib.hid (stop_snoc_in hlt he)
        have heb : (l[j].2 != id) = true := by simpa using he
        clear he
        go_wp2_with (at_builtin; go_must (refine wpList_app1' rfl (.tmp 21) (.tmp 26) 26 rfl w.heap.size 36 2 16 _ Try.underlying26 e36i rfl (by omega) _ _ _ rfl hown'.out [_, _] _ rfl (by simp) rfl (by simp [Value.oneCell']) (by unfold maxLen; omega) (by omega) (by omega) ?_); intro v1 w1 hown1 hb1 hg1 hat1)
        go_roundw
        case rel => exact ⟨j + 1, by omega, by go_num, by rw [HS.out, List.length_append, tcells_snoc]; exact hown1, hb'.out.trans hb1⟩
        case measure => simp [intOf] <;> omega
    · have hjl : j = l.length := by omega
      subst hjl
      rw [List.take_length] at hown
      obtain ⟨A', c', e, h1, h2, h3⟩ := RdV.of_own hown
      have HR := Lib.hid (RdV.of_own hown)
      have HD := Lib.hid (show decide (((rStop l id).length : Int) < l.length) = decide ((rStop l id).length < l.length) by exact decide_eq_decide.2 (by omega))
      clear hown h3 hln
      rw [e]
      rw [e] at HR
      have HB := Lib.hid hb
      clear hb
      go_wp2
      go_ret2
      exact ⟨_, ret_two rfl rfl, HR.out, HB.out⟩
def RDuePost (l : List TM) (now : Int) (w : World) (e : Ending) (w' : World) : Prop :=
  ∃ v u n, e = .returned (.tuple #[v, u]) ∧ RdV w' 36 2 (rDueA l now).length v (tcells (rDueA l now)) ∧ RdV w' 36 2 (rDueB l now).length u (tcells (rDueB l now)) ∧ w' = w.drewN n
theorem tcells_take (l : List TM) (j : Nat) : tcells (l.take j) = (tcells l).take (j * 2) := by
  induction l generalizing j with
  | nil => simp [tcells]
  | cons t r ih =>
    cases j with
    | zero => simp [tcells]
    | succ j =>
      rw [show (j + 1) * 2 = j * 2 + 2 from by omega]
      simp only [List.take_succ_cons, tcells, List.flatMap_cons] at ih ⊢
      rw [ih]; rfl
theorem tcells_drop (l : List TM) (j : Nat) : tcells (l.drop j) = (tcells l).drop (j * 2) := by
  induction l generalizing j with
  | nil => simp [tcells]
  | cons t r ih =>
    cases j with
    | zero => simp [tcells]
    | succ j =>
      rw [show (j + 1) * 2 = j * 2 + 2 from by omega]
      simp only [List.drop_succ_cons, tcells, List.flatMap_cons] at ih ⊢
      rw [ih]; rfl
set_option maxRecDepth 100000 in
set_option maxHeartbeats 1000000 in
theorem rdue_any {w : World} {l : List TM} {A : Option Addr} {c : Nat} (h : Rd w 36 2 l.length A (tcells l)) (hl : l.length ≤ 1000000) (hlc : l.length ≤ c) (hc : c ≤ maxLen) (now : Int) :
    Calls Try.prog 32 #[.slice A l.length c, .int .i64 now] w (RDuePost l now w) := by
  have hc63 : c ≤ 9223372036854775807 := by unfold maxLen at hc; omega
  go_enter Try.func32, Try.ntmps32
  go_wp2
  go_loop [6] (fun i => ∃ j : Nat, j ≤ l.length ∧ i = .int .i64 j ∧ ∀ s ∈ l.take j, s.1 ≤ now) (fun i => l.length - (intOf i).toNat)
  case atStart => exact ⟨0, by omega, rfl, by simp⟩
  case round =>
    obtain ⟨j, hj, rfl, hall⟩ := hrel
    by_cases hc1 : j < l.length ∧ ∀ h : j < l.length, l[j].1 ≤ now
    · obtain ⟨hlt, hle⟩ := hc1
      have hle := hle hlt
      obtain ⟨gb, off, rfl, c0, c1⟩ := rd_tm h hlt
      have HA := Lib.hid hall
      clear hall
      go_wp2
      go_round
      case rel =>
        refine ⟨j + 1, by omega, by go_num, fun s hs => ?_⟩
        rw [List.take_succ_eq_append_getElem hlt] at hs
        rcases List.mem_append.1 hs with q | q
        · exact HA.out s q
        · simp at q; subst q; exact hle
      case measure => simp [intOf] <;> omega
    · have HS := due_split (now := now) hj hall (fun t r q => by
        have hlt : j < l.length := by
          rcases Nat.lt_or_ge j l.length with q1 | q1
          · exact q1
          · rw [List.drop_eq_nil_of_le q1] at q; cases q
        rw [List.drop_eq_getElem_cons hlt] at q
        injection q with q1 q2
        rw [← q1]
        have : ¬ l[j].1 ≤ now := fun h2 => hc1 ⟨hlt, fun _ => h2⟩
        omega)
      have HP : Hid (∀ n, RDuePost l now w (.returned (.tuple #[.slice A j c, .slice (if c = j then A else A.map (·.add (j * 2))) (l.length - j) (c - j)])) (w.drewN n)) := Lib.hid (fun n => by
        have h1 := (h.take hj).drewN n
        have h2 := (h.cut hj hlc).drewN n
        rw [← tcells_take] at h1
        rw [← tcells_drop] at h2
        refine ⟨_, _, n, rfl, ?_, ?_, rfl⟩
        · rw [HS.1, List.length_take, Nat.min_eq_left hj]; exact ⟨A, c, rfl, by omega, hc, h1⟩
        · rw [HS.2, List.length_drop]; exact ⟨_, _, rfl, by omega, by omega, h2⟩)
      have b0 : (0 : Int) ≤ j := by omega
      have b1 : (j : Int) ≤ c := by omega
      have b2 : (j : Int) ≤ l.length := by omega
      have b3 : (0 : Int) ≤ l.length := by omega
      have b4 : (l.length : Int) ≤ c := by omega
      clear hall HS
      by_cases hlt : j < l.length
      · have hnle : now < l[j].1 := by have : ¬ l[j].1 ≤ now := fun h2 => hc1 ⟨hlt, fun _ => h2⟩; omega
        obtain ⟨gb, off, hA, c0, c1⟩ := rd_tm h hlt
        subst hA
        clear hc1
        have hcj : ¬ c = j := by omega
        have HP2 := fun n => HP.out n
        rw [if_neg hcj, show (some (⟨gb, off, none⟩ : Addr)).map (·.add (j * 2)) = some ⟨gb, off + j * 2, none⟩ by simp only [Option.map_some, Addr.add]; by_cases e : j * 2 = 0 <;> simp [e]] at HP2
        have HP3 := Lib.hid HP2
        clear HP2 HP
        go_wp2
        go_quiet (fail)
        go_wp2
        go_ret2
        exact HP3.out _
      · clear hc1
        by_cases hcj : c = j
        · subst hcj
          have HP2 := fun n => HP.out n
          rw [if_pos rfl, Nat.sub_self, Nat.sub_eq_zero_of_le hlc] at HP2
          have HP3 := Lib.hid HP2
          clear HP2 HP
          go_wp2
          go_quiet (fail)
          go_wp2
          go_ret2
          exact HP3.out _
        · have HP2 := fun n => HP.out n
          rw [if_neg hcj] at HP2
          have HP3 := Lib.hid HP2
          clear HP2 HP
          go_wp2
          go_quiet (fail)
          go_wp2
          go_ret2
          exact HP3.out _
end Go.Proofs.Ytgfoobgkpnknmaa
