/- The laws of the wheel: plain facts of the filled list, and WheelAgain. -/
import Derived.Test.YtgfoobgkpnknmaaA2
namespace Go.Proofs.Ytgfoobgkpnknmaa
set_option linter.unusedSimpArgs false
set_option linter.unusedVariables false
open Go.RowKit
theorem Wh.nd {w : World} {p : Nat} {l : List TM} {F : Nat → Prop} (H : Wh w p l F) : (l.map (·.2)).Nodup := by obtain ⟨_, _, _, _, H⟩ := H; exact H.nd
theorem Wh.so {w : World} {p : Nat} {l : List TM} {F : Nat → Prop} (H : Wh w p l F) : l.Pairwise ah := by obtain ⟨_, _, _, _, H⟩ := H; exact H.so
theorem ids_le : ∀ (n : Nat) (l : List TM), (l.map (·.2)).Nodup → (∀ t ∈ l, 0 ≤ t.2 ∧ t.2 < (n : Int)) → l.length ≤ n
  | 0, [], _, _ => Nat.le_refl _
  | 0, t :: r, _, h => by have := h t (by simp); omega
  | n + 1, l, hn, h => by
    by_cases hm : (n : Int) ∈ l.map (·.2)
    · obtain ⟨t, ht, e⟩ := List.mem_map.1 hm
      have h1 := stop_len_in hn ht
      have h2 := ids_le n (rStop l t.2) (stop_nodup hn _) (fun s hs => by
        have := h s ((stop_sub l t.2).subset hs)
        have := stop_ne s hs
        omega)
      omega
    · have h2 := ids_le n l hn (fun s hs => by
        have := h s hs
        have : s.2 ≠ (n : Int) := fun e => hm (List.mem_map.2 ⟨s, hs, e⟩)
        omega)
      omega
theorem mem_set {l : List TM} {id a : Int} {t : TM} (h : t ∈ rSetL l id a) : t ∈ l ∨ (t = (a, id) ∧ 0 ≤ id ∧ 0 ≤ a ∧ a ≤ 1099511627776) := by
  unfold rSetL at h
  by_cases he : rSetE l id a = 0
  · rw [if_pos he] at h
    rcases List.mem_cons.1 ((ins_perm _ _).mem_iff.1 h) with e | e
    · refine .inr ⟨e, ?_⟩
      unfold rSetE at he
      by_cases hA : id < 0 ∨ a < 0 ∨ 1099511627776 < a
      · rw [if_pos hA] at he; omega
      · omega
    · exact .inl ((stop_sub _ _).subset e)
  · rw [if_neg he] at h; exact .inl h
theorem fill_in (ats : List Int) : ∀ (j : Nat), ∀ t ∈ fillL ats j, 0 ≤ t.1 ∧ t.1 ≤ 1099511627776 ∧ 0 ≤ t.2 ∧ t.2 < 97
  | 0, t, h => by cases h
  | j + 1, t, h => by
    rcases mem_set h with h | ⟨e, h0, h1, h2⟩
    · exact fill_in ats j t h
    · subst e
      have : (((j % 97 : Nat)) : Int) < 97 := by omega
      exact ⟨h1, h2, h0, this⟩
theorem fill_len {ats : List Int} {j : Nat} (h : ((fillL ats j).map (·.2)).Nodup) : (fillL ats j).length ≤ 97 := ids_le 97 _ h (fun t ht => (fill_in ats j t ht).2.2)
theorem due_all {l : List TM} {now : Int} (h : ∀ t ∈ l, t.1 ≤ now) : rDueA l now = l ∧ rDueB l now = [] := by
  induction l with
  | nil => exact ⟨rfl, rfl⟩
  | cons t r ih =>
    have h1 := h t (by simp)
    have h2 := ih (fun s hs => h s (by simp [hs]))
    unfold rDueA rDueB at *
    rw [List.takeWhile_cons_of_pos (by simpa using h1), List.dropWhile_cons_of_pos (by simpa using h1)]
    exact ⟨by rw [h2.1], h2.2⟩
def cnt (l : List TM) (k : Int) : Nat := (l.filter fun t => decide (t.2 = k)).length
theorem cnt_in {l : List TM} {j : Nat} {k : Int} (hj : j < l.length) (h : l[j].2 = k) : cnt (l.take (j + 1)) k = cnt (l.take j) k + 1 := by
  unfold cnt
  rw [List.take_succ_eq_append_getElem hj, List.filter_append, List.filter_cons_of_pos (by simpa using h), List.length_append]; rfl
theorem cnt_out {l : List TM} {j : Nat} {k : Int} (hj : j < l.length) (h : l[j].2 ≠ k) : cnt (l.take (j + 1)) k = cnt (l.take j) k := by
  unfold cnt
  rw [List.take_succ_eq_append_getElem hj, List.filter_append, List.filter_cons_of_neg (by simpa using h), List.length_append]; simp
theorem cnt_le (l : List TM) (k : Int) : cnt l k ≤ l.length := List.length_filter_le _ _
theorem cnt_stop (l : List TM) (k : Int) : cnt (rStop l k) k = 0 := by
  unfold cnt
  rw [List.length_eq_zero_iff, List.filter_eq_nil_iff]
  intro t ht
  simpa using stop_ne t ht
theorem cnt_ins (l : List TM) (k a : Int) : cnt (rIns (a, k) (rStop l k)) k = 1 := by
  have h := ((ins_perm (a, k) (rStop l k)).filter fun t => decide (t.2 = k)).length_eq
  rw [List.filter_cons_of_pos (by simp)] at h
  have h2 := cnt_stop l k
  unfold cnt at *
  rw [h, List.length_cons, h2]
/-- what the loop of WheelAgain counts over -/
structure AgL (l : List TM) (k a : Int) (n : Nat) : Prop where
  all : ∀ t ∈ l, t.1 ≤ 1099511627776
  same : ∀ t ∈ l, t.2 = k → t.1 = a
  num : cnt l k = n
  len : l.length ≤ 4096
theorem ag_set {ats : List Int} {m : Nat} {k a : Int} (h : ((fillL ats m).map (·.2)).Nodup) (h0 : 0 ≤ k) (h1 : 0 ≤ a) (h2 : a ≤ 1099511627776) :
    rSetE (fillL ats m) k a = 0 ∧ AgL (rSetL (fillL ats m) k a) k a 1 ∧ k ∈ (rSetL (fillL ats m) k a).map (·.2) := by
  have hl := fill_len h
  have hE : rSetE (fillL ats m) k a = 0 := by unfold rSetE; rw [if_neg (by omega), if_neg (by omega)]
  have hS : rSetL (fillL ats m) k a = rIns (a, k) (rStop (fillL ats m) k) := by unfold rSetL; rw [if_pos hE]
  refine ⟨hE, ⟨fun t ht => ?_, fun t ht hk => ?_, ?_, ?_⟩, ?_⟩
  · rcases mem_set ht with h | ⟨e, _, _, h⟩
    · exact (fill_in ats m t h).2.1
    · rw [e]; exact h
  · rw [hS] at ht
    rcases List.mem_cons.1 ((ins_perm _ _).mem_iff.1 ht) with e | e
    · rw [e]
    · exact absurd hk (stop_ne t e)
  · rw [hS, cnt_ins]
  · rw [hS, ins_len]; have := (stop_sub (fillL ats m) k).length_le; omega
  · rw [hS]; exact List.mem_map.2 ⟨(a, k), (ins_perm _ _).mem_iff.2 (by simp), rfl⟩
theorem ag_stop {l : List TM} {k a : Int} {n : Nat} (h : AgL l k a n) : AgL (rStop l k) k a 0 :=
  ⟨fun t ht => h.all t ((stop_sub l k).subset ht), fun t ht => h.same t ((stop_sub l k).subset ht), cnt_stop l k, Nat.le_trans (stop_sub l k).length_le h.len⟩
theorem stop_out (l : List TM) (k : Int) : ¬ k ∈ (rStop l k).map (·.2) := fun h => by
  obtain ⟨t, ht, e⟩ := List.mem_map.1 h
  exact stop_ne t ht e
end Go.Proofs.Ytgfoobgkpnknmaa
