/- The reference's timers in a plain list: plain laws. -/
import Derived.Test.YtgfoobgkpnknmaaH
namespace Go.Proofs.Ytgfoobgkpnknmaa
def rStop (l : List TM) (id : Int) : List TM := l.filter fun t => decide (t.2 ≠ id)
def rIns (t : TM) : List TM → List TM
  | [] => [t]
  | s :: r => if ah s t then s :: rIns t r else t :: s :: r
def rWhen (l : List TM) (id : Int) : Int × Bool := match l.find? (fun t => decide (t.2 = id)) with
  | some t => (t.1, true)
  | none => (0, false)
def rSetE (l : List TM) (id at_ : Int) : Int := if id < 0 ∨ at_ < 0 ∨ 1099511627776 < at_ then 1 else if (rStop l id).length = l.length ∧ 4096 ≤ l.length then 5 else 0
def rSetL (l : List TM) (id at_ : Int) : List TM := if rSetE l id at_ = 0 then rIns (at_, id) (rStop l id) else l
def rDueA (l : List TM) (now : Int) : List TM := l.takeWhile fun t => decide (t.1 ≤ now)
def rDueB (l : List TM) (now : Int) : List TM := l.dropWhile fun t => decide (t.1 ≤ now)
def rTop (l : List TM) : TM := l.headD (0, 0)
theorem ins_perm (t : TM) : ∀ l : List TM, (rIns t l).Perm (t :: l)
  | [] => List.Perm.refl _
  | s :: r => by
    unfold rIns
    split
    · exact ((ins_perm t r).cons s).trans (List.Perm.swap _ _ _)
    · exact List.Perm.refl _
theorem ah_total {a b : TM} (h : a.2 ≠ b.2) (h' : ¬ ah a b) : ah b a := by unfold ah at *; omega
theorem ah_trans {a b c : TM} (h : ah a b) (h' : ah b c) : ah a c := by unfold ah at *; omega
theorem ins_sorted (t : TM) : ∀ l : List TM, l.Pairwise ah → (∀ s ∈ l, s.2 ≠ t.2) → (rIns t l).Pairwise ah
  | [], _, _ => by simp [rIns]
  | s :: r, h, hn => by
    rw [List.pairwise_cons] at h
    unfold rIns
    split
    · rename_i hs
      refine List.pairwise_cons.2 ⟨fun u hu => ?_, ins_sorted t r h.2 fun u hu => hn u (by simp [hu])⟩
      rcases List.mem_cons.1 ((ins_perm t r).mem_iff.1 hu) with rfl | hu
      · exact hs
      · exact h.1 u hu
    · rename_i hs
      have hts : ah t s := ah_total (hn s (by simp)) hs
      refine List.pairwise_cons.2 ⟨fun u hu => ?_, List.pairwise_cons.2 h⟩
      rcases List.mem_cons.1 hu with rfl | hu
      · exact hts
      · exact ah_trans hts (h.1 u hu)
theorem stop_none {l : List TM} {id : Int} (h : id ∉ l.map (·.2)) : rStop l id = l := by
  unfold rStop
  rw [List.filter_eq_self]
  intro t ht
  exact decide_eq_true fun e => h (List.mem_map.2 ⟨t, ht, e⟩)
theorem stop_perm : ∀ {l : List TM} {t : TM}, (l.map (·.2)).Nodup → t ∈ l → (t :: rStop l t.2).Perm l
  | [], _, _, h => by cases h
  | s :: r, t, hn, h => by
    rw [List.map_cons, List.nodup_cons] at hn
    unfold rStop
    rcases List.mem_cons.1 h with e | e
    · subst e
      rw [List.filter_cons_of_neg (by simp)]
      have := stop_none hn.1
      unfold rStop at this
      rw [this]
    · have hne : s.2 ≠ t.2 := fun q => hn.1 (q ▸ List.mem_map.2 ⟨t, e, rfl⟩)
      rw [List.filter_cons_of_pos (by simpa using hne)]
      exact (List.Perm.swap _ _ _).trans ((stop_perm hn.2 e).cons s)
theorem stop_sub (l : List TM) (id : Int) : (rStop l id).Sublist l := List.filter_sublist
theorem stop_sorted {l : List TM} (h : l.Pairwise ah) (id : Int) : (rStop l id).Pairwise ah := h.sublist (stop_sub l id)
theorem stop_nodup {l : List TM} (h : (l.map (·.2)).Nodup) (id : Int) : ((rStop l id).map (·.2)).Nodup := h.sublist ((stop_sub l id).map _)
theorem stop_ne {l : List TM} {id : Int} : ∀ s ∈ rStop l id, s.2 ≠ id := fun s hs => by
  unfold rStop at hs
  rw [List.mem_filter] at hs
  simpa using hs.2
theorem ins_nodup {l : List TM} {id a : Int} (h : (l.map (·.2)).Nodup) : ((rIns (a, id) (rStop l id)).map (·.2)).Nodup := by
  have := ((ins_perm (a, id) (rStop l id)).map (·.2)).nodup_iff
  rw [this, List.map_cons, List.nodup_cons]
  refine ⟨fun hm => ?_, stop_nodup h id⟩
  obtain ⟨t, ht, e⟩ := List.mem_map.1 hm
  exact stop_ne t ht e
theorem ins_len (t : TM) (l : List TM) : (rIns t l).length = l.length + 1 := by have := (ins_perm t l).length_eq; simpa using this
theorem stop_len_in {l : List TM} {t : TM} (hn : (l.map (·.2)).Nodup) (h : t ∈ l) : (rStop l t.2).length + 1 = l.length := by have := (stop_perm hn h).length_eq; simpa using this
theorem stop_head {t : TM} {r : List TM} (hn : ((t :: r).map (·.2)).Nodup) : rStop (t :: r) t.2 = r := by
  rw [List.map_cons, List.nodup_cons] at hn
  unfold rStop
  rw [List.filter_cons_of_neg (by simp)]
  exact stop_none hn.1
theorem when_none {l : List TM} {id : Int} (h : id ∉ l.map (·.2)) : rWhen l id = (0, false) := by
  unfold rWhen
  rw [List.find?_eq_none.2 (fun t ht => by simpa using fun e => h (List.mem_map.2 ⟨t, ht, e⟩))]
theorem when_some : ∀ {l : List TM} {t : TM}, (l.map (·.2)).Nodup → t ∈ l → rWhen l t.2 = (t.1, true)
  | [], _, _, h => by cases h
  | s :: r, t, hn, h => by
    rw [List.map_cons, List.nodup_cons] at hn
    unfold rWhen
    rcases List.mem_cons.1 h with e | e
    · subst e; rw [List.find?_cons_of_pos (by simp)]
    · have hne : s.2 ≠ t.2 := fun q => hn.1 (q ▸ List.mem_map.2 ⟨t, e, rfl⟩)
      rw [List.find?_cons_of_neg (by simpa using hne)]
      exact when_some hn.2 e
theorem set_perm {α : Type} : ∀ (l : List α) (i : Nat) (a : α), i < l.length → (l.set i a).Perm (a :: l.eraseIdx i)
  | [], _, _, h => by simp at h
  | x :: r, 0, a, _ => by simp
  | x :: r, i + 1, a, h => by
    simp only [List.set_cons_succ, List.eraseIdx_cons_succ]
    exact ((set_perm r i a (by simpa using h)).cons x).trans (List.Perm.swap _ _ _)
theorem at_perm {α : Type} : ∀ (l : List α) (i : Nat) (a : α), l[i]? = some a → l.Perm (a :: l.eraseIdx i)
  | [], _, _, h => by simp at h
  | x :: r, 0, a, h => by simp at h; subst h; simp
  | x :: r, i + 1, a, h => by
    simp only [List.eraseIdx_cons_succ]
    exact ((at_perm r i a (by simpa using h)).cons x).trans (List.Perm.swap _ _ _)
/-- the least stands on top -/
theorem top_of {l : List TM} {t : TM} (hs : l.Pairwise ah) (hm : t ∈ l) (hl : ∀ s ∈ l, ¬ ah s t) : ∃ r, l = t :: r := by
  cases l with
  | nil => cases hm
  | cons s r =>
    rw [List.pairwise_cons] at hs
    rcases List.mem_cons.1 hm with e | e
    · exact ⟨r, by rw [e]⟩
    · exact absurd (hs.1 t e) (hl s (by simp))
end Go.Proofs.Ytgfoobgkpnknmaa
