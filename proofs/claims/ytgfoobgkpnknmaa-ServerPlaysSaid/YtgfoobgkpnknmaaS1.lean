/- The server's table in plain Lean. -/
import Derived.Test.YtgfoobgkpnknmaaM7
namespace Go.Proofs.Ytgfoobgkpnknmaa
structure SC where
  id : Int
  key : SK
  over : Int
  told : Bool
  to : ByteArray
  bs : ByteArray
def sFind (k : SK) : List SC → Option Int
  | [] => none
  | c :: r => if c.key = k then some c.id else sFind k r
def sPlace (n : Int) : List SC → Option (Nat × SC)
  | [] => none
  | c :: r => if c.id = n then some (0, c) else (sPlace n r).map fun x => (x.1 + 1, x.2)
def sStartE (most : Int) (l : List SC) (k : SK) (now : Int) : Int :=
  if now < 0 ∨ 1099511627776 - 320 < now then 1 else if (sFind k l).isSome then 7 else if most ≤ l.length then 5 else 0
def sNew (last : Int) (k : SK) (now : Int) : SC := ⟨last + 1, k, now + 320, false, ⟨#[]⟩, ⟨#[]⟩⟩
def sKeep (now : Int) (l : List SC) : List SC := l.filter fun c => decide (now < c.over)
def sGone (now : Int) (l : List SC) : List Int := (l.filter fun c => decide (c.over ≤ now)).map (·.id)
structure SvP (most last : Int) (l : List SC) : Prop where
  ids : l.Pairwise fun a b => a.id < b.id
  keys : l.Pairwise fun a b => a.key ≠ b.key
  low : ∀ c ∈ l, 1 ≤ c.id ∧ c.id ≤ last
  len : (l.length : Int) ≤ most
theorem sFind_none {k : SK} {l : List SC} : sFind k l = none ↔ ∀ c ∈ l, c.key ≠ k := by
  induction l with
  | nil => simp [sFind]
  | cons c r ih =>
    by_cases h : c.key = k
    · simp [sFind, h]
    · simp [sFind, h, ih]
theorem SvP.keep {most last : Int} {l : List SC} (h : SvP most last l) (now : Int) : SvP most last (sKeep now l) where
  ids := h.ids.filter _
  keys := h.keys.filter _
  low := fun c hc => h.low c (List.mem_filter.1 hc).1
  len := by
    have := List.length_filter_le (fun c => decide (now < SC.over c)) l
    have := h.len
    unfold sKeep
    omega
theorem SvP.start {most last : Int} {l : List SC} (h : SvP most last l) (hl : 0 ≤ last) {k : SK} {now : Int} (he : sStartE most l k now = 0) : SvP most (last + 1) (l ++ [sNew last k now]) := by
  unfold sStartE at he
  split at he
  · omega
  · split at he
    · omega
    · rename_i hn
      split at he
      · omega
      · rename_i hm
        have hn : sFind k l = none := by simpa using hn
        have hn := sFind_none.1 hn
        refine ⟨?_, ?_, ?_, ?_⟩
        · rw [List.pairwise_append]
          refine ⟨h.ids, List.pairwise_singleton _ _, fun a ha b hb => ?_⟩
          rw [List.mem_singleton.1 hb]
          have := (h.low a ha).2
          show a.id < last + 1
          omega
        · rw [List.pairwise_append]
          refine ⟨h.keys, List.pairwise_singleton _ _, fun a ha b hb => ?_⟩
          rw [List.mem_singleton.1 hb]
          exact hn a ha
        · intro c hc
          rcases List.mem_append.1 hc with hc | hc
          · have := h.low c hc
            omega
          · rw [List.mem_singleton.1 hc]
            show 1 ≤ last + 1 ∧ last + 1 ≤ last + 1
            omega
        · simp only [List.length_append, List.length_singleton]
          omega
theorem rises_gone {l : List SC} (h : l.Pairwise fun a b => a.id < b.id) (now : Int) : (sGone now l).Pairwise (· < ·) := by
  unfold sGone
  rw [List.pairwise_map]
  exact h.filter _
theorem sorted_is {a b : List Int} (ha : a.Pairwise (· < ·)) (hb : b.Pairwise (· ≤ ·)) (hp : b.Perm a) : b = a :=
  hp.eq_of_pairwise (le := (· ≤ ·)) (fun _ _ _ _ h1 h2 => Int.le_antisymm h1 h2) hb (ha.imp Int.le_of_lt)
def sAnsE (l : List SC) (n : Int) : Int := match sPlace n l with
  | none => 6
  | some x => if x.2.told then 7 else 0
def sTell (n : Int) (to bs : ByteArray) (l : List SC) : List SC := l.map fun c => if c.id = n then { c with told := true, to := to, bs := bs } else c
def sCached (n : Int) (l : List SC) : Option (ByteArray × ByteArray) := match sPlace n l with
  | none => none
  | some x => if x.2.told then some (x.2.to, x.2.bs) else none
theorem tell_id (n : Int) (to bs : ByteArray) (c : SC) : (if c.id = n then { c with told := true, to := to, bs := bs } else c : SC).id = c.id := by split <;> rfl
theorem tell_key (n : Int) (to bs : ByteArray) (c : SC) : (if c.id = n then { c with told := true, to := to, bs := bs } else c : SC).key = c.key := by split <;> rfl
theorem SvP.tell {most last : Int} {l : List SC} (h : SvP most last l) (n : Int) (to bs : ByteArray) : SvP most last (sTell n to bs l) where
  ids := by
    unfold sTell
    rw [List.pairwise_map]
    simp only [tell_id]
    exact h.ids
  keys := by
    unfold sTell
    rw [List.pairwise_map]
    simp only [tell_key]
    exact h.keys
  low := by
    intro c hc
    obtain ⟨d, hd, rfl⟩ := List.mem_map.1 hc
    rw [tell_id]
    exact h.low d hd
  len := by
    have := h.len
    unfold sTell
    rw [List.length_map]
    exact this
theorem place_at {n : Int} {l : List SC} {x : Nat × SC} (h : sPlace n l = some x) : l[x.1]? = some x.2 ∧ x.2.id = n := by
  induction l generalizing x with
  | nil => cases h
  | cons c r ih =>
    by_cases e : c.id = n
    · rw [sPlace, if_pos e] at h
      cases h
      exact ⟨rfl, e⟩
    · rw [sPlace, if_neg e, Option.map_eq_some_iff] at h
      obtain ⟨y, hy, rfl⟩ := h
      have := ih hy
      exact ⟨by simpa using this.1, this.2⟩
theorem place_none {n : Int} {l : List SC} : sPlace n l = none ↔ ∀ c ∈ l, c.id ≠ n := by
  induction l with
  | nil => simp [sPlace]
  | cons c r ih =>
    by_cases e : c.id = n
    · simp [sPlace, e]
    · simp [sPlace, e, ih]
theorem find_mget (k : SK) (f : Int → Value) (l : List SC) : mget k (l.map fun c => (c.key, f c.id)) = (sFind k l).map f := by
  induction l with
  | nil => rfl
  | cons c r ih =>
    by_cases e : c.key = k
    · simp [mget, sFind, e]
    · simp [mget, sFind, e, ih]
theorem tell_set {l : List SC} (hi : l.Pairwise fun a b => a.id < b.id) {n : Int} {x : Nat × SC} (h : sPlace n l = some x) (to bs : ByteArray) :
    sTell n to bs l = l.set x.1 { x.2 with told := true, to := to, bs := bs } := by
  induction l generalizing x with
  | nil => cases h
  | cons c r ih =>
    have hr := List.pairwise_cons.1 hi
    by_cases e : c.id = n
    · rw [sPlace, if_pos e] at h
      cases h
      have hk : r.map (fun c => if c.id = n then { c with told := true, to := to, bs := bs } else c) = r := by
        refine (List.map_congr_left fun d hd => ?_).trans (List.map_id _)
        have := hr.1 d hd
        exact if_neg (by omega)
      simp only [sTell, List.map_cons, if_pos e, List.set_cons_zero, hk]
    · rw [sPlace, if_neg e, Option.map_eq_some_iff] at h
      obtain ⟨y, hy, rfl⟩ := h
      have := ih hr.2 hy
      simp only [sTell, List.map_cons, if_neg e, List.set_cons_succ] at this ⊢
      rw [this]
theorem put_new {k : SK} {v : Value} {kvs : List (SK × Value)} (h : mget k kvs = none) : mput k v kvs = kvs ++ [(k, v)] := by
  induction kvs with
  | nil => rfl
  | cons x r ih =>
    by_cases e : x.1 = k
    · simp [mget, e] at h
    · simp only [mget, if_neg e] at h
      simp [mput, e, ih h]
theorem SvP.nil {most : Int} (h : 0 ≤ most) : SvP most 0 [] where
  ids := List.Pairwise.nil
  keys := List.Pairwise.nil
  low := fun c hc => by cases hc
  len := h
end Go.Proofs.Ytgfoobgkpnknmaa
