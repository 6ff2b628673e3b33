/- Maps of the call's own: a list of keys and values; look-up, store, delete, length. -/
import Derived.Test.YtgfoobgkpnknmaaM
import Derived.MapKept
import Derived.Maps.OwnOps
import Derived.Maps.OwnSet
namespace Go.Proofs.Ytgfoobgkpnknmaa
set_option linter.unusedSimpArgs false
set_option linter.unusedVariables false
open Go.RowKit
section
variable {κ : Type}
/-- block b is a map that reads as kvs -/
def MapIs (w : World) (b : Nat) (key : κ → Value) (kvs : List (κ × Value)) : Prop :=
  ∃ (es : Array MapEntry) (c : Nat), w.heap[b]? = some (.map es c) ∧ es.toList.map (fun e => (e.key, e.val)) = kvs.map (fun x => (key x.1, x.2))
variable {P : Program} {w w' : World} {K T E : TypeId} {key : κ → Value} {b : Nat} {kvs : List (κ × Value)} {F : Nat → Prop}
theorem MapIs.lt (h : MapIs w b key kvs) : b < w.heap.size := by
  obtain ⟨es, c, h, _⟩ := h
  rcases Nat.lt_or_ge b w.heap.size with hlt | hge
  · exact hlt
  · rw [Array.getElem?_eq_none hge] at h; cases h
theorem MapIs.ne {t : TypeId} {cs : Array Value} {g : Nat} (h : MapIs w b key kvs) (hb : Blk w g t cs) : b ≠ g := by
  rintro rfl
  obtain ⟨es, c, h, _⟩ := h
  unfold Blk at hb
  rw [hb] at h; cases h
theorem MapIs.fr (h : MapIs w b key kvs) (hf : Fr F w w') (hb : ¬ F b) : MapIs w' b key kvs := by
  have hl := h.lt
  obtain ⟨es, c, h, e⟩ := h
  exact ⟨es, c, (hf.block b hl hb).trans h, e⟩
theorem MapIs.drewN (h : MapIs w b key kvs) (n : Nat) : MapIs (w.drewN n) b key kvs := h
theorem MapIs.made (w : World) (key : κ → Value) : MapIs (w.alloc (.map #[] 0)) w.heap.size key [] := by
  refine ⟨#[], 0, ?_, rfl⟩
  show (w.heap.push _)[w.heap.size]? = _
  simp
end
theorem obj_get {P : Program} {w : World} {r : Nat} {es : Array MapEntry} {c : Nat} (hb : w.heap[r]? = some (.map es c)) : (getObj r).run P w = .ok (.map es c) w := by
  simp [getObj, Sem.run, hb]
theorem obj_set {P : Program} {w : World} {r : Nat} {es : Array MapEntry} {c : Nat} (o : Obj) (hb : w.heap[r]? = some (.map es c)) : (setObj r o).run P w = .ok () { w with heap := w.heap.setIfInBounds r o } := by
  simp [setObj, Sem.run, hb]
section
variable {κ : Type} [DecidableEq κ]
def lookI (k : κ) : List (κ × Value) → Nat → Option (Nat × Value)
  | [], _ => none
  | x :: r, i => if x.1 = k then some (i, x.2) else lookI k r (i + 1)
def mget (k : κ) : List (κ × Value) → Option Value
  | [] => none
  | x :: r => if x.1 = k then some x.2 else mget k r
def mput (k : κ) (v : Value) : List (κ × Value) → List (κ × Value)
  | [] => [(k, v)]
  | x :: r => if x.1 = k then (k, v) :: r else x :: mput k v r
def mdel (k : κ) : List (κ × Value) → List (κ × Value)
  | [] => []
  | x :: r => if x.1 = k then r else x :: mdel k r
theorem map_eraseIdx {α β : Type} (f : α → β) : ∀ (l : List α) (i : Nat), (l.eraseIdx i).map f = (l.map f).eraseIdx i
  | [], _ => rfl
  | _ :: _, 0 => rfl
  | x :: r, i + 1 => by simp [map_eraseIdx f r i]
theorem lookI_get (k : κ) : ∀ (l : List (κ × Value)) i, (lookI k l i).map (·.2) = mget k l
  | [], _ => rfl
  | x :: r, i => by
    unfold lookI mget
    split
    · rfl
    · exact lookI_get k r (i + 1)
theorem lookI_none {k : κ} : ∀ {l : List (κ × Value)} {i}, lookI k l i = none → ∀ v, mput k v l = l ++ [(k, v)] ∧ mdel k l = l
  | [], _, _, _ => ⟨rfl, rfl⟩
  | x :: r, i, h, v => by
    unfold lookI at h
    unfold mput mdel
    split at h
    · cases h
    · rename_i hx
      rw [if_neg hx, if_neg hx, (lookI_none h v).1, (lookI_none h v).2]
      exact ⟨rfl, rfl⟩
theorem lookI_some {k : κ} : ∀ {l : List (κ × Value)} {i j : Nat} {u : Value}, lookI k l i = some (j, u) → ∃ m, j = i + m ∧ m < l.length ∧ (l[m]?).map (·.1) = some k ∧ (∀ v, mput k v l = l.set m (k, v)) ∧ mdel k l = l.eraseIdx m
  | [], _, _, _, h => by cases h
  | x :: r, i, j, u, h => by
    unfold lookI at h
    split at h
    · rename_i hx
      injection h with h; injection h with h1 h2
      refine ⟨0, by omega, by simp, by simp [hx], fun v => ?_, ?_⟩
      · unfold mput; rw [if_pos hx]; rfl
      · unfold mdel; rw [if_pos hx]; rfl
    · rename_i hx
      obtain ⟨m, e1, e2, e3, e4, e5⟩ := lookI_some h
      refine ⟨m + 1, by omega, by simpa using e2, by simpa using e3, fun v => ?_, ?_⟩
      · unfold mput; rw [if_neg hx, e4]; rfl
      · unfold mdel; rw [if_neg hx, e5]; rfl
theorem mget_put (k k' : κ) (v : Value) : ∀ l : List (κ × Value), mget k' (mput k v l) = if k' = k then some v else mget k' l
  | [] => by unfold mput mget; by_cases h : k = k' <;> simp [h, eq_comm, mget]
  | x :: r => by
    have ih := mget_put k k' v r
    unfold mput
    by_cases hx : x.1 = k
    · rw [if_pos hx]
      unfold mget
      by_cases h : k = k'
      · rw [if_pos h, if_pos h.symm]
      · rw [if_neg h, if_neg (Ne.symm h), if_neg (by rw [hx]; exact h)]
    · rw [if_neg hx]
      unfold mget
      by_cases h : x.1 = k'
      · rw [if_pos h, if_pos h, if_neg (by rw [← h]; exact hx)]
      · rw [if_neg h, if_neg h]; exact ih
theorem mget_mem {k : κ} {v : Value} : ∀ {l : List (κ × Value)}, mget k l = some v → (k, v) ∈ l
  | [], h => by cases h
  | x :: r, h => by
    unfold mget at h
    split at h
    · rename_i hx; injection h with h; subst h; subst hx; simp
    · exact List.mem_cons_of_mem _ (mget_mem h)
theorem mget_of_mem {k : κ} {v : Value} : ∀ {l : List (κ × Value)}, (l.map (·.1)).Nodup → (k, v) ∈ l → mget k l = some v
  | [], _, h => by cases h
  | x :: r, hn, h => by
    rw [List.map_cons, List.nodup_cons] at hn
    unfold mget
    rcases List.mem_cons.1 h with e | e
    · rw [← e]; simp
    · rw [if_neg (fun q => hn.1 (by rw [q]; exact List.mem_map.2 ⟨(k, v), e, rfl⟩))]
      exact mget_of_mem hn.2 e
theorem mget_none {k : κ} : ∀ {l : List (κ × Value)}, k ∉ l.map (·.1) → mget k l = none
  | [], _ => rfl
  | x :: r, h => by
    rw [List.map_cons, List.mem_cons, not_or] at h
    unfold mget
    rw [if_neg (Ne.symm h.1)]
    exact mget_none h.2
theorem mget_none' {k : κ} : ∀ {l : List (κ × Value)}, mget k l = none → k ∉ l.map (·.1)
  | [], _ => by simp
  | x :: r, h => by
    unfold mget at h
    split at h
    · cases h
    · rename_i hx
      rw [List.map_cons, List.mem_cons, not_or]
      exact ⟨Ne.symm hx, mget_none' h⟩
theorem mput_new {k : κ} (v : Value) : ∀ {l : List (κ × Value)}, k ∉ l.map (·.1) → mput k v l = l ++ [(k, v)]
  | [], _ => rfl
  | x :: r, h => by
    rw [List.map_cons, List.mem_cons, not_or] at h
    unfold mput
    rw [if_neg (Ne.symm h.1), mput_new v h.2]
    rfl
theorem mput_keys {k : κ} (v : Value) : ∀ {l : List (κ × Value)}, k ∈ l.map (·.1) → (mput k v l).map (·.1) = l.map (·.1)
  | [], h => by simp at h
  | x :: r, h => by
    unfold mput
    by_cases hx : x.1 = k
    · rw [if_pos hx]; simp [hx]
    · rw [if_neg hx]
      rw [List.map_cons, List.mem_cons] at h
      rcases h with h | h
      · exact absurd h.symm hx
      · simp [mput_keys v h]
theorem mdel_perm {k : κ} {v : Value} : ∀ {l : List (κ × Value)}, mget k l = some v → ((k, v) :: mdel k l).Perm l
  | [], h => by cases h
  | x :: r, h => by
    unfold mget at h
    unfold mdel
    split at h
    · rename_i hx
      injection h with h
      rw [if_pos hx]
      have : (k, v) = x := by rw [← h, ← hx]
      rw [this]
    · rename_i hx
      rw [if_neg hx]
      exact (List.Perm.swap _ _ _).trans ((mdel_perm h).cons _)
theorem mdel_none {k : κ} : ∀ {l : List (κ × Value)}, mget k l = none → mdel k l = l
  | [], _ => rfl
  | x :: r, h => by
    unfold mget at h
    unfold mdel
    split at h
    · cases h
    · rename_i hx; rw [if_neg hx, mdel_none h]

/-- the law of a key's type -/
structure KeyLaw (P : Program) (K : TypeId) (key : κ → Value) : Prop where
  check : ∀ (b : Bool) (k : κ) (w : World), (Instr.checkKey b 10000 K (key k)).run P w = .ok () w
  find : ∀ (es : List MapEntry) (kvs : List (κ × Value)) (k : κ) (w : World), es.map (fun e => (e.key, e.val)) = kvs.map (fun x => (key x.1, x.2)) → (Instr.findKey K (key k) es).run P w = .ok (lookI k kvs 0) w
  stays : ∀ k : κ, Instr.sameBits 10000 (key k) (key k) = true
variable {P : Program} {w w' : World} {K T E : TypeId} {key : κ → Value} {b : Nat} {kvs : List (κ × Value)} {F : Nat → Prop}
theorem MapIs.lookup (h : MapIs w b key kvs) (L : KeyLaw P K key) (ht : P.underlying T = some (.map K E)) {z : Value} (hz : (zeroValue E).run P w = .ok z w) (k : κ) (ok : Bool) :
    (Instr.lookup T (.map (some b)) (key k) ok).run P w = .ok (if ok then .tuple #[(mget k kvs).getD z, .bool (mget k kvs).isSome] else (mget k kvs).getD z) w := by
  obtain ⟨es, c, h, e⟩ := h
  have hf := L.find es.toList kvs k w e
  have hg := lookI_get k kvs 0
  simp only [Instr.lookup, Sem.run_bind, run_underlying ht, Result.andThen_ok, obj_get h, L.check, Sem.run_pure, hf]
  cases hl : lookI k kvs 0 with
  | none => rw [hl] at hg; simp at hg; simp [← hg, hz]
  | some x => rw [hl] at hg; simp at hg; simp [← hg]
omit [DecidableEq κ] in
theorem MapIs.len (h : MapIs w b key kvs) (ht : P.underlying T = some (.map K E)) (ty : TypeId) : (Builtin.len_ #[T] ty #[.map (some b)]).run P w = .ok (.int .i64 kvs.length) w := by
  obtain ⟨es, c, h, e⟩ := h
  have hl := congrArg List.length e
  simp at hl
  simp [Builtin.len_, run_underlying ht, obj_get h, goInt, hl]
theorem mapw_fr (w : World) (b : Nat) (o : Obj) : Fr (fun k => k = b) w { w with heap := w.heap.setIfInBounds b o } :=
  ⟨rfl, rfl, rfl, by simp, fun k hk hne => by simp [Array.getElem?_setIfInBounds, Ne.symm hne]⟩
theorem mapw_at (w : World) {b : Nat} (o : Obj) (hb : b < w.heap.size) : ({ w with heap := w.heap.setIfInBounds b o } : World).heap[b]? = some o := by simp [hb]
theorem MapIs.update (h : MapIs w b key kvs) (L : KeyLaw P K key) (ht : P.underlying T = some (.map K E)) (k : κ) (v : Value) :
    ∃ w', (Instr.mapUpdate T (.map (some b)) (key k) v).run P w = .ok () w' ∧ MapIs w' b key (mput k v kvs) ∧ Fr (fun k => k = b) w w' := by
  have hl := h.lt
  obtain ⟨es, c, h, e⟩ := h
  have hf := L.find es.toList kvs k w e
  simp only [Instr.mapUpdate, Sem.run_bind, run_underlying ht, Result.andThen_ok, obj_get h, L.check, hf]
  cases hlk : lookI k kvs 0 with
  | none =>
    refine ⟨_, obj_set _ h, ⟨_, _, mapw_at w _ hl, ?_⟩, mapw_fr _ _ _⟩
    rw [(lookI_none hlk v).1]
    simp [e]
  | some x =>
    obtain ⟨i, u⟩ := x
    obtain ⟨m, e1, e2, e3, e4, _⟩ := lookI_some hlk
    obtain rfl : i = m := by omega
    have hel := congrArg List.length e
    simp at hel
    have hik : (((es[i]?).map (·.key)).getD (key k)) = key k := by
      have h2 := congrArg (fun l : List (Value × Value) => (l[i]?).map (·.1)) e
      simp only [List.getElem?_map, Array.getElem?_toList, Option.map_map, Function.comp_def] at h2
      rw [h2]
      have : (kvs[i]?).map (fun x => key x.1) = some (key k) := by
        have := congrArg (Option.map key) e3
        simpa [Option.map_map, Function.comp_def] using this
      rw [this]; rfl
    refine ⟨_, ?_, ⟨_, _, mapw_at w (.map (es.modify i fun e => { e with key := key k, val := v }) c) hl, ?_⟩, mapw_fr _ _ _⟩
    · simp only [hik, Instr.keyThatStays, L.stays, if_true, Sem.run_pure, Result.andThen_ok]
      exact obj_set _ h
    · rw [e4, Array.toList_modify]
      apply List.ext_getElem?
      intro j
      have h2 := congrArg (fun l : List (Value × Value) => l[j]?) e
      simp only [List.getElem?_map, Array.getElem?_toList] at h2 ⊢
      rw [List.getElem?_modify, List.getElem?_set]
      by_cases hj : i = j
      · subst hj
        have hil : i < es.size := by omega
        simp [hil, e2]
      · simp only [hj, if_false, Option.map_eq_map, id_map', Option.map_id', Array.getElem?_toList]
        exact h2
theorem MapIs.delete (h : MapIs w b key kvs) (L : KeyLaw P K key) (ht : P.underlying T = some (.map K E)) (k : κ) (t2 ty : TypeId) :
    ∃ w', (Builtin.delete_ #[T, t2] ty #[.map (some b), key k]).run P w = .ok (.tuple #[]) w' ∧ MapIs w' b key (mdel k kvs) ∧ Fr (fun k => k = b) w w' := by
  have hl := h.lt
  obtain ⟨es, c, h, e⟩ := h
  have hf := L.find es.toList kvs k w e
  have hgo : ∀ o : Obj, (setObj b o).run P w = .ok () { w with heap := w.heap.setIfInBounds b o } := fun o => obj_set o h
  cases hlk : lookI k kvs 0 with
  | none =>
    refine ⟨{ w with heap := w.heap.setIfInBounds b (.map es c) }, ?_, ⟨_, _, mapw_at w _ hl, ?_⟩, mapw_fr _ _ _⟩
    · simp [Builtin.delete_, run_underlying ht, obj_get h, L.check, hf, hlk, hgo]
    · rw [(lookI_none hlk (.bool true)).2]; exact e
  | some x =>
    obtain ⟨i, u⟩ := x
    obtain ⟨m, e1, e2, e3, _, e5⟩ := lookI_some hlk
    obtain rfl : i = m := by omega
    have hel := congrArg List.length e
    simp at hel
    refine ⟨{ w with heap := w.heap.setIfInBounds b (.map (es.eraseIdxIfInBounds i) c) }, ?_, ⟨_, _, mapw_at w _ hl, ?_⟩, mapw_fr _ _ _⟩
    · simp [Builtin.delete_, run_underlying ht, obj_get h, L.check, hf, hlk, hgo]
    · rw [e5]
      have : (es.eraseIdxIfInBounds i).toList = es.toList.eraseIdx i := by
        simp [Array.eraseIdxIfInBounds, show i < es.size by omega]
      rw [this, map_eraseIdx, e, map_eraseIdx]
end
def intKey (n : Int) : Value := .int .i64 n
def strKey (s : ByteArray) : Value := .string s
theorem find_now {κ : Type} [DecidableEq κ] {key : κ → Value} {td : TypeDesc} (h : ∀ a b : κ, Instr.sameNow td (key a) (key b) = some (decide (b = a))) (k : κ) :
    ∀ (es : List MapEntry) (kvs : List (κ × Value)) (i : Nat), es.map (fun e => (e.key, e.val)) = kvs.map (fun x => (key x.1, x.2)) → Instr.findNow td (key k) es i = some (lookI k kvs i)
  | [], [], _, _ => rfl
  | [], _ :: _, _, e => by simp at e
  | _ :: _, [], _, e => by simp at e
  | e :: es, x :: kvs, i, he => by
    simp only [List.map_cons, List.cons.injEq, Prod.mk.injEq] at he
    obtain ⟨⟨h1, h2⟩, h3⟩ := he
    unfold Instr.findNow lookI
    rw [h1, h]
    by_cases hx : x.1 = k
    · rw [if_pos hx, h2]; simp [hx]
    · rw [if_neg hx]; simp [hx]; exact find_now h k es kvs (i + 1) h3
theorem check_int {P : Program} {K : TypeId} (hK : P.underlying K = some (.int .i64)) (b : Bool) (k : Int) (w : World) : ∀ n : Nat, 0 < n → (Instr.checkKey b n K (.int .i64 k)).run P w = .ok () w
  | 0, h => absurd h (by omega)
  | n + 1, _ => by simp [Instr.checkKey, run_underlying hK]
theorem check_str {P : Program} {K : TypeId} (hK : P.underlying K = some .string) (b : Bool) (k : ByteArray) (w : World) : ∀ n : Nat, 0 < n → (Instr.checkKey b n K (.string k)).run P w = .ok () w
  | 0, h => absurd h (by omega)
  | n + 1, _ => by simp [Instr.checkKey, run_underlying hK]
theorem bits_int (k : Int) : ∀ n : Nat, Instr.sameBits n (.int .i64 k) (.int .i64 k) = true
  | 0 => by simp [Instr.sameBits]
  | n + 1 => by simp [Instr.sameBits]
theorem ba_beq_self (k : ByteArray) : (k == k) = true := by
  rw [beq_toListBytes]; exact beq_self_eq_true _
theorem bits_str (k : ByteArray) : ∀ n : Nat, Instr.sameBits n (.string k) (.string k) = true
  | 0 => by simp only [Instr.sameBits]; exact ba_beq_self k
  | n + 1 => by simp only [Instr.sameBits]; exact ba_beq_self k
theorem intLaw {P : Program} {K : TypeId} (hK : P.underlying K = some (.int .i64)) : KeyLaw P K intKey := by
  refine ⟨fun b k w => check_int hK b k w 10000 (by omega), fun es kvs k w h => ?_, fun k => bits_int k 10000⟩
  have := find_now (key := intKey) (td := .int .i64) (fun a b => by
    simp only [Instr.sameNow, intKey, if_true, Option.some.injEq]
    by_cases h : b = a
    · rw [h, decide_eq_true rfl]; exact beq_self_eq_true a
    · rw [decide_eq_false h]; exact beq_eq_false_iff_ne.2 (Ne.symm h)) k es kvs 0 h
  simp [Instr.findKey, run_underlying hK, this]
theorem strLaw {P : Program} {K : TypeId} (hK : P.underlying K = some .string) : KeyLaw P K strKey := by
  refine ⟨fun b k w => check_str hK b k w 10000 (by omega), fun es kvs k w h => ?_, fun k => bits_str k 10000⟩
  have := find_now (key := strKey) (td := .string) (fun a b => by
    simp only [Instr.sameNow, strKey, Option.some.injEq]
    rw [beq_toListBytes]
    by_cases h : b = a
    · rw [h, decide_eq_true rfl]; exact beq_self_eq_true _
    · rw [decide_eq_false h]; exact beq_no (Ne.symm h)) k es kvs 0 h
  simp [Instr.findKey, run_underlying hK, this]
end Go.Proofs.Ytgfoobgkpnknmaa
