/- Ranging over a map of the call's own: in whatever order, each entry once. Chapter 20: the law of a map's key that is a struct of two strings; rules in plain Lean. Chapter 20: the table of rules as an object; New, made, name, Check. Chapter 20: the table of rules: Set, Ask. Chapter 20: Start, Turn of both; awake; PolicyTurns. Chapter 20: PolicyLast, PolicySelf. Chapter 20 in plain Lean: the document's list of rules, and the map of them. Chapter 20: the document's answer: Check, less, Ask, Same. Chapter 20: the document's answer: Set. Chapter 20: the order of rules: cmp.Compare, cmp.Or, the closure that All hands to slices.SortFunc. Chapter 20: the table of rules: All. Arguments: rules, by value and in slices, where the bulk is bounded. -/
import Derived.Test.YtpnchfigehgkgaaGreatDoorGa
import Derived.Maps.RangeWalk
import Derived.Test.YtpnchfigehgkgaaGreatDoorProg
import Derived.DeepKeys3
import Derived.Laws.StructEq
import Derived.Test.YtpnchfigehgkgaaGreatDoorGw
import Derived.Deep.QuietTactic
import Derived.BigQuiet
import Derived.StillTailTactics
import Derived.Sort.Walk0
import Derived.Shelf.SlSortCmp.NoneTotal
import Derived.Test.YtpnchfigehgkgaaGreatDoorSh2
import Derived.Sort.OwnSortedInts
import Derived.Test.YtpnchfigehgkgaaGreatDoorGk
namespace Go.Proofs.YtpnchfigehgkgaaGreatDoor
set_option linter.unusedSimpArgs false
set_option linter.unusedVariables false
open Go.RowKit Go.ChangeMaps
/-- block b is a map whose entries' stamps are apart and lie below its clock -/
def Born (w : World) (b : Nat) : Prop := ∃ (es : Array MapEntry) (c : Nat), w.heap[b]? = some (.map es c) ∧ (es.toList.map (·.born)).Nodup ∧ ∀ e ∈ es.toList, e.born < c
section
variable {P : Program} {w w' : World} {b : Nat} {F : Nat → Prop}
theorem Born.lt (h : Born w b) : b < w.heap.size := by
  obtain ⟨es, c, h, _⟩ := h
  exact (Array.getElem?_eq_some_iff.1 h).1
theorem Born.fr (h : Born w b) (hf : Fr F w w') (hb : ¬ F b) : Born w' b := by
  have hl := h.lt
  obtain ⟨es, c, h, e⟩ := h
  exact ⟨es, c, (hf.block b hl hb).trans h, e⟩
theorem Born.drewN (h : Born w b) (n : Nat) : Born (w.drewN n) b := h
theorem Born.made (w : World) : Born (w.alloc (.map #[] 0)) w.heap.size := by
  refine ⟨#[], 0, ?_, by simp, by simp⟩
  show (w.heap.push _)[w.heap.size]? = _
  simp
variable {κ : Type} [DecidableEq κ] {key : κ → Value} {kvs : List (κ × Value)} {K T E : TypeId}
theorem Born.update (hB : Born w b) (h : MapIs w b key kvs) (L : KeyLaw P K key) (ht : P.underlying T = some (.map K E)) (k : κ) (v : Value)
    (hr : (Instr.mapUpdate T (.map (some b)) (key k) v).run P w = .ok () w') : Born w' b := by
  obtain ⟨es, c, h, e⟩ := h
  obtain ⟨es', c', h', n1, n2⟩ := hB
  rw [h] at h'
  injection h' with h'; injection h' with q1 q2
  subst q1; subst q2
  have hl : b < w.heap.size := (Array.getElem?_eq_some_iff.1 h).1
  have hf := L.find es.toList kvs k w e
  simp only [Instr.mapUpdate, Sem.run_bind, run_underlying ht, Result.andThen_ok, obj_get h, L.check, hf] at hr
  cases hlk : lookI k kvs 0 with
  | none =>
    rw [hlk] at hr
    simp only [obj_set _ h] at hr
    injection hr with _ hr
    subst hr
    refine ⟨_, _, mapw_at w _ hl, ?_, ?_⟩
    · rw [Array.toList_push, List.map_append, List.nodup_append]
      refine ⟨n1, by simp, fun a ha b' hb' => ?_⟩
      obtain ⟨x, hx, rfl⟩ := List.mem_map.1 ha
      have := n2 x hx
      simp at hb'
      omega
    · intro x hx
      rw [Array.toList_push] at hx
      rcases List.mem_append.1 hx with q | q
      · have := n2 x q; omega
      · simp at q; subst q; simp
  | some x =>
    obtain ⟨i, u⟩ := x
    rw [hlk] at hr
    obtain ⟨m, e1, e2, e3, e4, _⟩ := lookI_some hlk
    obtain rfl : i = m := by omega
    have hik : (((es[i]?).map (·.key)).getD (key k)) = key k := by
      have h2 := congrArg (fun l : List (Value × Value) => (l[i]?).map (·.1)) e
      simp only [List.getElem?_map, Array.getElem?_toList, Option.map_map, Function.comp_def] at h2
      rw [h2]
      have : (kvs[i]?).map (fun x => key x.1) = some (key k) := by
        have := congrArg (Option.map key) e3
        simpa [Option.map_map, Function.comp_def] using this
      rw [this]; rfl
    simp only [hik, Instr.keyThatStays, L.stays, if_true, Sem.run_bind, Sem.run_pure, Result.andThen_ok, obj_set _ h] at hr
    injection hr with _ hr
    subst hr
    have hm : ((es.modify i fun e => { e with key := key k, val := v }).toList.map (·.born)) = es.toList.map (·.born) := by
      rw [Array.toList_modify]
      apply List.ext_getElem?
      intro j
      simp only [List.getElem?_map, List.getElem?_modify, Array.getElem?_toList]
      by_cases hj : i = j <;> cases es[j]? <;> simp [hj]
    refine ⟨_, _, mapw_at w (.map (es.modify i fun e => { e with key := key k, val := v }) c) hl, by rw [hm]; exact n1, fun x hx => ?_⟩
    have hx' := List.mem_map_of_mem (f := MapEntry.born) hx
    rw [hm] at hx'
    obtain ⟨y, hy, ey⟩ := List.mem_map.1 hx'
    have := n2 y hy
    omega
theorem Born.delete (hB : Born w b) (h : MapIs w b key kvs) (L : KeyLaw P K key) (ht : P.underlying T = some (.map K E)) (k : κ) (t2 ty : TypeId) {u : Value}
    (hr : (Builtin.delete_ #[T, t2] ty #[.map (some b), key k]).run P w = .ok u w') : Born w' b := by
  obtain ⟨es, c, h, e⟩ := h
  obtain ⟨es', c', h', n1, n2⟩ := hB
  rw [h] at h'
  injection h' with h'; injection h' with q1 q2
  subst q1; subst q2
  have hl : b < w.heap.size := (Array.getElem?_eq_some_iff.1 h).1
  have hf := L.find es.toList kvs k w e
  have hgo : ∀ o : Obj, (setObj b o).run P w = .ok () { w with heap := w.heap.setIfInBounds b o } := fun o => obj_set o h
  cases hlk : lookI k kvs 0 with
  | none =>
    simp [Builtin.delete_, run_underlying ht, obj_get h, L.check, hf, hlk, hgo] at hr
    obtain ⟨_, rfl⟩ := hr
    exact ⟨_, _, mapw_at w _ hl, n1, n2⟩
  | some x =>
    obtain ⟨i, u⟩ := x
    simp [Builtin.delete_, run_underlying ht, obj_get h, L.check, hf, hlk, hgo] at hr
    obtain ⟨_, rfl⟩ := hr
    have hs : (es.eraseIdxIfInBounds i).toList.Sublist es.toList := by
      unfold Array.eraseIdxIfInBounds
      split
      · rw [Array.toList_eraseIdx]; exact List.eraseIdx_sublist _ _
      · exact List.Sublist.refl _
    exact ⟨_, _, mapw_at w _ hl, n1.sublist (hs.map _), fun x hx => n2 x (hs.subset hx)⟩
end
def kvE (e : MapEntry) : Value × Value := (e.key, e.val)
/-- block r is an iterator over the map at block b; left: what is still to come -/
def Rng (w : World) (b r : Nat) (left : List (Value × Value)) : Prop := ∃ (es : Array MapEntry) (c since c0 : Nat) (seen : Array Nat), w.heap[b]? = some (.map es c) ∧ (es.toList.map (·.born)).Nodup ∧ (∀ e ∈ es.toList, e.born < since) ∧ (since ≤ c0 ∧ since ≤ c) ∧
  w.heap[r]? = some (.mapIter (some b) since seen c0) ∧ (leftOf es seen).toList.map kvE = left
section
variable {P : Program} {w w' : World} {b r : Nat} {F : Nat → Prop} {left : List (Value × Value)}
theorem Rng.ltb (h : Rng w b r left) : b < w.heap.size := by
  obtain ⟨es, c, s, c0, seen, h1, _⟩ := h
  exact (Array.getElem?_eq_some_iff.1 h1).1
theorem Rng.ltr (h : Rng w b r left) : r < w.heap.size := by
  obtain ⟨es, c, s, c0, seen, _, _, _, _, h2, _⟩ := h
  exact (Array.getElem?_eq_some_iff.1 h2).1
theorem Rng.ne (h : Rng w b r left) : r ≠ b := by
  obtain ⟨es, c, s, c0, seen, h1, _, _, _, h2, _⟩ := h
  intro e
  rw [e, h1] at h2
  cases h2
theorem Rng.fr (h : Rng w b r left) (hf : Fr F w w') (hb : ¬ F b) (hr : ¬ F r) : Rng w' b r left := by
  have l1 := h.ltb
  have l2 := h.ltr
  obtain ⟨es, c, s, c0, seen, h1, n1, n2, n3, h2, e⟩ := h
  exact ⟨es, c, s, c0, seen, (hf.block b l1 hb).trans h1, n1, n2, n3, (hf.block r l2 hr).trans h2, e⟩
theorem Rng.notCells (h : Rng w b r left) {g : Nat} {cs : Array Value} {T : TypeId} {fr : Nat × Nat} (hg : w.heap[g]? = some (.cells cs T fr)) : g ≠ b ∧ g ≠ r := by
  obtain ⟨es, c, s, c0, seen, h1, n1, n2, n3, h2, e⟩ := h
  constructor
  · rintro rfl; rw [h1] at hg; cases hg
  · rintro rfl; rw [h2] at hg; cases hg
theorem Rng.start {κ : Type} {key : κ → Value} {kvs : List (κ × Value)} {T K E : TypeId} (hB : Born w b) (h : MapIs w b key kvs) (ht : P.underlying T = some (.map K E)) :
    ∃ w', (Instr.range T (.map (some b))).run P w = .ok (.pointer (some ⟨w.heap.size, 0, none⟩)) w' ∧ Rng w' b w.heap.size (kvs.map fun x => (key x.1, x.2)) ∧ Fr (fun _ => False) w w' ∧ w'.heap.size = w.heap.size + 1 := by
  have hl := h.lt
  obtain ⟨es, c, h, e⟩ := h
  obtain ⟨es', c', h', n1, n2⟩ := hB
  rw [h] at h'
  injection h' with h'; injection h' with q1 q2
  subst q1; subst q2
  refine ⟨_, run_range_map w T K E b es c ht h, ⟨es, c, c, c, #[], (heap_alloc_old w _ hl).trans h, n1, n2, ⟨Nat.le_refl _, Nat.le_refl _⟩, heap_alloc_new w _, ?_⟩, (Fr.refl _ _).alloc _, by simp⟩
  have : leftOf es #[] = es := by unfold leftOf; rw [Array.filter_eq_self]; simp
  rw [this]
  exact e
theorem left_split {es : Array MapEntry} {seen : Array Nat} {e : MapEntry} (n1 : (es.toList.map (·.born)).Nodup) (he : e ∈ (leftOf es seen).toList) :
    (kvE e :: (leftOf es (seen.push e.born)).toList.map kvE).Perm ((leftOf es seen).toList.map kvE) := by
  have hsub : (leftOf es seen).toList.Sublist es.toList := by unfold leftOf; rw [Array.toList_filter]; exact List.filter_sublist
  have hn : ((leftOf es seen).toList.map (·.born)).Nodup := n1.sublist (hsub.map _)
  have hq : (leftOf es (seen.push e.born)).toList = (leftOf es seen).toList.filter fun x => decide (x.born ≠ e.born) := by
    unfold leftOf
    simp only [Array.toList_filter]
    rw [List.filter_filter]
    refine List.filter_congr fun x _ => ?_
    rw [Bool.eq_iff_iff]
    simp only [Bool.not_eq_true', Bool.and_eq_true, decide_eq_true_eq, Array.contains_push, Bool.or_eq_false_iff, beq_eq_false_iff_ne]
    exact ⟨fun ⟨a, b⟩ => ⟨b, a⟩, fun ⟨a, b⟩ => ⟨b, a⟩⟩
  rw [hq]
  have hp : ∀ {l : List MapEntry}, (l.map (·.born)).Nodup → e ∈ l → (e :: l.filter fun x => decide (x.born ≠ e.born)).Perm l := by
    intro l
    induction l with
    | nil => intro _ h; cases h
    | cons a t ih =>
      intro hn he
      rw [List.map_cons, List.nodup_cons] at hn
      by_cases ha : a.born = e.born
      · have hae : a = e := by
          rcases List.mem_cons.1 he with q | q
          · exact q.symm
          · exact absurd (List.mem_map.2 ⟨e, q, ha.symm⟩) hn.1
        subst hae
        rw [List.filter_cons_of_neg (by simp)]
        have : t.filter (fun x => decide (x.born ≠ a.born)) = t := by
          rw [List.filter_eq_self]
          intro y hy
          exact decide_eq_true fun q => hn.1 (q ▸ List.mem_map.2 ⟨y, hy, rfl⟩)
        rw [this]
      · rw [List.filter_cons_of_pos (by simpa using ha)]
        have het : e ∈ t := by
          rcases List.mem_cons.1 he with q | q
          · exact absurd (by rw [q]) ha
          · exact q
        exact (List.Perm.swap _ _ _).trans ((ih hn.2 het).cons _)
  exact (hp hn he).map kvE
theorem Rng.next (h : Rng w b r left) (ty : TypeId) :
    (left = [] ∧ (Instr.next (.pointer (some ⟨r, 0, none⟩)) false ty).run P w = .ok (.tuple #[.bool false]) w) ∨
    ∃ k v w' left', (Instr.next (.pointer (some ⟨r, 0, none⟩)) false ty).run P w = .ok (.tuple #[.bool true, k, v]) w' ∧ ((k, v) :: left').Perm left ∧ Rng w' b r left' ∧ Fr (fun j => j = r) w w' ∧ w'.heap.size = w.heap.size ∧
      (Instr.entry (.pointer (some ⟨r, 0, none⟩))).run P w' = .ok (.tuple #[k, v]) w' := by
  have hne := h.ne
  have hlr := h.ltr
  obtain ⟨es, c, s, c0, seen, h1, n1, n2, n3, h2, rfl⟩ := h
  rcases run_next_at (P := P) w ty r b s c0 seen es c h2 h1 n2 n3.1 with ⟨h0, hrun⟩ | ⟨e, he, w1, hal, hrun⟩
  · left
    refine ⟨?_, hrun⟩
    have : leftOf es seen = #[] := Array.eq_empty_of_size_eq_zero h0
    rw [this]; rfl
  · right
    have hem := (mem_left he).1
    have hr1 : w1.heap = w.heap := by rcases hal with rfl | rfl <;> rfl
    have hb' : (setBlock w1 r (.mapIter (some b) s (seen.push e.born) c)).heap[b]? = some (.map es c) := by
      show (w1.heap.setIfInBounds r _)[b]? = _
      rw [hr1, Array.getElem?_setIfInBounds_ne hne]; exact h1
    have hr' : (setBlock w1 r (.mapIter (some b) s (seen.push e.born) c)).heap[r]? = some (.mapIter (some b) s (seen.push e.born) c) := by
      show (w1.heap.setIfInBounds r _)[r]? = _
      rw [hr1, Array.getElem?_setIfInBounds_self_of_lt hlr]
    refine ⟨e.key, e.val, _, _, hrun, left_split n1 he, ?_, ?_, ?_, run_entry_at _ r b s seen es c e hr' hb' hem n1⟩
    · exact ⟨es, c, s, c, seen.push e.born, hb', n1, n2, ⟨n3.2, n3.2⟩, hr', rfl⟩
    · refine ⟨?_, ?_, ?_, ?_, fun k hk hne' => ?_⟩
      · rcases hal with rfl | rfl <;> rfl
      · rcases hal with rfl | rfl <;> rfl
      · rcases hal with rfl | rfl <;> rfl
      · show w.heap.size ≤ (w1.heap.setIfInBounds r _).size
        rw [hr1]; simp
      · show (w1.heap.setIfInBounds r _)[k]? = _
        rw [hr1, Array.getElem?_setIfInBounds_ne (Ne.symm hne')]
    · show (w1.heap.setIfInBounds r _).size = _
      rw [hr1]; simp
theorem Rng.left_eq (h : Rng w b r left) : w.rangeLeft b r = left.length := by
  obtain ⟨es, c, s, c0, seen, h1, n1, n2, n3, h2, rfl⟩ := h
  simp only [World.rangeLeft, h1, h2, List.length_map, Array.length_toList]
variable {ops : Array Oper} {rest : List Oper} {o : Oper} {a : Act} {Q : Exit → Act → World → Prop}
theorem wpList_range_is {κ : Type} {key : κ → Value} {kvs : List (κ × Value)} (hg : o.guard = none) (m : Operand) (t : TypeId) (hop : o.op = Op.range t m) (k e : TypeId) (ht : P.underlying t = some (.map k e)) (hm : a.eval m = .map (some b)) (hB : Born w b) (h : MapIs w b key kvs)
    (hK : ∀ w', Rng w' b w.heap.size (kvs.map fun x => (key x.1, x.2)) → Fr (fun _ => False) w w' → w'.heap.size = w.heap.size + 1 → wpList P ops Q rest (a.put o.dst (.pointer (some ⟨w.heap.size, 0, none⟩))) w') : wpList P ops Q (o :: rest) a w := by
  refine wpList_plain hg fun K' hK' => ?_
  obtain ⟨w', hrun, r1, r2, r3⟩ := Rng.start (P := P) hB h ht
  unfold Oper.wp
  simp [execOp, hop, hm, hrun, Result.andThen]
  exact hK' _ _ (hK w' r1 r2 r3)
theorem wpList_next_is {α β : Type} (hg : o.guard = none) (it : Operand) (hop : o.op = Op.next it false) (mkK : α → Value) (mkV : β → Value) (hit : a.eval it = .pointer (some ⟨r, 0, none⟩)) (h : Rng w b r left) (inv : ∀ x ∈ left, ∃ k v, x = (mkK k, mkV v))
    (hDone : left = [] → wpList P ops Q rest (a.put o.dst (.tuple #[.bool false])) w)
    (hMore : ∀ k v w' left', ((mkK k, mkV v) :: left').Perm left → Rng w' b r left' → Fr (fun j => j = r) w w' → w'.heap.size = w.heap.size → (Instr.entry (.pointer (some ⟨r, 0, none⟩))).run P w' = .ok (.tuple #[mkK k, mkV v]) w' → wpList P ops Q rest (a.put o.dst (.tuple #[.bool true, mkK k, mkV v])) w') : wpList P ops Q (o :: rest) a w := by
  refine wpList_plain hg fun K' hK' => ?_
  unfold Oper.wp
  rcases h.next (P := P) o.type with ⟨h0, hrun⟩ | ⟨k, v, w', left', hrun, hp, hr, hf, hs, hen⟩
  · simp [execOp, hop, hit, hrun, Result.andThen]
    exact hK' _ _ (hDone h0)
  · obtain ⟨k', v', e⟩ := inv (k, v) (hp.mem_iff.1 List.mem_cons_self)
    injection e with e1 e2
    subst e1; subst e2
    simp [execOp, hop, hit, hrun, Result.andThen]
    exact hK' _ _ (hMore k' v' w' left' hp hr hf hs hen)
end
end Go.Proofs.YtpnchfigehgkgaaGreatDoor
set_option maxRecDepth 100000
namespace Go.Proofs.YtpnchfigehgkgaaGreatDoor
open Go.RowKit
abbrev PK := ByteArray × ByteArray
instance : DecidableEq PK := inferInstance
def pkKey (k : PK) : Value := .agg #[.string k.1, .string k.2]
theorem pkKey_inj {a b : PK} (h : pkKey a = pkKey b) : a = b := by
  obtain ⟨a1, a2⟩ := a
  obtain ⟨b1, b2⟩ := b
  simpa [pkKey] using h
theorem check_pk (b : Bool) (k : PK) (W : World) : (Instr.checkKey b 10000 43 (pkKey k)).run Tryz.prog W = .ok () W := by
  obtain ⟨k1, k2⟩ := k
  kernel_rfl
theorem ptoList_ba (a b : ByteArray) : a.toList = b.toList ↔ b = a := by
  rw [ByteArray.toList_eq, ByteArray.toList_eq]
  obtain ⟨⟨x⟩⟩ := a
  obtain ⟨⟨y⟩⟩ := b
  simp [eq_comm]
theorem equal_pk (a b : PK) (W : World) : (Op.equal 43 (pkKey a) (pkKey b)).run Tryz.prog W = .ok (decide (b = a)) W := by
  obtain ⟨a1, a2⟩ := a
  obtain ⟨b1, b2⟩ := b
  show (Op.equalIn (9999 + 1) 43 (.agg #[.string a1, .string a2]) (.agg #[.string b1, .string b2])).run Tryz.prog W = _
  rw [run_equalIn_struct W 9999 43 _ _ (by kernel_rfl) (by kernel_rfl)]
  simp only [Prod.mk.injEq]
  by_cases q1 : b1 = a1 <;> by_cases q2 : b2 = a2 <;> simp [go_sem, ptoList_ba, q1, q2]
theorem asking_pk (k : PK) (W : World) : ∀ (es : List MapEntry) (kvs : List (PK × Value)) (i : Nat), es.map (fun e => (e.key, e.val)) = kvs.map (fun x => (pkKey x.1, x.2)) →
    (Instr.findAsking 43 (pkKey k) es i).run Tryz.prog W = .ok (lookI k kvs i) W
  | [], [], i, _ => by simp [Instr.findAsking, lookI]
  | [], _ :: _, _, h => by simp at h
  | _ :: _, [], _, h => by simp at h
  | e :: es, x :: kvs, i, h => by
    simp only [List.map_cons, List.cons.injEq, Prod.mk.injEq] at h
    have he := equal_pk k x.1 W
    have ih := asking_pk k W es kvs (i + 1) h.2
    by_cases hx : x.1 = k
    · rw [decide_eq_true hx] at he
      rw [← hx] at he ⊢
      simp [Instr.findAsking, lookI, h.1.1, h.1.2, he]
    · rw [decide_eq_false hx] at he
      simp [Instr.findAsking, lookI, h.1.1, he, hx, ih]
theorem same_pk (k : PK) : Instr.sameBits 10000 (pkKey k) (pkKey k) = true := by
  obtain ⟨k1, k2⟩ := k
  show Instr.sameBits (9998 + 1 + 1) _ _ = true
  simp [pkKey, Instr.sameBits, ba_beq_self]
theorem pkLaw : KeyLaw Tryz.prog 43 pkKey where
  check := check_pk
  find := fun es kvs k W h => by rw [run_findKey_eq W (by kernel_rfl)]; exact asking_pk k W es kvs 0 h
  stays := same_pk
/-! ### rules -/
structure Rule where
  who : T
  watcher : T
  what : Int
def ruleC (r : Rule) : List Value := [.string (str r.who), .string (str r.watcher), .int .i64 r.what]
def nameB (s : T) : Bool := decide ((hostE s).2 = 0)
def chkR (r : Rule) : Int := if nameB r.who = false ∨ nameB r.watcher = false ∨ r.what < 0 ∨ 2 < r.what then 1 else 0
def keyR (r : Rule) : PK := (str r.who, str r.watcher)
abbrev KV := List (PK × Value)
def setE (kv : KV) (r : Rule) : Int := if chkR r ≠ 0 then 1 else if r.what = 0 then 0 else if mget (keyR r) kv = none ∧ 500 ≤ kv.length then 5 else 0
def setL (kv : KV) (r : Rule) : KV := if chkR r ≠ 0 then kv else if r.what = 0 then mdel (keyR r) kv else if mget (keyR r) kv = none ∧ 500 ≤ kv.length then kv else mput (keyR r) (.int .i64 r.what) kv
def intV : Option Value → Int
  | some (.int _ n) => n
  | _ => 0
def askV (kv : KV) (a b : T) : Int := if a = b ∧ nameB a = true then 1 else intV (mget (str a, str b) kv)
structure RuleS (r : Rule) : Prop where
  who : r.who.length ≤ 99999990
  watcher : r.watcher.length ≤ 99999990
theorem chk_01 (r : Rule) : chkR r = 0 ∨ chkR r = 1 := by unfold chkR; split <;> simp
theorem chk_ok {r : Rule} : chkR r = 0 ↔ nameB r.who = true ∧ nameB r.watcher = true ∧ 0 ≤ r.what ∧ r.what ≤ 2 := by
  unfold chkR
  cases nameB r.who <;> cases nameB r.watcher <;> simp <;> omega
theorem set_bad {kv : KV} {r : Rule} (h : chkR r ≠ 0) : setE kv r = 1 ∧ setL kv r = kv := ⟨by unfold setE; rw [if_pos h], by unfold setL; rw [if_pos h]⟩
theorem set_del {kv : KV} {r : Rule} (h : chkR r = 0) (h0 : r.what = 0) : setE kv r = 0 ∧ setL kv r = mdel (keyR r) kv :=
  ⟨by unfold setE; rw [if_neg (by simp [h]), if_pos h0], by unfold setL; rw [if_neg (by simp [h]), if_pos h0]⟩
theorem set_full {kv : KV} {r : Rule} (h : chkR r = 0) (h0 : r.what ≠ 0) (hf : mget (keyR r) kv = none ∧ 500 ≤ kv.length) : setE kv r = 5 ∧ setL kv r = kv :=
  ⟨by unfold setE; rw [if_neg (by simp [h]), if_neg h0, if_pos hf], by unfold setL; rw [if_neg (by simp [h]), if_neg h0, if_pos hf]⟩
theorem set_put {kv : KV} {r : Rule} (h : chkR r = 0) (h0 : r.what ≠ 0) (hf : ¬ (mget (keyR r) kv = none ∧ 500 ≤ kv.length)) : setE kv r = 0 ∧ setL kv r = mput (keyR r) (.int .i64 r.what) kv :=
  ⟨by unfold setE; rw [if_neg (by simp [h]), if_neg h0, if_neg hf], by unfold setL; rw [if_neg (by simp [h]), if_neg h0, if_neg hf]⟩
/-- what a table keeps to -/
structure KvP (kv : KV) : Prop where
  nd : (kv.map (·.1)).Nodup
  val : ∀ x ∈ kv, ∃ n, x.2 = .int .i64 n ∧ 1 ≤ n ∧ n ≤ 2
  len : kv.length ≤ 500
theorem KvP.nil : KvP [] := ⟨by simp, by simp, by simp⟩
theorem mput_mem {k : PK} {v : Value} : ∀ {l : KV} {x : PK × Value}, x ∈ mput k v l → x = (k, v) ∨ x ∈ l
  | [], x, h => by simp [mput] at h; exact .inl h
  | y :: r, x, h => by
    unfold mput at h
    split at h
    · rcases List.mem_cons.1 h with h | h
      · exact .inl h
      · exact .inr (List.mem_cons_of_mem _ h)
    · rcases List.mem_cons.1 h with h | h
      · exact .inr (h ▸ List.mem_cons_self)
      · rcases mput_mem h with h | h
        · exact .inl h
        · exact .inr (List.mem_cons_of_mem _ h)
theorem mdel_sub (k : PK) : ∀ l : KV, (mdel k l).Sublist l
  | [] => List.Sublist.refl _
  | y :: r => by
    unfold mdel
    split
    · exact List.sublist_cons_self _ _
    · exact (mdel_sub k r).cons_cons _
theorem mput_len {k : PK} {v : Value} (l : KV) : (mput k v l).length = if mget k l = none then l.length + 1 else l.length := by
  induction l with
  | nil => rfl
  | cons y r ih =>
    unfold mput mget
    by_cases h : y.1 = k
    · simp [h]
    · simp only [if_neg h, List.length_cons, ih]; split <;> rfl
theorem mput_nd {k : PK} {v : Value} {l : KV} (h : (l.map (·.1)).Nodup) : ((mput k v l).map (·.1)).Nodup := by
  cases hg : mget k l with
  | some u =>
    rw [mput_keys v (List.mem_map.2 ⟨_, mget_mem hg, rfl⟩)]
    exact h
  | none =>
    have hn := mget_none' hg
    rw [mput_new v hn, List.map_append, List.nodup_append]
    refine ⟨h, by simp, fun a ha b hb => ?_⟩
    simp at hb
    subst hb
    exact fun e => hn (e ▸ ha)
theorem KvP.set {kv : KV} (H : KvP kv) (r : Rule) : KvP (setL kv r) := by
  by_cases h : chkR r = 0
  · obtain ⟨_, _, h1, h2⟩ := chk_ok.1 h
    by_cases h0 : r.what = 0
    · rw [(set_del h h0).2]
      have hs := mdel_sub (keyR r) kv
      exact ⟨H.nd.sublist (hs.map _), fun x hx => H.val x (hs.subset hx), Nat.le_trans hs.length_le H.len⟩
    · by_cases hf : mget (keyR r) kv = none ∧ 500 ≤ kv.length
      · rw [(set_full h h0 hf).2]; exact H
      · rw [(set_put h h0 hf).2]
        refine ⟨mput_nd H.nd, fun x hx => ?_, ?_⟩
        · rcases mput_mem hx with e | e
          · exact ⟨r.what, by rw [e], by omega, h2⟩
          · exact H.val x e
        · rw [mput_len]
          have := H.len
          split
          · rename_i hg
            have : ¬ 500 ≤ kv.length := fun q => hf ⟨hg, q⟩
            omega
          · exact this
  · rw [(set_bad h).2]; exact H
theorem KvP.get {kv : KV} (H : KvP kv) (k : PK) : mget k kv = none ∨ ∃ n, mget k kv = some (.int .i64 n) ∧ 1 ≤ n ∧ n ≤ 2 := by
  cases hg : mget k kv with
  | none => exact .inl rfl
  | some u =>
    obtain ⟨n, hn, h1, h2⟩ := H.val _ (mget_mem hg)
    exact .inr ⟨n, by simp at hn; rw [hn], h1, h2⟩
theorem mdel_get {k : PK} : ∀ {l : KV}, (l.map (·.1)).Nodup → ∀ k', mget k' (mdel k l) = if k' = k then none else mget k' l
  | [], _, k' => by unfold mdel mget; split <;> rfl
  | y :: r, hn, k' => by
    rw [List.map_cons, List.nodup_cons] at hn
    unfold mdel
    by_cases h : y.1 = k
    · rw [if_pos h]
      by_cases hk : k' = k
      · rw [if_pos hk, hk]
        exact mget_none (by rw [← h]; exact hn.1)
      · rw [if_neg hk]
        conv => rhs; unfold mget
        rw [if_neg (by rw [h]; exact Ne.symm hk)]
    · rw [if_neg h]
      unfold mget
      rw [mdel_get hn.2 k']
      by_cases hk : k' = k
      · rw [if_pos hk, if_pos hk, if_neg (by rw [hk]; exact h)]
      · rw [if_neg hk, if_neg hk]
end Go.Proofs.YtpnchfigehgkgaaGreatDoor
namespace Go.Proofs.YtpnchfigehgkgaaGreatDoor
set_option linter.unusedSimpArgs false
set_option linter.unusedVariables false
open Go.RowKit
/-- block p is a table that reads as kv; its memory is F -/
def Tb (w : World) (p : Nat) (kv : KV) (F : Nat → Prop) : Prop := ∃ g, Blk w p 40 #[.map (some g)] ∧ MapIs w g pkKey kv ∧ (∀ k, F k ↔ k = p ∨ k = g) ∧ KvP kv ∧ Born w g
section
variable {w w' : World} {p : Nat} {kv : KV} {F G : Nat → Prop}
theorem Tb.fr (H : Tb w p kv F) (hf : Fr G w w') (hd : ∀ k, F k → ¬ G k) : Tb w' p kv F := by
  obtain ⟨g, h1, h2, h3, h4, h5⟩ := H
  exact ⟨g, h1.fr hf (hd p ((h3 p).2 (.inl rfl))), h2.fr hf (hd g ((h3 g).2 (.inr rfl))), h3, h4, h5.fr hf (hd g ((h3 g).2 (.inr rfl)))⟩
theorem Tb.below (H : Tb w p kv F) (hb : Below w.heap.size w w') : Tb w' p kv F := H.fr (Fr.of_below (F := fun _ => False) hb) (fun _ _ h => h)
theorem Tb.lt (H : Tb w p kv F) {k : Nat} (hk : F k) : k < w.heap.size := by
  obtain ⟨g, h1, h2, h3, h4⟩ := H
  rcases (h3 k).1 hk with rfl | rfl
  · exact h1.lt
  · exact h2.lt
theorem Tb.notT (H : Tb w p kv F) {b : Nat} {ds : Array Value} {T : TypeId} {fr : Nat × Nat} (hb : w.heap[b]? = some (.cells ds T fr)) (h1 : T ≠ 40) : ¬ F b := by
  obtain ⟨g, k1, k2, k3, k4⟩ := H
  intro hF
  rcases (k3 b).1 hF with rfl | rfl
  · unfold Blk at k1; rw [hb] at k1; injection k1 with k1; injection k1 with _ q; exact h1 q
  · obtain ⟨es, c, h, _⟩ := k2; rw [hb] at h; cases h
end
def BoolPost (b : Bool) (w : World) (e : Ending) (w' : World) : Prop := e = .returned (.bool b) ∧ Below w.heap.size w w'
set_option maxRecDepth 100000 in
theorem pmade_any {w : World} {p g : Nat} (h : Blk w p 40 #[.map (some g)]) :
    Calls Tryz.prog 15 #[.pointer (some ⟨p, 0, none⟩)] w fun e w' => e = .returned (.bool true) ∧ w = w' := by
  have hc := h.cell 0
  have hnn := fun (W : World) (r : Option Nat) => run_neq_map_nil (P := Tryz.prog) W 38 _ _ r Tryz.underlying38
  go_enter Tryz.func15, Tryz.ntmps15
  go_wp2
  go_ret
  exact ⟨rfl, rfl⟩
set_option maxRecDepth 100000 in
theorem pmade_nil (w : World) : Calls Tryz.prog 15 #[.pointer none] w fun e w' => e = .returned (.bool false) ∧ w = w' := by
  go_enter Tryz.func15, Tryz.ntmps15
  go_wp2
  go_ret
  exact ⟨rfl, rfl⟩
set_option maxRecDepth 100000 in
theorem pmade_zero {w : World} {p : Nat} (h : Blk w p 40 #[.map none]) :
    Calls Tryz.prog 15 #[.pointer (some ⟨p, 0, none⟩)] w fun e w' => e = .returned (.bool false) ∧ w = w' := by
  have hc := h.cell 0
  have hnn := fun (W : World) (r : Option Nat) => run_neq_map_nil (P := Tryz.prog) W 38 _ _ r Tryz.underlying38
  go_enter Tryz.func15, Tryz.ntmps15
  go_wp2
  go_ret
  exact ⟨rfl, rfl⟩
def PNewPost (w : World) (e : Ending) (w' : World) : Prop := ∃ p F, e = .returned (.pointer (some ⟨p, 0, none⟩)) ∧ Tb w' p [] F ∧ Below w.heap.size w w' ∧ ∀ k, F k → w.heap.size ≤ k
theorem pnew_any (w : World) : Calls Tryz.prog 4 #[] w (PNewPost w) := by
  have hmm := @run_makeMap Tryz.prog
  have HP : Hid (PNewPost w (.returned (.pointer (some ⟨(w.alloc (.map #[] 0)).heap.size, 0, none⟩))) ((w.alloc (.map #[] 0)).alloc (.cells #[.map (some w.heap.size)] 40))) := Lib.hid
    ⟨_, fun k => k = (w.alloc (.map #[] 0)).heap.size ∨ k = w.heap.size, rfl, ⟨w.heap.size, Blk.new _ _ _, (MapIs.made w pkKey).fr ((Fr.refl (fun _ => False) _).alloc _) (fun h => h), fun k => Iff.rfl, KvP.nil, (Born.made w).fr ((Fr.refl (fun _ => False) _).alloc _) (fun h => h)⟩, ((Below.refl _ _).alloc (Nat.le_refl _) _).alloc (by simp) _, fun k hk => by simp at hk; omega⟩
  go_enter Tryz.func4, Tryz.ntmps4
  go_wp2
  go_ret
  simpa using HP.out
set_option maxRecDepth 100000 in
theorem name_any {s : T} (hs : s.length ≤ 99999990) (w : World) : Calls Tryz.prog 16 #[.string (str s)] w (BoolPost (nameB s) w) := by
  have HH : Hid (Calls Tryz.prog 23 #[.string (str s)] w (HostPost s w)) := Lib.hid (sHost_any hs)
  have HN : Hid (∀ r, hostE s = r → nameB s = decide (r.2 = 0)) := Lib.hid (fun r h => by unfold nameB; rw [h])
  unfold HostPost hostV at HH
  generalize hr : hostE s = r at *
  obtain ⟨H, G⟩ := r
  have HN := Lib.hid (HN.out (H, G) rfl)
  unfold BoolPost
  generalize nameB s = N at *
  clear hr
  simp only at HH HN
  by_cases hg : G = 0
  · subst hg
    obtain rfl : N = true := by simpa using HN.out
    go_enter Tryz.func16, Tryz.ntmps16
    go_wp2_with fail
    refine (HH.out).mono ?_
    rintro e w1 ⟨rfl, hb⟩
    have HB := Lib.hid hb
    clear hb
    go_wp2
    go_ret
    exact ⟨rfl, HB.out⟩
  · obtain rfl : N = false := by have := HN.out; simpa [hg] using this
    have q : (G == 0) = false := by simpa using hg
    clear hg
    go_enter Tryz.func16, Tryz.ntmps16
    go_wp2_with fail
    refine (HH.out).mono ?_
    rintro e w1 ⟨rfl, hb⟩
    have HB := Lib.hid hb
    clear hb
    go_wp2
    go_ret
    exact ⟨rfl, HB.out⟩
def IntPost (n : Int) (w : World) (e : Ending) (w' : World) : Prop := e = .returned (.int .i64 n) ∧ Below w.heap.size w w'
theorem rule_box {r : Rule} {w w0 : World} (h : w.alloc (.cells #[.string (str r.who), .string (str r.watcher), .int .i64 r.what] 28) = w0) : Below w.heap.size w w0 ∧ ∀ W, Below w0.heap.size w0 W → W.cell? ⟨w.heap.size, 0, none⟩ = some (.string (str r.who)) ∧ W.cell? ⟨w.heap.size, 1, none⟩ = some (.string (str r.watcher)) ∧ W.cell? ⟨w.heap.size, 2, none⟩ = some (.int .i64 r.what) := by
  subst h
  refine ⟨(Below.refl _ _).alloc (Nat.le_refl _) _, fun W hW => ?_⟩
  have hk := (Blk.new w 28 #[.string (str r.who), .string (str r.watcher), .int .i64 r.what]).fr (Fr.of_below (F := fun _ => False) hW) (fun h => h)
  exact ⟨hk.cell 0, hk.cell 1, hk.cell 2⟩
theorem pcheck_any {r : Rule} (hs : RuleS r) (w : World) : Calls Tryz.prog 7 #[.agg #[.string (str r.who), .string (str r.watcher), .int .i64 r.what]] w (IntPost (chkR r) w) := by
  obtain ⟨w0, hw0⟩ : ∃ w0, w.alloc (.cells #[.string (str r.who), .string (str r.watcher), .int .i64 r.what] 28) = w0 := ⟨_, rfl⟩
  obtain ⟨hb0, hc⟩ := rule_box hw0
  have HB0 := Lib.hid hb0
  have HC := Lib.hid hc
  have HN1 : Hid (∀ W, Calls Tryz.prog 16 #[.string (str r.who)] W (BoolPost (nameB r.who) W)) := Lib.hid (fun W => name_any hs.who W)
  have HN2 : Hid (∀ W, Calls Tryz.prog 16 #[.string (str r.watcher)] W (BoolPost (nameB r.watcher) W)) := Lib.hid (fun W => name_any hs.watcher W)
  have HV : Hid (∀ c, ((nameB r.who = false ∨ nameB r.watcher = false ∨ r.what < 0 ∨ 2 < r.what) → c = 1) → (¬ (nameB r.who = false ∨ nameB r.watcher = false ∨ r.what < 0 ∨ 2 < r.what) → c = 0) → chkR r = c) := Lib.hid (fun c h1 h2 => by
    unfold chkR
    split
    · rename_i h; exact (h1 h).symm
    · rename_i h; exact (h2 h).symm)
  unfold BoolPost at HN1 HN2
  unfold IntPost
  generalize chkR r = V at *
  generalize nameB r.who = N1 at *
  generalize nameB r.watcher = N2 at *
  generalize r.what = K at *
  clear hb0 hc hs
  obtain ⟨c0, c1, c2⟩ := HC.out w0 (Below.refl _ _)
  cases N1 with
  | false =>
    replace HV := Lib.hid (HV.out 1 (fun _ => rfl) (fun h => absurd (.inl rfl) h))
    go_enter Tryz.func7, Tryz.ntmps7
    go_upto_region 1 with (fail)
    go_wp2_with fail
    refine (HN1.out _).mono ?_
    rintro e w1 ⟨rfl, hb⟩
    have HB1 := Lib.hid (thenB HB0.out hb)
    clear hb
    go_wp2
    go_ret
    exact ⟨ret_int HV.out.symm, HB1.out⟩
  | true =>
    cases N2 with
    | false =>
      replace HV := Lib.hid (HV.out 1 (fun _ => rfl) (fun h => absurd (.inr (.inl rfl)) h))
      go_enter Tryz.func7, Tryz.ntmps7
      go_upto_region 1 with (fail)
      go_wp2_with fail
      refine (HN1.out _).mono ?_
      rintro e w1 ⟨rfl, hb⟩
      have HX1 := Lib.hid hb
      clear hb c0 c1 c2
      obtain ⟨c0, c1, c2⟩ := HC.out w1 HX1.out
      go_wp2_with fail
      refine (HN2.out _).mono ?_
      rintro e w2 ⟨rfl, hb⟩
      have HB2 := Lib.hid (thenB HB0.out (thenB HX1.out hb))
      clear hb
      go_wp2
      go_ret
      exact ⟨ret_int HV.out.symm, HB2.out⟩
    | true =>
      have HOK : Hid (0 ≤ K → K ≤ 2 → V = 0) := Lib.hid (fun h1 h2 => HV.out 0 (fun h => by simp at h; omega) (fun _ => rfl))
      have HNO : Hid ((K < 0 ∨ 2 < K) → V = 1) := Lib.hid (fun h => HV.out 1 (fun _ => rfl) (fun q => absurd (.inr (.inr h)) q))
      clear HV
      go_enter Tryz.func7, Tryz.ntmps7
      go_upto_region 1 with (fail)
      go_wp2_with fail
      refine (HN1.out _).mono ?_
      rintro e w1 ⟨rfl, hb⟩
      have HX1 := Lib.hid hb
      clear hb c0 c1 c2
      obtain ⟨c0, c1, c2⟩ := HC.out w1 HX1.out
      go_wp2_with fail
      refine (HN2.out _).mono ?_
      rintro e w2 ⟨rfl, hb⟩
      have HX2 := Lib.hid (thenB HX1.out hb)
      have HB2 := Lib.hid (thenB HB0.out HX2.out)
      clear hb c0 c1 c2
      obtain ⟨c0, c1, c2⟩ := HC.out w2 HX2.out
      by_cases h0 : K = 0
      · subst h0
        have HV := Lib.hid (HOK.out (by omega) (by omega))
        go_wp2
        go_ret
        exact ⟨ret_int HV.out.symm, HB2.out⟩
      · by_cases h1 : K = 1
        · subst h1
          have HV := Lib.hid (HOK.out (by omega) (by omega))
          go_wp2
          go_ret
          exact ⟨ret_int HV.out.symm, HB2.out⟩
        · by_cases h2 : K = 2
          · subst h2
            have HV := Lib.hid (HOK.out (by omega) (by omega))
            go_wp2
            go_ret
            exact ⟨ret_int HV.out.symm, HB2.out⟩
          · have HV := Lib.hid (HNO.out (by omega))
            have q0 : (K != 0) = true := by simpa using h0
            have q1 : (K != 1) = true := by simpa using h1
            have q2 : (K != 2) = true := by simpa using h2
            clear h0 h1 h2
            go_wp2
            go_ret
            exact ⟨ret_int HV.out.symm, HB2.out⟩
end Go.Proofs.YtpnchfigehgkgaaGreatDoor
namespace Go.Proofs.YtpnchfigehgkgaaGreatDoor
set_option linter.unusedSimpArgs false
set_option linter.unusedVariables false
open Go.RowKit
theorem pzint (w : World) : (zeroValue 3).run Tryz.prog w = .ok (.int .i64 0) w := by kernel_rfl
def PSetPost (w : World) (p : Nat) (kv : KV) (r : Rule) (F : Nat → Prop) (e : Ending) (w' : World) : Prop := e = .returned (.int .i64 (setE kv r)) ∧ Tb w' p (setL kv r) F ∧ Fr F w w'
theorem Tb.upd {w w1 w' : World} {p g : Nat} {kv kv' : KV} {F : Nat → Prop} (hb : Below w.heap.size w w1) (hF : ∀ k, F k ↔ k = p ∨ k = g) (ht : Blk w1 p 40 #[.map (some g)]) (hm : MapIs w1 g pkKey kv) (hm' : MapIs w' g pkKey kv') (f : Fr (fun k => k = g) w1 w') (hB' : Born w' g) (hP : KvP kv') :
    Tb w' p kv' F ∧ Fr F w w' :=
  ⟨⟨g, ht.fr f (hm.ne ht).symm, hm', hF, hP, hB'⟩, (Fr.of_below (F := F) hb).trans f (fun k _ e => (hF k).2 (.inr e))⟩
theorem pset_same {w w' : World} {p : Nat} {kv : KV} {r : Rule} {F : Nat → Prop} {n : Int} (H : Tb w p kv F) (hb : Below w.heap.size w w') (h : setE kv r = n ∧ setL kv r = kv) : PSetPost w p kv r F (.returned (.int .i64 n)) w' :=
  ⟨ret_int h.1.symm, by rw [h.2]; exact H.below hb, Fr.of_below hb⟩
set_option maxRecDepth 100000 in
set_option maxHeartbeats 4000000 in
theorem pset_any {r : Rule} (hs : RuleS r) {w : World} {p : Nat} {kv : KV} {F : Nat → Prop} (H : Tb w p kv F) :
    Calls Tryz.prog 6 #[.pointer (some ⟨p, 0, none⟩), .agg #[.string (str r.who), .string (str r.watcher), .int .i64 r.what]] w (PSetPost w p kv r F) := by
  obtain ⟨w0, hw0⟩ : ∃ w0, w.alloc (.cells #[.string (str r.who), .string (str r.watcher), .int .i64 r.what] 28) = w0 := ⟨_, rfl⟩
  obtain ⟨hb0, hc⟩ := rule_box hw0
  have HH := Lib.hid H
  have HB0 := Lib.hid hb0
  have HC := Lib.hid hc
  obtain ⟨g, ht, hm, hF, hP, hB⟩ := H.below hb0
  have HT := Lib.hid ht
  have HM := Lib.hid hm
  have HF := Lib.hid hF
  have HP := Lib.hid hP
  have HB := Lib.hid hB
  have HMD : Hid (Calls Tryz.prog 15 #[.pointer (some ⟨p, 0, none⟩)] w0 fun e w' => e = .returned (.bool true) ∧ w0 = w') := Lib.hid (pmade_any ht)
  have HCK : Hid (∀ W, Calls Tryz.prog 7 #[.agg #[.string (str r.who), .string (str r.watcher), .int .i64 r.what]] W (IntPost (chkR r) W)) := Lib.hid (fun W => pcheck_any hs W)
  unfold IntPost at HCK
  obtain ⟨c0, c1, c2⟩ := HC.out w0 (Below.refl _ _)
  clear hb0 hc ht hm hF hP hB H hs
  by_cases hk : chkR r = 0
  · have HK := Lib.hid hk
    rw [hk] at HCK
    clear hk
    go_enter Tryz.func6, Tryz.ntmps6
    go_upto_region 1 with (fail)
    go_wp2_with fail
    refine (HMD.out).mono ?_
    rintro e w9 ⟨rfl, rfl⟩
    go_wp2_with fail
    refine (HCK.out _).mono ?_
    rintro e w1 ⟨rfl, hb1⟩
    have HX1 := Lib.hid hb1
    clear hb1 c0 c1 c2
    go_upto_region 6 with (fail)
    obtain ⟨c0, c1, c2⟩ := HC.out w1 HX1.out
    go_upto_region 7 with (fail)
    obtain ⟨w2, hw2⟩ : ∃ w2, w1.alloc (.cells #[.string (str r.who), .string (str r.watcher)] 43) = w2 := ⟨_, rfl⟩
    rw [hw2]
    have HX2 : Hid (Below w0.heap.size w0 w2) := Lib.hid (thenB HX1.out (hw2 ▸ (Below.refl _ _).alloc (Nat.le_refl _) _))
    have HY2 : Hid (Below w.heap.size w w2) := Lib.hid (thenB HB0.out HX2.out)
    have HKB : Hid (Blk w2 w1.heap.size 43 #[.string (str r.who), .string (str r.watcher)]) := Lib.hid (hw2 ▸ Blk.new w1 _ _)
    have HT2 : Hid (Blk w2 p 40 #[.map (some g)]) := Lib.hid (HT.out.fr (Fr.of_below (F := fun _ => False) HX2.out) (fun h => h))
    have HM2 : Hid (MapIs w2 g pkKey kv) := Lib.hid (HM.out.fr (Fr.of_below (F := fun _ => False) HX2.out) (fun h => h))
    have HB2 : Hid (Born w2 g) := Lib.hid (HB.out.fr (Fr.of_below (F := fun _ => False) HX2.out) (fun h => h))
    clear hw2 c0 c1 c2
    obtain ⟨c0, c1, c2⟩ := HC.out w2 HX2.out
    have k0 := HKB.out.cell 0
    have k1 := HKB.out.cell 1
    have t0 := HT2.out.cell 0
    by_cases h0 : r.what = 0
    · obtain ⟨W3, hd, hm3, f3⟩ := (HM2.out.drewN 1).delete pkLaw Tryz.underlying38 (keyR r) 43 0
      have hd' : (Builtin.delete_ #[38, 43] 0 #[.map (some g), .agg #[.string (str r.who), .string (str r.watcher)]]).run Tryz.prog w2.drew = .ok (.tuple #[]) W3 := hd
      have hB3 := (HB2.out.drewN 1).delete (HM2.out.drewN 1) pkLaw Tryz.underlying38 (keyR r) 43 0 hd
      have HE := Lib.hid (set_del (kv := kv) HK.out h0)
      have HFIN : Hid (Tb W3 p (setL kv r) F ∧ Fr F w W3) := Lib.hid (by
        have hp3 := HP.out.set r
        rw [HE.out.2] at hp3 ⊢
        exact Tb.upd (w1 := w2.drew) (below_drewN HY2.out 1) HF.out HT2.out HM2.out hm3 f3 hB3 hp3)
      rw [h0] at c2
      clear hd hm3 f3 hB3 h0
      go_wp2_with fail
      go_still_tail 5, (by kernel_rfl)
      go_wp2
      go_ret
      exact ⟨ret_int HE.out.1.symm, HFIN.out⟩
    · have q0 : (r.what == 0) = false := by simpa using h0
      have hl := fun n => (HM2.out.drewN n).len (P := Tryz.prog) Tryz.underlying38
      have hlk := fun n => (HM2.out.drewN n).lookup (T := 38) (E := 3) pkLaw Tryz.underlying38 (pzint (w2.drewN n)) (keyR r) true
      have HPUT : Hid (¬ (mget (keyR r) kv = none ∧ 500 ≤ kv.length) → ∀ n, ∃ W3, (Instr.mapUpdate 38 (.map (some g)) (.agg #[.string (str r.who), .string (str r.watcher)]) (.int .i64 r.what)).run Tryz.prog (w2.drewN n).drew = .ok () W3 ∧ setE kv r = 0 ∧ Tb W3 p (setL kv r) F ∧ Fr F w W3) := Lib.hid (fun hn n => by
        obtain ⟨W3, hd, hm3, f3⟩ := ((HM2.out.drewN n).drewN 1).update pkLaw Tryz.underlying38 (keyR r) (.int .i64 r.what)
        have hB3 := ((HB2.out.drewN n).drewN 1).update ((HM2.out.drewN n).drewN 1) pkLaw Tryz.underlying38 (keyR r) (.int .i64 r.what) hd
        have HE := set_put (kv := kv) HK.out h0 hn
        have hp3 := HP.out.set r
        refine ⟨W3, hd, HE.1, ?_⟩
        rw [HE.2] at hp3 ⊢
        exact Tb.upd (w1 := (w2.drewN n).drew) (below_drewN (below_drewN HY2.out n) 1) HF.out HT2.out HM2.out hm3 f3 hB3 hp3)
      have hnw := (HM2.out.ne HT2.out)
      have HNO : Hid (mget (keyR r) kv = none ∧ 500 ≤ kv.length → setE kv r = 5 ∧ setL kv r = kv) := Lib.hid (fun h => set_full HK.out h0 h)
      have HGET := Lib.hid (HP.out.get (keyR r))
      have HKV := Lib.hid HP.out.len
      clear h0 hnw
      rcases HGET.out with hg | ⟨v, hg, _, _⟩
      · simp only [hg] at hlk
        have hlk' : ∀ n, (Instr.lookup 38 (.map (some g)) (.agg #[.string (str r.who), .string (str r.watcher)]) true).run Tryz.prog (w2.drewN n) = .ok (.tuple #[.int .i64 0, .bool false]) (w2.drewN n) := hlk
        clear hlk
        by_cases hf : (500 : Int) ≤ kv.length
        · have HE := Lib.hid (HNO.out ⟨hg, by omega⟩)
          clear hg
          go_wp2_with fail
          go_quiet (fail)
          go_wp2
          go_ret
          exact pset_same HH.out (below_drewN HY2.out _) HE.out
        · have HPUT := Lib.hid (HPUT.out (fun q => hf (by omega)))
          have hf' : (decide ((kv.length : Int) ≥ 500)) = false := decide_eq_false hf
          clear hg
          go_wp2_with fail
          go_quiet (fail)
          go_wp2_with fail
          obtain ⟨W3, hu, he3, HFIN⟩ := HPUT.out nq
          have HFIN := Lib.hid HFIN
          have HE3 := Lib.hid he3
          clear he3 hl hlk'
          have c2q : (w2.drewN nq).cell? ⟨w.heap.size, 2, none⟩ = some (.int .i64 r.what) := c2
          have t0q : (w2.drewN nq).cell? ⟨p, 0, none⟩ = some (.map (some g)) := t0
          have k0q : (w2.drewN nq).cell? ⟨w1.heap.size, 0, none⟩ = some (.string (str r.who)) := k0
          have k1q : (w2.drewN nq).cell? ⟨w1.heap.size, 1, none⟩ = some (.string (str r.watcher)) := k1
          generalize w2.drewN nq = wq at *
          go_still_tail 7, (by kernel_rfl)
          go_wp2
          go_ret
          exact ⟨ret_int HE3.out.symm, HFIN.out⟩
      · simp only [hg] at hlk
        have hlk' : ∀ n, (Instr.lookup 38 (.map (some g)) (.agg #[.string (str r.who), .string (str r.watcher)]) true).run Tryz.prog (w2.drewN n) = .ok (.tuple #[.int .i64 v, .bool true]) (w2.drewN n) := hlk
        replace HPUT := Lib.hid (HPUT.out (fun q => by rw [hg] at q; cases q.1))
        clear hlk hg
        go_wp2_with fail
        go_quiet (fail)
        go_wp2_with fail
        obtain ⟨W3, hu, he3, HFIN⟩ := HPUT.out nq
        have HFIN := Lib.hid HFIN
        have HE3 := Lib.hid he3
        clear he3 hl hlk'
        have c2q : (w2.drewN nq).cell? ⟨w.heap.size, 2, none⟩ = some (.int .i64 r.what) := c2
        have t0q : (w2.drewN nq).cell? ⟨p, 0, none⟩ = some (.map (some g)) := t0
        have k0q : (w2.drewN nq).cell? ⟨w1.heap.size, 0, none⟩ = some (.string (str r.who)) := k0
        have k1q : (w2.drewN nq).cell? ⟨w1.heap.size, 1, none⟩ = some (.string (str r.watcher)) := k1
        generalize w2.drewN nq = wq at *
        go_still_tail 7, (by kernel_rfl)
        go_wp2
        go_ret
        exact ⟨ret_int HE3.out.symm, HFIN.out⟩
  · have h1 : chkR r = 1 := (chk_01 r).resolve_left hk
    have HE := Lib.hid (set_bad (kv := kv) hk)
    rw [h1] at HCK
    clear hk h1
    go_enter Tryz.func6, Tryz.ntmps6
    go_upto_region 1 with (fail)
    go_wp2_with fail
    refine (HMD.out).mono ?_
    rintro e w9 ⟨rfl, rfl⟩
    go_wp2_with fail
    refine (HCK.out _).mono ?_
    rintro e w1 ⟨rfl, hb1⟩
    have HX1 := Lib.hid (thenB HB0.out hb1)
    clear hb1 c0 c1 c2
    go_wp2
    go_ret
    exact pset_same HH.out HX1.out HE.out
def PAskPost (n : Int) (w : World) (e : Ending) (w' : World) : Prop := e = .returned (.int .i64 n) ∧ Below w.heap.size w w'
set_option maxRecDepth 100000 in
set_option maxHeartbeats 4000000 in
theorem pask_any {a b : T} (ha : a.length ≤ 99999990) {w : World} {p : Nat} {kv : KV} {F : Nat → Prop} (H : Tb w p kv F) :
    Calls Tryz.prog 11 #[.pointer (some ⟨p, 0, none⟩), .string (str a), .string (str b)] w (PAskPost (askV kv a b) w) := by
  obtain ⟨g, ht, hm, hF, hP, hB⟩ := H
  have HT := Lib.hid ht
  have HM := Lib.hid hm
  have HMD : Hid (Calls Tryz.prog 15 #[.pointer (some ⟨p, 0, none⟩)] w fun e w' => e = .returned (.bool true) ∧ w = w') := Lib.hid (pmade_any ht)
  have HN : Hid (∀ W, Calls Tryz.prog 16 #[.string (str a)] W (BoolPost (nameB a) W)) := Lib.hid (fun W => name_any ha W)
  have HY : Hid (a = b → nameB a = true → askV kv a b = 1) := Lib.hid (fun h1 h2 => by unfold askV; rw [if_pos ⟨h1, h2⟩])
  have HNO : Hid (¬ (a = b ∧ nameB a = true) → askV kv a b = intV (mget (str a, str b) kv)) := Lib.hid (fun h => by unfold askV; rw [if_neg h])
  have HLK : Hid (¬ (a = b ∧ nameB a = true) → ∀ W, Below w.heap.size w W → (Instr.lookup 38 (.map (some g)) (.agg #[.string (str a), .string (str b)]) false).run Tryz.prog W = .ok (.int .i64 (askV kv a b)) W) := Lib.hid (fun hn W hW => by
    have h := (hm.fr (Fr.of_below (F := fun _ => False) hW) (fun h => h)).lookup (T := 38) (E := 3) pkLaw Tryz.underlying38 (pzint W) (str a, str b) false
    have e : pkKey (str a, str b) = .agg #[.string (str a), .string (str b)] := rfl
    rw [e] at h
    rw [h, HNO.out hn]
    rcases hP.get (str a, str b) with q | ⟨n, q, _, _⟩
    · rw [q]; rfl
    · rw [q]; rfl)
  have HTC : Hid (∀ W, Below w.heap.size w W → W.cell? ⟨p, 0, none⟩ = some (.map (some g))) := Lib.hid (fun W hW => (ht.fr (Fr.of_below (F := fun _ => False) hW) (fun h => h)).cell 0)
  unfold BoolPost at HN
  unfold PAskPost
  generalize askV kv a b = V at *
  generalize nameB a = N at *
  clear ht hm hF hP hB
  by_cases hab : a = b
  · subst hab
    have q1 : ((str a).toList == (str a).toList) = true := beq_self_eq_true _
    cases N with
    | true =>
      have HV := Lib.hid (HY.out rfl rfl)
      clear HY HNO HLK
      go_enter Tryz.func11, Tryz.ntmps11
      go_wp2_with fail
      refine (HMD.out).mono ?_
      rintro e w9 ⟨rfl, rfl⟩
      go_wp2_with fail
      refine (HN.out _).mono ?_
      rintro e w1 ⟨rfl, hb⟩
      have HX := Lib.hid hb
      clear hb
      go_wp2
      go_ret
      exact ⟨ret_int HV.out.symm, HX.out⟩
    | false =>
      replace HLK := Lib.hid (HLK.out (by simp))
      clear HY HNO
      go_enter Tryz.func11, Tryz.ntmps11
      go_wp2_with fail
      refine (HMD.out).mono ?_
      rintro e w9 ⟨rfl, rfl⟩
      go_wp2_with fail
      refine (HN.out _).mono ?_
      rintro e w1 ⟨rfl, hb⟩
      have HX := Lib.hid hb
      clear hb
      have hl := HLK.out w1 HX.out
      have hc := HTC.out w1 HX.out
      go_wp2
      go_ret
      exact ⟨rfl, HX.out⟩
  · replace HLK := Lib.hid (HLK.out (fun h => hab h.1))
    have q1 := str_neb hab
    have q2 := str_ne hab
    clear hab HY HNO
    have hl := HLK.out w (Below.refl _ _)
    have hc := HTC.out w (Below.refl _ _)
    go_enter Tryz.func11, Tryz.ntmps11
    go_wp2_with fail
    refine (HMD.out).mono ?_
    rintro e w9 ⟨rfl, rfl⟩
    go_wp2
    go_ret
    exact ⟨rfl, Below.refl _ _⟩
end Go.Proofs.YtpnchfigehgkgaaGreatDoor
namespace Go.Proofs.YtpnchfigehgkgaaGreatDoor
set_option linter.unusedSimpArgs false
set_option linter.unusedVariables false
open Go.RowKit
def startA (x : Int) : Int := if x = 1 then 1 else 0
def startK (x : Int) : Bool := decide (x = 1 ∨ x = 0)
def startV (x : Int) : Value := .tuple #[.int .i64 (startA x), .bool (startK x)]
theorem pstart_any (x : Int) (w : World) : Calls Tryz.prog 28 #[.int .i64 x] w fun e w' => e = .returned (startV x) ∧ w = w' := by
  by_cases h1 : x = 1
  · subst h1
    go_enter Tryz.func28, Tryz.ntmps28
    go_wp2
    go_ret2
    exact ⟨rfl, rfl⟩
  · by_cases h0 : x = 0
    · subst h0
      go_enter Tryz.func28, Tryz.ntmps28
      go_wp2
      go_ret2
      exact ⟨rfl, rfl⟩
    · have hv : startV x = .tuple #[.int .i64 0, .bool false] := by unfold startV startA startK; simp [h1, h0]
      rw [hv]
      have q1 : (x == 1) = false := by simpa using h1
      have q0 : (x == 0) = false := by simpa using h0
      clear h1 h0 hv
      go_enter Tryz.func28, Tryz.ntmps28
      go_wp2
      go_ret2
      exact ⟨rfl, rfl⟩
def rejT : T := [114, 101, 106, 101, 99, 116, 101, 100]
def staysB (s x : Int) : Bool := decide (¬ (s = 0 ∨ s = 1) ∨ x = s ∨ x < 0 ∨ 2 < x)
def turnS (s x : Int) : Int := if staysB s x = true then s else x
def turnW (s x : Int) : T := if staysB s x = false ∧ x = 2 then rejT else []
def turnV (s x : Int) : Value := .tuple #[.int .i64 (turnS s x), .string (str (turnW s x)), .bool (!staysB s x)]
theorem turn_stay {s x : Int} (h : ¬ (s = 0 ∨ s = 1) ∨ x = s ∨ x < 0 ∨ 2 < x) : turnV s x = .tuple #[.int .i64 s, .string ⟨#[]⟩, .bool false] := by
  have hb : staysB s x = true := decide_eq_true h
  unfold turnV turnS turnW
  rw [hb]
  rfl
theorem turn_go {s x : Int} (h : ¬ (¬ (s = 0 ∨ s = 1) ∨ x = s ∨ x < 0 ∨ 2 < x)) (h2 : x ≠ 2) : turnV s x = .tuple #[.int .i64 x, .string ⟨#[]⟩, .bool true] := by
  have hb : staysB s x = false := decide_eq_false h
  unfold turnV turnS turnW
  rw [hb, if_neg (by decide), if_neg (fun q => h2 q.2)]
  rfl
theorem turn_rej {s x : Int} (h : ¬ (¬ (s = 0 ∨ s = 1) ∨ x = s ∨ x < 0 ∨ 2 < x)) (h2 : x = 2) : turnV s x = .tuple #[.int .i64 2, .string ⟨#[114, 101, 106, 101, 99, 116, 101, 100]⟩, .bool true] := by
  have hb : staysB s x = false := decide_eq_false h
  unfold turnV turnS turnW
  rw [hb, if_neg (by decide), if_pos ⟨rfl, h2⟩, h2]
  rfl
theorem turn_twice (s x : Int) : staysB (turnS s x) x = true := by
  unfold turnS
  split
  · assumption
  · rename_i h
    unfold staysB
    exact decide_eq_true (by right; left; rfl)
set_option maxHeartbeats 2000000 in
theorem pturn_any (s x : Int) (w : World) : Calls Tryz.prog 22 #[.int .i64 s, .int .i64 x] w fun e w' => e = .returned (turnV s x) ∧ w = w' := by
  have HS := Lib.hid (pstart_any x w)
  unfold startV at HS
  by_cases hs : s = 0 ∨ s = 1
  · by_cases hx : x = s
    · rw [turn_stay (.inr (.inl hx))]
      subst hx
      generalize startA x = A at *
      generalize startK x = K at *
      rcases hs with rfl | rfl
      all_goals
        go_enter Tryz.func22, Tryz.ntmps22
        go_wp2_with fail
        refine (HS.out).mono ?_
        rintro e w1 ⟨rfl, rfl⟩
        go_wp2
        go_ret3
        exact ⟨rfl, rfl⟩
    · by_cases hl : x < 0 ∨ 2 < x
      · rw [turn_stay (.inr (.inr hl))]
        have q0 : (x == s) = false := by simpa using hx
        generalize startA x = A at *
        generalize startK x = K at *
        clear hx
        rcases hl with hl | hl
        all_goals
          rcases hs with rfl | rfl
          all_goals
            go_enter Tryz.func22, Tryz.ntmps22
            go_wp2_with fail
            refine (HS.out).mono ?_
            rintro e w1 ⟨rfl, rfl⟩
            go_wp2
            go_ret3
            exact ⟨rfl, rfl⟩
      · by_cases h2 : x = 2
        · rw [turn_rej (by omega) h2]
          subst h2
          have e1 : startA 2 = 0 := by decide
          have e2 : startK 2 = false := by decide
          rw [e1, e2] at HS
          clear e1 e2 hx hl
          rcases hs with rfl | rfl
          all_goals
            go_enter Tryz.func22, Tryz.ntmps22
            go_wp2_with fail
            refine (HS.out).mono ?_
            rintro e w1 ⟨rfl, rfl⟩
            go_wp2
            go_ret3
            exact ⟨rfl, rfl⟩
        · rw [turn_go (by omega) h2]
          have e1 : startA x = x := by unfold startA; split <;> omega
          have e2 : startK x = true := by unfold startK; exact decide_eq_true (by omega)
          rw [e1, e2] at HS
          have q0 : (x == s) = false := by simpa using hx
          have l1 : 0 ≤ x := by omega
          have l2 : x ≤ 2 := by omega
          clear e1 e2 hx hl h2
          rcases hs with rfl | rfl
          all_goals
            go_enter Tryz.func22, Tryz.ntmps22
            go_wp2_with fail
            refine (HS.out).mono ?_
            rintro e w1 ⟨rfl, rfl⟩
            go_wp2
            go_ret3
            exact ⟨rfl, rfl⟩
  · rw [turn_stay (.inl hs)]
    have q0 : (s != 0) = true := by simp; omega
    have q1 : (s != 1) = true := by simp; omega
    generalize startA x = A at *
    generalize startK x = K at *
    clear hs
    go_enter Tryz.func22, Tryz.ntmps22
    go_wp2_with fail
    refine (HS.out).mono ?_
    rintro e w1 ⟨rfl, rfl⟩
    go_wp2
    go_ret3
    exact ⟨rfl, rfl⟩
def aT : T := [97, 64, 98]
def cT : T := [99, 64, 100]
def xT : T := [120, 64, 121]
def exR : Rule := ⟨aT, cT, 1⟩
theorem nameA : nameB aT = true := by decide +kernel
theorem nameC : nameB cT = true := by decide +kernel
theorem exS : RuleS exR := ⟨by decide, by decide⟩
theorem exSet : setE [] exR = 0 ∧ setL [] exR = mput (keyR exR) (.int .i64 1) [] :=
  set_put (chk_ok.2 ⟨nameA, nameC, by decide, by decide⟩) (by decide) (by simp)
theorem exAsk1 : askV (setL [] exR) aT cT = 1 := by
  rw [exSet.2]; unfold askV; rw [if_neg (by decide)]; simp [mput, mget, keyR, exR, intV]
theorem exAsk2 : askV (setL [] exR) aT xT = 0 := by
  rw [exSet.2]; unfold askV; rw [if_neg (by decide)]
  have : (str aT, str cT) ≠ (str aT, str xT) := fun e => by
    have := str_inj (congrArg Prod.snd e); exact absurd this (by decide)
  simp [mput, mget, keyR, exR, intV, this]
theorem exAsk3 : askV (setL [] exR) aT aT = 1 := by unfold askV; rw [if_pos ⟨rfl, nameA⟩]
set_option maxRecDepth 100000 in
set_option maxHeartbeats 4000000 in
theorem awake20 (w : World) : Calls Tryz.prog 13 #[] w (TruePost w) := by
  have HNW := Lib.hid (pnew_any w)
  have HTU : Hid (∀ W, Calls Tryz.prog 22 #[.int .i64 1, .int .i64 2] W fun e w' => e = .returned (.tuple #[.int .i64 2, .string ⟨#[114, 101, 106, 101, 99, 116, 101, 100]⟩, .bool true]) ∧ W = w') := Lib.hid (fun W => by
    have h := pturn_any 1 2 W
    rw [turn_rej (by decide) rfl] at h
    exact h)
  go_enter Tryz.func13, Tryz.ntmps13
  go_wp2_with fail
  refine (HNW.out).mono ?_
  rintro e w1 ⟨p, F, rfl, hT, hb, hF⟩
  have HB1 := Lib.hid hb
  have HF := Lib.hid hF
  have HSET := Lib.hid (pset_any exS hT)
  have HTB := Lib.hid hT
  clear hT hb hF
  go_wp2_with fail
  refine (HSET.out).mono ?_
  rintro e w2 ⟨rfl, hT, hf⟩
  rw [exSet.1]
  have HB2 : Hid (Below w.heap.size w w2) := Lib.hid (HB1.out.trans (hf.to_below HB1.out.size HF.out))
  have HA1 := Lib.hid (pask_any (a := aT) (b := cT) (by decide) hT)
  have HT2 := Lib.hid hT
  rw [exAsk1] at HA1
  clear hT hf
  go_wp2_with fail
  refine (HTU.out _).mono ?_
  rintro e w9 ⟨rfl, rfl⟩
  go_wp2_with fail
  refine (HA1.out).mono ?_
  rintro e w3 ⟨rfl, hb⟩
  have HT3 := Lib.hid (HT2.out.below hb)
  have HB3 := Lib.hid (thenB HB2.out hb)
  have HA2 := Lib.hid (pask_any (a := aT) (b := xT) (by decide) HT3.out)
  rw [exAsk2] at HA2
  clear hb
  go_wp2_with fail
  refine (HA2.out).mono ?_
  rintro e w4 ⟨rfl, hb⟩
  have HT4 := Lib.hid (HT3.out.below hb)
  have HB4 := Lib.hid (thenB HB3.out hb)
  have HA3 := Lib.hid (pask_any (a := aT) (b := aT) (by decide) HT4.out)
  rw [exAsk3] at HA3
  clear hb
  go_wp2_with fail
  refine (HA3.out).mono ?_
  rintro e w5 ⟨rfl, hb⟩
  have HB5 := Lib.hid (thenB HB4.out hb)
  clear hb
  go_wp2
  go_ret
  exact ⟨rfl, HB5.out⟩
end Go.Proofs.YtpnchfigehgkgaaGreatDoor
namespace Go.Proofs.YtpnchfigehgkgaaGreatDoor
set_option linter.unusedSimpArgs false
set_option linter.unusedVariables false
open Go.RowKit
theorem ruleC_len (r : Rule) : (ruleC r).length = 3 := rfl
theorem rul_at {w : World} {B : Nat} {A : Option Addr} {l : List Rule} (h : RdB w B 3 l.length A (rows ruleC l)) {i : Nat} (hi : i < l.length) :
    ∃ gb off, A = some ⟨gb, off, none⟩ ∧ gb < B ∧ w.cell? ⟨gb, off + i * 3, none⟩ = some (.string (str l[i].who)) ∧ w.cell? ⟨gb, off + i * 3 + 1, none⟩ = some (.string (str l[i].watcher)) ∧ w.cell? ⟨gb, off + i * 3 + 2, none⟩ = some (.int .i64 l[i].what) := by
  obtain ⟨gb, off, e, hlt, hc⟩ := h.at_ (by omega)
  have hr := fun j hj => rows_at ruleC_len hi (j := j) hj
  refine ⟨gb, off, e, hlt, ?_, ?_, ?_⟩
  · exact hc _ _ (by have := hr 0 (by omega); rw [Nat.add_zero] at this; rw [this]; rfl)
  · rw [Nat.add_assoc]; exact hc _ _ (by rw [hr 1 (by omega)]; rfl)
  · rw [Nat.add_assoc]; exact hc _ _ (by rw [hr 2 (by omega)]; rfl)
theorem rname_any {s : T} (hs : s.length ≤ 99999990) (w : World) : Calls Tryz.prog 17 #[.string (str s)] w (BoolPost (nameB s) w) := by
  have HH : Hid (Calls Tryz.prog 24 #[.string (str s)] w (HostPost s w)) := Lib.hid (srHost_any hs)
  have HN : Hid (∀ r, hostE s = r → nameB s = decide (r.2 = 0)) := Lib.hid (fun r h => by unfold nameB; rw [h])
  unfold HostPost hostV at HH
  generalize hr : hostE s = r at *
  obtain ⟨H, G⟩ := r
  have HN := Lib.hid (HN.out (H, G) rfl)
  unfold BoolPost
  generalize nameB s = N at *
  clear hr
  simp only at HH HN
  by_cases hg : G = 0
  · subst hg
    obtain rfl : N = true := by simpa using HN.out
    go_enter Tryz.func17, Tryz.ntmps17
    go_wp2_with fail
    refine (HH.out).mono ?_
    rintro e w1 ⟨rfl, hb⟩
    have HB := Lib.hid hb
    clear hb
    go_wp2
    go_ret
    exact ⟨rfl, HB.out⟩
  · obtain rfl : N = false := by have := HN.out; simpa [hg] using this
    have q : (G == 0) = false := by simpa using hg
    clear hg
    go_enter Tryz.func17, Tryz.ntmps17
    go_wp2_with fail
    refine (HH.out).mono ?_
    rintro e w1 ⟨rfl, hb⟩
    have HB := Lib.hid hb
    clear hb
    go_wp2
    go_ret
    exact ⟨rfl, HB.out⟩
/-! ### what was set last -/
def runL (l : List Rule) : KV := l.foldl setL []
theorem runL_succ {l : List Rule} {k : Nat} (h : k < l.length) : runL (l.take (k + 1)) = setL (runL (l.take k)) l[k] := by
  unfold runL
  rw [List.take_succ_eq_append_getElem h, List.foldl_append]
  rfl
def lastI (a b : T) (kv : KV) : Int := intV (mget (str a, str b) kv)
theorem ask_last (kv : KV) (a b : T) : askV kv a b = if a = b ∧ nameB a = true then 1 else lastI a b kv := rfl
theorem runP (l : List Rule) : KvP (runL l) := by
  unfold runL
  have : ∀ (l : List Rule) (kv : KV), KvP kv → KvP (l.foldl setL kv) := by
    intro l
    induction l with
    | nil => intro kv h; exact h
    | cons r t ih => intro kv h; exact ih _ (h.set r)
  exact this l [] KvP.nil
theorem last_set {kv : KV} (H : KvP kv) {r : Rule} (h : setE kv r = 0) : lastI r.who r.watcher (setL kv r) = r.what := by
  have hk : chkR r = 0 := by
    rcases chk_01 r with q | q
    · exact q
    · have := (set_bad (kv := kv) (r := r) (by omega)).1; omega
  unfold lastI
  by_cases h0 : r.what = 0
  · rw [(set_del hk h0).2, mdel_get H.nd]
    unfold keyR
    rw [if_pos rfl, h0]
    rfl
  · by_cases hf : mget (keyR r) kv = none ∧ 500 ≤ kv.length
    · have := (set_full hk h0 hf).1; omega
    · rw [(set_put hk h0 hf).2, mget_put]
      unfold keyR
      rw [if_pos rfl]
      rfl
theorem last_same {kv : KV} (H : KvP kv) {r : Rule} {a b : T} (h : ¬ (setE kv r = 0 ∧ r.who = a ∧ r.watcher = b)) : lastI a b (setL kv r) = lastI a b kv := by
  have hne : setE kv r = 0 → (str a, str b) ≠ keyR r := fun h0 e => h ⟨h0, (str_inj (congrArg Prod.fst e)).symm, (str_inj (congrArg Prod.snd e)).symm⟩
  unfold lastI
  by_cases hk : chkR r = 0
  · by_cases h0 : r.what = 0
    · have he := set_del (kv := kv) hk h0
      rw [he.2, mdel_get H.nd, if_neg (hne he.1)]
    · by_cases hf : mget (keyR r) kv = none ∧ 500 ≤ kv.length
      · rw [(set_full hk h0 hf).2]
      · have he := set_put (kv := kv) hk h0 hf
        rw [he.2, mget_put, if_neg (hne he.1)]
  · rw [(set_bad hk).2]
structure LastRel (l : List Rule) (a b : T) (w : World) (p : Nat) (F : Nat → Prop) (k : Nat) (v : Value) (wr : World) : Prop where
  v : v = .int .i64 (lastI a b (runL (l.take k)))
  tb : Tb wr p (runL (l.take k)) F
  be : Below w.heap.size w wr
end Go.Proofs.YtpnchfigehgkgaaGreatDoor
namespace Go.Proofs.YtpnchfigehgkgaaGreatDoor
set_option linter.unusedSimpArgs false
set_option linter.unusedVariables false
open Go.RowKit
def ltR (a b : Rule) : Prop := a.who < b.who ∨ a.who = b.who ∧ a.watcher < b.watcher
instance (a b : Rule) : Decidable (ltR a b) := inferInstanceAs (Decidable (_ ∨ _))
theorem tlt_irr (a : T) : ¬ a < a := List.lt_irrefl a
theorem tlt_trans {a b c : T} (h : a < b) (k : b < c) : a < c := List.lt_trans h k
theorem tlt_tri (a b : T) : a < b ∨ a = b ∨ b < a := by
  by_cases h : a < b
  · exact .inl h
  · by_cases k : b < a
    · exact .inr (.inr k)
    · exact .inr (.inl (List.le_antisymm (List.not_lt.1 k) (List.not_lt.1 h)))
theorem ltR_irr (a : Rule) : ¬ ltR a a := by
  rintro (h | ⟨_, h⟩)
  · exact tlt_irr _ h
  · exact tlt_irr _ h
theorem ltR_trans {a b c : Rule} (h : ltR a b) (k : ltR b c) : ltR a c := by
  rcases h with h | ⟨e, h⟩ <;> rcases k with k | ⟨f, k⟩
  · exact .inl (tlt_trans h k)
  · exact .inl (f ▸ h)
  · exact .inl (e ▸ k)
  · exact .inr ⟨e.trans f, tlt_trans h k⟩
theorem ltR_key {a b : Rule} (h : ltR a b) : keyR a ≠ keyR b := by
  intro e
  have h1 : str a.who = str b.who := congrArg Prod.fst e
  have h2 : str a.watcher = str b.watcher := congrArg Prod.snd e
  have e1 := str_inj h1
  have e2 := str_inj h2
  rcases h with h | ⟨_, h⟩
  · rw [e1] at h; exact tlt_irr _ h
  · rw [e2] at h; exact tlt_irr _ h
theorem ltR_tri {a b : Rule} (h : keyR a ≠ keyR b) : ltR a b ∨ ltR b a := by
  rcases tlt_tri a.who b.who with q | q | q
  · exact .inl (.inl q)
  · rcases tlt_tri a.watcher b.watcher with k | k | k
    · exact .inl (.inr ⟨q, k⟩)
    · exact absurd (by unfold keyR; rw [q, k]) h
    · exact .inr (.inr ⟨q.symm, k⟩)
  · exact .inr (.inl q)
def pairs (l : List Rule) : KV := l.map fun r => (keyR r, .int .i64 r.what)
def restR (l : List Rule) (r : Rule) : List Rule := l.filter fun x => decide (keyR x ≠ keyR r)
def insR (l : List Rule) (r : Rule) : List Rule := l.takeWhile (fun x => decide (ltR x r)) ++ r :: l.dropWhile (fun x => decide (ltR x r))
def rSetRE (l : List Rule) (r : Rule) : Int := if chkR r ≠ 0 then 1 else if r.what = 0 then 0 else if (restR l r).length = l.length ∧ 500 ≤ l.length then 5 else 0
def rSetRL (l : List Rule) (r : Rule) : List Rule := if chkR r ≠ 0 then l else if r.what = 0 then restR l r else if (restR l r).length = l.length ∧ 500 ≤ l.length then l else insR (restR l r) r
def rAskR (l : List Rule) (a b : T) : Int := if a = b ∧ nameB a = true then 1 else match l.find? (fun x => decide (x.who = a ∧ x.watcher = b)) with
  | some x => x.what
  | none => 0
/-- the list stands for the map -/
structure Stands (kv : KV) (l : List Rule) : Prop where
  so : l.Pairwise ltR
  pm : kv.Perm (pairs l)
theorem Stands.nil : Stands [] [] := ⟨List.Pairwise.nil, List.Perm.refl _⟩
theorem so_nd {l : List Rule} (h : l.Pairwise ltR) : ((pairs l).map (·.1)).Nodup := by
  unfold pairs
  rw [List.map_map, List.nodup_iff_pairwise_ne, List.pairwise_map]
  exact h.imp fun h => ltR_key h
theorem mget_perm {k : PK} {a b : KV} (ha : (a.map (·.1)).Nodup) (h : a.Perm b) : mget k a = mget k b := by
  have hb : (b.map (·.1)).Nodup := ((h.map (·.1)).nodup_iff).1 ha
  cases hg : mget k b with
  | some v => exact mget_of_mem ha (h.mem_iff.2 (mget_mem hg))
  | none => exact mget_none fun hm => mget_none' hg (((h.map (·.1)).mem_iff).1 hm)
theorem mdel_filter {k : PK} : ∀ {l : KV}, (l.map (·.1)).Nodup → mdel k l = l.filter fun x => decide (x.1 ≠ k)
  | [], _ => rfl
  | y :: r, hn => by
    rw [List.map_cons, List.nodup_cons] at hn
    unfold mdel
    by_cases h : y.1 = k
    · rw [if_pos h, List.filter_cons_of_neg (by simp [h])]
      symm
      rw [List.filter_eq_self]
      intro x hx
      have : x.1 ≠ k := fun e => hn.1 (by rw [h, ← e]; exact List.mem_map.2 ⟨x, hx, rfl⟩)
      simpa using this
    · rw [if_neg h, List.filter_cons_of_pos (by simpa using h), mdel_filter hn.2]
theorem mput_perm {k : PK} {v : Value} {l : KV} : (mput k v l).Perm ((k, v) :: mdel k l) := by
  induction l with
  | nil => exact List.Perm.refl _
  | cons y r ih =>
    unfold mput mdel
    by_cases h : y.1 = k
    · rw [if_pos h, if_pos h]
    · rw [if_neg h, if_neg h]
      exact (ih.cons y).trans (List.Perm.swap _ _ _)
theorem pairs_rest {l : List Rule} (h : l.Pairwise ltR) (r : Rule) : mdel (keyR r) (pairs l) = pairs (restR l r) := by
  rw [mdel_filter (so_nd h)]
  unfold pairs restR
  rw [List.filter_map]
  rfl
theorem ins_perm_ (l : List Rule) (r : Rule) : (insR l r).Perm (r :: l) := by
  unfold insR
  refine List.perm_middle.trans ?_
  rw [List.takeWhile_append_dropWhile]
theorem drop_above {l : List Rule} (h : l.Pairwise ltR) {r : Rule} (hk : ∀ x ∈ l, keyR x ≠ keyR r) : ∀ x ∈ l.dropWhile (fun x => decide (ltR x r)), ltR r x := by
  induction l with
  | nil => simp
  | cons y t ih =>
    rw [List.pairwise_cons] at h
    by_cases hy : ltR y r
    · rw [List.dropWhile_cons_of_pos (by simpa using hy)]
      exact ih h.2 fun x hx => hk x (List.mem_cons_of_mem _ hx)
    · rw [List.dropWhile_cons_of_neg (by simpa using hy)]
      have hyr : ltR r y := (ltR_tri (hk y List.mem_cons_self)).resolve_left hy
      intro x hx
      rcases List.mem_cons.1 hx with e | e
      · rw [e]; exact hyr
      · exact ltR_trans hyr (h.1 x e)
theorem take_below (l : List Rule) (r : Rule) : ∀ x ∈ l.takeWhile (fun x => decide (ltR x r)), ltR x r := by
  intro x hx
  induction l with
  | nil => simp at hx
  | cons y t ih =>
    by_cases h : ltR y r
    · rw [List.takeWhile_cons_of_pos (by simpa using h)] at hx
      rcases List.mem_cons.1 hx with e | e
      · rw [e]; exact h
      · exact ih e
    · rw [List.takeWhile_cons_of_neg (by simpa using h)] at hx
      simp at hx
theorem ins_so {l : List Rule} (h : l.Pairwise ltR) {r : Rule} (hk : ∀ x ∈ l, keyR x ≠ keyR r) : (insR l r).Pairwise ltR := by
  have hd := drop_above h hk
  unfold insR
  rw [List.pairwise_append]
  refine ⟨h.sublist (List.takeWhile_sublist _), ?_, fun a ha b hb => ?_⟩
  · rw [List.pairwise_cons]
    exact ⟨hd, h.sublist (List.dropWhile_sublist _)⟩
  · have h1 := take_below l r a ha
    rcases List.mem_cons.1 hb with e | e
    · rw [e]; exact h1
    · exact ltR_trans h1 (hd b e)
theorem rest_key {l : List Rule} {r : Rule} : ∀ x ∈ restR l r, keyR x ≠ keyR r := by
  intro x hx
  have := (List.mem_filter.1 hx).2
  simpa using this
theorem rest_len {l : List Rule} (h : l.Pairwise ltR) (r : Rule) : (restR l r).length = l.length ↔ mget (keyR r) (pairs l) = none := by
  unfold restR
  rw [List.length_filter_eq_length_iff]
  constructor
  · intro hh
    refine mget_none fun hm => ?_
    obtain ⟨y, hy, he⟩ := List.mem_map.1 hm
    obtain ⟨x, hx, rfl⟩ := List.mem_map.1 hy
    have := hh x hx
    simp at this
    exact this he
  · intro hg x hx
    have := mget_none' hg
    simp only [decide_eq_true_eq]
    exact fun e => this (List.mem_map.2 ⟨(keyR x, .int .i64 x.what), List.mem_map.2 ⟨x, hx, rfl⟩, e⟩)
theorem Stands.set {kv : KV} {l : List Rule} (H : Stands kv l) (r : Rule) : Stands (setL kv r) (rSetRL l r) ∧ setE kv r = rSetRE l r := by
  have hnd := so_nd H.so
  have hkd : (kv.map (·.1)).Nodup := ((H.pm.map (·.1)).nodup_iff).2 hnd
  have hg := mget_perm (k := keyR r) hkd H.pm
  have hl : kv.length = l.length := by have := H.pm.length_eq; unfold pairs at this; simpa using this
  have hrest : (mdel (keyR r) kv).Perm (pairs (restR l r)) := by
    rw [← pairs_rest H.so, mdel_filter hkd, mdel_filter hnd]
    exact H.pm.filter _
  have hso : (restR l r).Pairwise ltR := H.so.filter _
  unfold setL setE rSetRL rSetRE
  have hiff : (mget (keyR r) kv = none ∧ 500 ≤ kv.length) ↔ ((restR l r).length = l.length ∧ 500 ≤ l.length) := by rw [hg, hl, rest_len H.so r]
  by_cases h : chkR r ≠ 0
  · rw [if_pos h, if_pos h, if_pos h, if_pos h]
    exact ⟨H, rfl⟩
  · rw [if_neg h, if_neg h, if_neg h, if_neg h]
    by_cases h0 : r.what = 0
    · rw [if_pos h0, if_pos h0, if_pos h0, if_pos h0]
      exact ⟨⟨hso, hrest⟩, rfl⟩
    · rw [if_neg h0, if_neg h0, if_neg h0, if_neg h0]
      by_cases hf : mget (keyR r) kv = none ∧ 500 ≤ kv.length
      · have hf' := hiff.1 hf
        rw [if_pos hf, if_pos hf, if_pos hf', if_pos hf']
        exact ⟨H, rfl⟩
      · have hf' := fun q => hf (hiff.2 q)
        rw [if_neg hf, if_neg hf, if_neg hf', if_neg hf']
        refine ⟨⟨ins_so hso rest_key, ?_⟩, rfl⟩
        refine mput_perm.trans ((hrest.cons _).trans ?_)
        have := (ins_perm_ (restR l r) r).map fun r => (keyR r, Value.int .i64 r.what)
        exact this.symm
def unR (x : PK × Value) : Rule := ⟨x.1.1.data.toList, x.1.2.data.toList, intV (some x.2)⟩
theorem unR_pairs (l : List Rule) : (pairs l).map unR = l := by
  unfold pairs
  rw [List.map_map]
  conv => rhs; rw [← List.map_id l]
  rfl
theorem Stands.ask {kv : KV} {l : List Rule} (H : Stands kv l) (a b : T) : askV kv a b = rAskR l a b := by
  have hnd := so_nd H.so
  have hkd : (kv.map (·.1)).Nodup := ((H.pm.map (·.1)).nodup_iff).2 hnd
  unfold askV rAskR
  rw [mget_perm hkd H.pm]
  split
  · rfl
  · clear hnd hkd H
    induction l with
    | nil => rfl
    | cons x r ih =>
      unfold pairs at *
      rw [List.map_cons]
      unfold mget
      by_cases h : x.who = a ∧ x.watcher = b
      · rw [List.find?_cons_of_pos (by simpa using h), if_pos (by unfold keyR; rw [h.1, h.2])]
        rfl
      · rw [List.find?_cons_of_neg (by simpa using h), if_neg (fun e => h ⟨str_inj (congrArg Prod.fst e), str_inj (congrArg Prod.snd e)⟩)]
        exact ih
/-- a sorted permutation of what the map holds is the list -/
theorem Stands.sorted {kv : KV} {l d : List Rule} (H : Stands kv l) (hp : (pairs d).Perm kv) (hs : d.Pairwise fun a b => ¬ ltR b a) : d = l := by
  have hpl : d.Perm l := by
    have h := (hp.trans H.pm).map unR
    rw [unR_pairs, unR_pairs] at h
    exact h
  refine hpl.eq_of_pairwise (le := fun a b => ¬ ltR b a) (fun a b ha hb h1 h2 => ?_) hs (H.so.imp fun h k => ltR_irr _ (ltR_trans h k))
  by_cases e : keyR a = keyR b
  · have hd := so_nd H.so
    have ha' := hpl.mem_iff.1 ha
    rcases List.getElem_of_mem ha' with ⟨i, hi, rfl⟩
    rcases List.getElem_of_mem hb with ⟨j, hj, rfl⟩
    have hpw := List.pairwise_iff_getElem.1 H.so
    rcases Nat.lt_trichotomy i j with q | q | q
    · exact absurd e (ltR_key (hpw i j hi hj q))
    · subst q; rfl
    · exact absurd e.symm (ltR_key (hpw j i hj hi q))
  · rcases ltR_tri e with q | q
    · exact absurd q h2
    · exact absurd q h1
end Go.Proofs.YtpnchfigehgkgaaGreatDoor
namespace Go.Proofs.YtpnchfigehgkgaaGreatDoor
set_option linter.unusedSimpArgs false
set_option linter.unusedVariables false
open Go.RowKit
theorem kbl_str (a b : T) : Op.bytesLess (str a).toList (str b).toList = decide (a < b) := by
  rw [bytesLess_eq, Lib.toList_data, Lib.toList_data]; rfl
/-- a slice of rules: it reads as l -/
def RulV (w : World) (v : Value) (l : List Rule) : Prop := RdV w 28 3 l.length v (rows ruleC l)
theorem rul_rd {w : World} {A : Option Addr} {l : List Rule} (h : Rd w 28 3 l.length A (rows ruleC l)) {i : Nat} (hi : i < l.length) :
    ∃ gb off, A = some ⟨gb, off, none⟩ ∧ gb < w.heap.size ∧ w.cell? ⟨gb, off + i * 3, none⟩ = some (.string (str l[i].who)) ∧ w.cell? ⟨gb, off + i * 3 + 1, none⟩ = some (.string (str l[i].watcher)) ∧ w.cell? ⟨gb, off + i * 3 + 2, none⟩ = some (.int .i64 l[i].what) := by
  obtain ⟨gb, off, e, hlt, hc⟩ := rd_row ruleC_len h hi
  refine ⟨gb, off, e, hlt, ?_, hc 1 (by omega), hc 2 (by omega)⟩
  have := hc 0 (by omega)
  rwa [Nat.add_zero] at this
theorem rcheck20_any {r : Rule} (hs : RuleS r) (w : World) : Calls Tryz.prog 8 #[.agg #[.string (str r.who), .string (str r.watcher), .int .i64 r.what]] w (IntPost (chkR r) w) := by
  obtain ⟨w0, hw0⟩ : ∃ w0, w.alloc (.cells #[.string (str r.who), .string (str r.watcher), .int .i64 r.what] 28) = w0 := ⟨_, rfl⟩
  obtain ⟨hb0, hc⟩ := rule_box hw0
  have HB0 := Lib.hid hb0
  have HC := Lib.hid hc
  have HN1 : Hid (∀ W, Calls Tryz.prog 17 #[.string (str r.who)] W (BoolPost (nameB r.who) W)) := Lib.hid (fun W => rname_any hs.who W)
  have HN2 : Hid (∀ W, Calls Tryz.prog 17 #[.string (str r.watcher)] W (BoolPost (nameB r.watcher) W)) := Lib.hid (fun W => rname_any hs.watcher W)
  have HV : Hid (∀ c, ((nameB r.who = false ∨ nameB r.watcher = false ∨ r.what < 0 ∨ 2 < r.what) → c = 1) → (¬ (nameB r.who = false ∨ nameB r.watcher = false ∨ r.what < 0 ∨ 2 < r.what) → c = 0) → chkR r = c) := Lib.hid (fun c h1 h2 => by
    unfold chkR
    split
    · rename_i h; exact (h1 h).symm
    · rename_i h; exact (h2 h).symm)
  unfold BoolPost at HN1 HN2
  unfold IntPost
  generalize chkR r = V at *
  generalize nameB r.who = N1 at *
  generalize nameB r.watcher = N2 at *
  generalize r.what = K at *
  clear hb0 hc hs
  obtain ⟨c0, c1, c2⟩ := HC.out w0 (Below.refl _ _)
  cases N1 with
  | false =>
    replace HV := Lib.hid (HV.out 1 (fun _ => rfl) (fun h => absurd (.inl rfl) h))
    go_enter Tryz.func8, Tryz.ntmps8
    go_upto_region 1 with (fail)
    go_wp2_with fail
    refine (HN1.out _).mono ?_
    rintro e w1 ⟨rfl, hb⟩
    have HB1 := Lib.hid (thenB HB0.out hb)
    clear hb
    go_wp2
    go_ret
    exact ⟨ret_int HV.out.symm, HB1.out⟩
  | true =>
    cases N2 with
    | false =>
      replace HV := Lib.hid (HV.out 1 (fun _ => rfl) (fun h => absurd (.inr (.inl rfl)) h))
      go_enter Tryz.func8, Tryz.ntmps8
      go_upto_region 1 with (fail)
      go_wp2_with fail
      refine (HN1.out _).mono ?_
      rintro e w1 ⟨rfl, hb⟩
      have HX1 := Lib.hid hb
      clear hb c0 c1 c2
      obtain ⟨c0, c1, c2⟩ := HC.out w1 HX1.out
      go_wp2_with fail
      refine (HN2.out _).mono ?_
      rintro e w2 ⟨rfl, hb⟩
      have HB2 := Lib.hid (thenB HB0.out (thenB HX1.out hb))
      clear hb
      go_wp2
      go_ret
      exact ⟨ret_int HV.out.symm, HB2.out⟩
    | true =>
      have HOK : Hid (0 ≤ K → K ≤ 2 → V = 0) := Lib.hid (fun h1 h2 => HV.out 0 (fun h => by simp at h; omega) (fun _ => rfl))
      have HNO : Hid ((K < 0 ∨ 2 < K) → V = 1) := Lib.hid (fun h => HV.out 1 (fun _ => rfl) (fun q => absurd (.inr (.inr h)) q))
      clear HV
      go_enter Tryz.func8, Tryz.ntmps8
      go_upto_region 1 with (fail)
      go_wp2_with fail
      refine (HN1.out _).mono ?_
      rintro e w1 ⟨rfl, hb⟩
      have HX1 := Lib.hid hb
      clear hb c0 c1 c2
      obtain ⟨c0, c1, c2⟩ := HC.out w1 HX1.out
      go_wp2_with fail
      refine (HN2.out _).mono ?_
      rintro e w2 ⟨rfl, hb⟩
      have HX2 := Lib.hid (thenB HX1.out hb)
      have HB2 := Lib.hid (thenB HB0.out HX2.out)
      clear hb c0 c1 c2
      obtain ⟨c0, c1, c2⟩ := HC.out w2 HX2.out
      by_cases h0 : K < 0
      · have HV := Lib.hid (HNO.out (.inl h0))
        go_wp2
        go_ret
        exact ⟨ret_int HV.out.symm, HB2.out⟩
      · by_cases h2 : 2 < K
        · have HV := Lib.hid (HNO.out (.inr h2))
          go_wp2
          go_ret
          exact ⟨ret_int HV.out.symm, HB2.out⟩
        · have HV := Lib.hid (HOK.out (by omega) (by omega))
          go_wp2
          go_ret
          exact ⟨ret_int HV.out.symm, HB2.out⟩
theorem less_box {a b : Rule} {w w0 : World} (h : (w.alloc (.cells #[.string (str a.who), .string (str a.watcher), .int .i64 a.what] 28)).alloc (.cells #[.string (str b.who), .string (str b.watcher), .int .i64 b.what] 28) = w0) :
    Below w.heap.size w w0 ∧ w0.cell? ⟨w.heap.size, 0, none⟩ = some (.string (str a.who)) ∧ w0.cell? ⟨w.heap.size, 1, none⟩ = some (.string (str a.watcher)) ∧ w0.cell? ⟨w.heap.size + 1, 0, none⟩ = some (.string (str b.who)) ∧ w0.cell? ⟨w.heap.size + 1, 1, none⟩ = some (.string (str b.watcher)) := by
  have b1 : Blk w0 w.heap.size 28 #[.string (str a.who), .string (str a.watcher), .int .i64 a.what] := h ▸ (Blk.new w _ _).alloc _
  have b2 : Blk w0 (w.heap.size + 1) 28 #[.string (str b.who), .string (str b.watcher), .int .i64 b.what] := h ▸ Blk.new' (w.alloc _) _ _ (by simp)
  exact ⟨h ▸ ((Below.refl _ _).alloc (Nat.le_refl _) _).alloc (by simp) _, b1.cell 0, b1.cell 1, b2.cell 0, b2.cell 1⟩
theorem less_any (a b : Rule) (w : World) : Calls Tryz.prog 14 #[.agg #[.string (str a.who), .string (str a.watcher), .int .i64 a.what], .agg #[.string (str b.who), .string (str b.watcher), .int .i64 b.what]] w (BoolPost (decide (ltR a b)) w) := by
  obtain ⟨w0, hw0⟩ : ∃ w0, (w.alloc (.cells #[.string (str a.who), .string (str a.watcher), .int .i64 a.what] 28)).alloc (.cells #[.string (str b.who), .string (str b.watcher), .int .i64 b.what] 28) = w0 := ⟨_, rfl⟩
  obtain ⟨hb, c0, c1, c2, c3⟩ := less_box hw0
  have HB := Lib.hid hb
  have h1 := kbl_str a.who b.who
  have h2 := kbl_str a.watcher b.watcher
  unfold BoolPost
  clear hb
  by_cases p : a.who < b.who
  · have hv : decide (ltR a b) = true := decide_eq_true (.inl p)
    rw [hv]
    rw [decide_eq_true p] at h1
    clear hv p
    go_enter Tryz.func14, Tryz.ntmps14
    go_upto_region 1 with (fail)
    go_wp2
    go_ret
    exact ⟨rfl, HB.out⟩
  · rw [decide_eq_false p] at h1
    by_cases q : a.who = b.who
    · have q1 : ((str a.who).toList == (str b.who).toList) = true := by rw [q]; exact beq_self_eq_true _
      by_cases s : a.watcher < b.watcher
      · have hv : decide (ltR a b) = true := decide_eq_true (.inr ⟨q, s⟩)
        rw [hv]
        rw [decide_eq_true s] at h2
        clear hv p q s
        go_enter Tryz.func14, Tryz.ntmps14
        go_upto_region 1 with (fail)
        go_wp2
        go_ret
        exact ⟨rfl, HB.out⟩
      · have hv : decide (ltR a b) = false := decide_eq_false (fun h => h.elim p (fun h => s h.2))
        rw [hv]
        rw [decide_eq_false s] at h2
        clear hv p q s
        go_enter Tryz.func14, Tryz.ntmps14
        go_upto_region 1 with (fail)
        go_wp2
        go_ret
        exact ⟨rfl, HB.out⟩
    · have hv : decide (ltR a b) = false := decide_eq_false (fun h => h.elim p (fun h => q h.1))
      rw [hv]
      have q1 := str_neb q
      have q2 := str_ne q
      clear hv p q
      go_enter Tryz.func14, Tryz.ntmps14
      go_upto_region 1 with (fail)
      go_wp2
      go_ret
      exact ⟨rfl, HB.out⟩
/-! ### Ask -/
def hitR (a b : T) (x : Rule) : Prop := x.who = a ∧ x.watcher = b
instance (a b : T) (x : Rule) : Decidable (hitR a b x) := inferInstanceAs (Decidable (_ ∧ _))
theorem ruleF_none {l : List Rule} {a b : T} (h : ∀ x ∈ l, ¬ hitR a b x) : l.find? (fun x => decide (x.who = a ∧ x.watcher = b)) = none := by
  rw [List.find?_eq_none]
  intro x hx
  have := h x hx
  unfold hitR at this
  simpa using this
theorem ruleF_at {l : List Rule} {a b : T} {k : Nat} (hk : k < l.length) (h : ∀ x ∈ l.take k, ¬ hitR a b x) (hh : hitR a b l[k]) : l.find? (fun x => decide (x.who = a ∧ x.watcher = b)) = some l[k] := by
  have e : l = l.take k ++ l[k] :: l.drop (k + 1) := by
    rw [List.getElem_cons_drop hk, List.take_append_drop]
  generalize l[k] = y at *
  rw [e, List.find?_append, ruleF_none h, List.find?_cons_of_pos (by unfold hitR at hh; simpa using hh)]
  rfl
theorem ask_all {l : List Rule} {a b : T} (hn : ¬ (a = b ∧ nameB a = true)) (h : ∀ x ∈ l.take l.length, ¬ hitR a b x) : rAskR l a b = 0 := by
  rw [List.take_length] at h
  unfold rAskR
  rw [if_neg hn, ruleF_none h]
theorem ask_at {l : List Rule} {a b : T} {k : Nat} (hn : ¬ (a = b ∧ nameB a = true)) (hk : k < l.length) (h : ∀ x ∈ l.take k, ¬ hitR a b x) (hh : hitR a b l[k]) : rAskR l a b = l[k].what := by
  unfold rAskR
  rw [if_neg hn, ruleF_at hk h hh]
theorem hit_step {l : List Rule} {a b : T} {k : Nat} (hk : k < l.length) (h : ∀ x ∈ l.take k, ¬ hitR a b x) (hh : ¬ hitR a b l[k]) : ∀ x ∈ l.take (k + 1), ¬ hitR a b x := by
  intro x hx
  rw [List.take_succ_eq_append_getElem hk] at hx
  rcases List.mem_append.1 hx with q | q
  · exact h x q
  · simp at q; subst q; exact hh
set_option maxRecDepth 100000 in
set_option maxHeartbeats 4000000 in
theorem rask20_any {l : List Rule} {a b : T} {A : Option Addr} {c : Nat} {w : World} (hr : Rd w 28 3 l.length A (rows ruleC l)) (hl : l.length ≤ 1000000) (ha : a.length ≤ 99999990) :
    Calls Tryz.prog 12 #[.slice A l.length c, .string (str a), .string (str b)] w (IntPost (rAskR l a b) w) := by
  have HN : Hid (∀ W, Calls Tryz.prog 17 #[.string (str a)] W (BoolPost (nameB a) W)) := Lib.hid (fun W => rname_any ha W)
  have HY : Hid (a = b → nameB a = true → rAskR l a b = 1) := Lib.hid (fun h1 h2 => by unfold rAskR; rw [if_pos ⟨h1, h2⟩])
  have HALL : Hid (¬ (a = b ∧ nameB a = true) → (∀ x ∈ l.take l.length, ¬ hitR a b x) → rAskR l a b = 0) := Lib.hid (fun h1 h2 => ask_all h1 h2)
  have HAT : Hid (¬ (a = b ∧ nameB a = true) → ∀ k (hk : k < l.length), (∀ x ∈ l.take k, ¬ hitR a b x) → hitR a b l[k] → rAskR l a b = l[k].what) := Lib.hid (fun h1 k hk h2 h3 => ask_at h1 hk h2 h3)
  have HR := Lib.hid hr
  unfold BoolPost at HN
  unfold IntPost
  generalize rAskR l a b = V at *
  generalize nameB a = N at *
  clear hr ha
  have loop : ∀ w0, Below w.heap.size w w0 → ¬ (a = b ∧ N = true) → True := fun _ _ _ => trivial
  clear loop
  by_cases hab : a = b
  · subst hab
    have q1 : ((str a).toList == (str a).toList) = true := beq_self_eq_true _
    cases N with
    | true =>
      have HV := Lib.hid (HY.out rfl rfl)
      clear HY HALL HAT
      go_enter Tryz.func12, Tryz.ntmps12
      go_wp2_with fail
      refine (HN.out _).mono ?_
      rintro e w1 ⟨rfl, hb⟩
      have HX := Lib.hid hb
      clear hb
      go_wp2
      go_ret
      exact ⟨ret_int HV.out.symm, HX.out⟩
    | false =>
      replace HALL := Lib.hid (HALL.out (by simp))
      replace HAT := Lib.hid (HAT.out (by simp))
      clear HY
      go_enter Tryz.func12, Tryz.ntmps12
      go_wp2_with fail
      refine (HN.out _).mono ?_
      rintro e w1 ⟨rfl, hb⟩
      have HX := Lib.hid hb
      clear hb
      go_wp2
      go_loop [7] (fun i => ∃ k : Nat, k ≤ l.length ∧ i = .int .i64 k ∧ ∀ x ∈ l.take k, ¬ hitR a a x) (fun i => l.length - (intOf i).toNat)
      case atStart => exact ⟨0, by omega, rfl, by simp⟩
      case round =>
        obtain ⟨k, hk, rfl, hn⟩ := hrel
        have HNK := Lib.hid hn
        clear hn
        by_cases hlt : k < l.length
        · obtain ⟨gb, off, hA, _, z0, z1, z2⟩ := rul_rd (HR.out.below HX.out) hlt
          subst hA
          have x0 : (0 : Int) ≤ k := by omega
          have x1 : (k : Int) < l.length := by omega
          have HS1 := Lib.hid (fun q => hit_step hlt HNK.out q)
          have HS2 := Lib.hid (fun q => HAT.out k hlt HNK.out q)
          generalize l[k] = r at *
          by_cases hw : r.who = a
          · by_cases hv : r.watcher = a
            · have HV := Lib.hid (HS2.out ⟨hw, hv⟩)
              rw [hw] at z0
              rw [hv] at z1
              clear HS1 HS2 hw hv
              go_wp2
              go_ret
              exact ⟨ret_int HV.out.symm, HX.out⟩
            · have HV := Lib.hid (HS1.out (fun h => hv h.2))
              have q2 := str_neb hv
              have q3 := str_ne hv
              rw [hw] at z0
              clear HS1 HS2 hw hv
              go_wp2
              go_round
              case rel => exact ⟨k + 1, by omega, by go_num, HV.out⟩
              case measure => simp [intOf] <;> omega
          · have HV := Lib.hid (HS1.out (fun h => hw h.1))
            have q2 := str_neb hw
            have q3 := str_ne hw
            clear HS1 HS2 hw
            go_wp2
            go_round
            case rel => exact ⟨k + 1, by omega, by go_num, HV.out⟩
            case measure => simp [intOf] <;> omega
        · obtain rfl : k = l.length := by omega
          have HV := Lib.hid (HALL.out HNK.out)
          go_wp2
          go_ret
          exact ⟨ret_int HV.out.symm, HX.out⟩
  · replace HALL := Lib.hid (HALL.out (fun h => hab h.1))
    replace HAT := Lib.hid (HAT.out (fun h => hab h.1))
    have q1 := str_neb hab
    have q2 := str_ne hab
    clear HY hab
    go_enter Tryz.func12, Tryz.ntmps12
    go_wp2
    go_loop [7] (fun i => ∃ k : Nat, k ≤ l.length ∧ i = .int .i64 k ∧ ∀ x ∈ l.take k, ¬ hitR a b x) (fun i => l.length - (intOf i).toNat)
    case atStart => exact ⟨0, by omega, rfl, by simp⟩
    case round =>
      obtain ⟨k, hk, rfl, hn⟩ := hrel
      have HNK := Lib.hid hn
      clear hn
      by_cases hlt : k < l.length
      · obtain ⟨gb, off, hA, _, z0, z1, z2⟩ := rul_rd HR.out hlt
        subst hA
        have x0 : (0 : Int) ≤ k := by omega
        have x1 : (k : Int) < l.length := by omega
        have HS1 := Lib.hid (fun q => hit_step hlt HNK.out q)
        have HS2 := Lib.hid (fun q => HAT.out k hlt HNK.out q)
        generalize l[k] = r at *
        by_cases hw : r.who = a
        · have qa : ((str a).toList == (str a).toList) = true := beq_self_eq_true _
          by_cases hv : r.watcher = b
          · have qb : ((str b).toList == (str b).toList) = true := beq_self_eq_true _
            have HV := Lib.hid (HS2.out ⟨hw, hv⟩)
            rw [hw] at z0
            rw [hv] at z1
            clear HS1 HS2 hw hv
            go_wp2
            go_ret
            exact ⟨ret_int HV.out.symm, Below.refl _ _⟩
          · have HV := Lib.hid (HS1.out (fun h => hv h.2))
            have q4 := str_neb hv
            have q5 := str_ne hv
            rw [hw] at z0
            clear HS1 HS2 hw hv
            go_wp2
            go_round
            case rel => exact ⟨k + 1, by omega, by go_num, HV.out⟩
            case measure => simp [intOf] <;> omega
        · have HV := Lib.hid (HS1.out (fun h => hw h.1))
          have q4 := str_neb hw
          have q5 := str_ne hw
          clear HS1 HS2 hw
          go_wp2
          go_round
          case rel => exact ⟨k + 1, by omega, by go_num, HV.out⟩
          case measure => simp [intOf] <;> omega
      · obtain rfl : k = l.length := by omega
        have HV := Lib.hid (HALL.out HNK.out)
        go_wp2
        go_ret
        exact ⟨ret_int HV.out.symm, Below.refl _ _⟩
/-! ### Same -/
instance : DecidableEq Rule := fun p q => decidable_of_iff (p.who = q.who ∧ p.watcher = q.watcher ∧ p.what = q.what) (by
  obtain ⟨a1, a2, a3⟩ := p
  obtain ⟨b1, b2, b3⟩ := q
  simp)
theorem neq_rule (p q : Rule) (W : World) : (binOp .neq 28 (.agg #[.string (str p.who), .string (str p.watcher), .int .i64 p.what]) (.agg #[.string (str q.who), .string (str q.watcher), .int .i64 q.what])).run Tryz.prog W = .ok (.bool (!decide (p = q))) W := by
  obtain ⟨a1, a2, a3⟩ := p
  obtain ⟨b1, b2, b3⟩ := q
  have e1 : (str a1 = str b1) ↔ a1 = b1 := ⟨str_inj, fun h => by rw [h]⟩
  have e2 : (str a2 = str b2) ↔ a2 = b2 := ⟨str_inj, fun h => by rw [h]⟩
  simp only [Rule.mk.injEq]
  by_cases q1 : a1 = b1 <;> by_cases q2 : a2 = b2 <;> by_cases q3 : a3 = b3 <;> simp [go_sem, tol_eq, e1, e2, q1, q2, q3]
def SameTo3 (a b : List Rule) (j : Nat) : Prop := a.take j = b.take j
theorem same3_step {a b : List Rule} {j : Nat} (h : SameTo3 a b j) (ha : j < a.length) (hb : j < b.length) (e : a[j] = b[j]) : SameTo3 a b (j + 1) := by
  unfold SameTo3 at *
  rw [List.take_succ_eq_append_getElem ha, List.take_succ_eq_append_getElem hb, h, e]
/-- the same list twice -/
theorem rsame20_any {a : List Rule} {A1 A2 : Option Addr} {c1 c2 : Nat} {w : World} (h1 : Rd w 28 3 a.length A1 (rows ruleC a)) (h2 : Rd w 28 3 a.length A2 (rows ruleC a)) (l1 : a.length ≤ 1000000) :
    Calls Tryz.prog 9 #[.slice A1 a.length c1, .slice A2 a.length c2] w fun e w' => e = .returned (.bool true) ∧ ∃ n, w' = w.drewN n := by
  have H1 := Lib.hid h1
  have H2 := Lib.hid h2
  clear h1 h2
  go_enter Tryz.func9, Tryz.ntmps9
  go_wp2
  go_loopw [5] (fun i wr => ∃ j : Nat, j ≤ a.length ∧ i = .int .i64 j ∧ ∃ n, wr = w.drewN n) (fun i _ => a.length - (intOf i).toNat)
  case atStart => exact ⟨0, by omega, rfl, 0, rfl⟩
  case round =>
    obtain ⟨j, hj, rfl, n, rfl⟩ := hrel
    by_cases hlt : j < a.length
    · have x0 : (0 : Int) ≤ j := by omega
      have x1 : (j : Int) < a.length := by omega
      obtain ⟨gb, off, rfl, _, y0, y1, y2⟩ := rul_rd H1.out hlt
      obtain ⟨gb2, off2, rfl, _, z0, z1, z2⟩ := rul_rd H2.out hlt
      have heq := neq_rule a[j] a[j]
      rw [decide_eq_true rfl] at heq
      go_wp2
      go_quiet (fail)
      go_wp2
      go_roundw
      case rel => exact ⟨j + 1, by omega, by go_num, _, by first | rfl | exact World.drewN_drewN _ _ _⟩
      case measure => simp [intOf] <;> omega
    · have x1 : ¬ (j : Int) < a.length := by omega
      go_wp2
      go_ret
      exact ⟨rfl, n, rfl⟩
end Go.Proofs.YtpnchfigehgkgaaGreatDoor
namespace Go.Proofs.YtpnchfigehgkgaaGreatDoor
set_option linter.unusedSimpArgs false
set_option linter.unusedVariables false
open Go.RowKit
theorem eR28i : ElemInfo Tryz.prog 28 3 40 (.agg #[.string ⟨#[]⟩, .string ⟨#[]⟩, .int .i64 0]) := ElemInfo.mk' (by kernel_rfl)
def RSet20Post (l : List Rule) (r : Rule) (w : World) (e : Ending) (w' : World) : Prop := ∃ v, e = .returned (.tuple #[v, .int .i64 (rSetRE l r)]) ∧ RdV w' 28 3 (rSetRL l r).length v (rows ruleC (rSetRL l r)) ∧ Below w.heap.size w w'
theorem insR_split (r : Rule) : ∀ (l : List Rule) (j : Nat), j ≤ l.length → (∀ s ∈ l.take j, ltR s r) → (∀ s t, l.drop j = s :: t → ¬ ltR s r) → insR l r = l.take j ++ r :: l.drop j
  | [], _, _, _, _ => by simp [insR]
  | s :: t, 0, _, _, h => by
    have := h s t rfl
    unfold insR
    rw [List.takeWhile_cons_of_neg (by simpa using this), List.dropWhile_cons_of_neg (by simpa using this)]
    rfl
  | s :: t, j + 1, hj, ha, h => by
    have hs := ha s (by simp)
    have ih := insR_split r t j (by simpa using hj) (fun u hu => ha u (by simp [hu])) (fun u q e => h u q (by simpa using e))
    unfold insR at ih ⊢
    rw [List.takeWhile_cons_of_pos (by simpa using hs), List.dropWhile_cons_of_pos (by simpa using hs), List.cons_append, ih]
    rfl
theorem one_rules (l : List Rule) : ∀ u ∈ rows ruleC l, u.oneCell' = true := rows_one (fun a u hu => by simp [ruleC] at hu; rcases hu with rfl | rfl | rfl <;> rfl) l
theorem rest_in {l : List Rule} {r : Rule} {j : Nat} (hj : j < l.length) (h : ¬ (l[j].who = r.who ∧ l[j].watcher = r.watcher)) : restR (l.take (j + 1)) r = restR (l.take j) r ++ [l[j]] := by
  rw [List.take_succ_eq_append_getElem hj]
  unfold restR
  rw [List.filter_append, List.filter_cons_of_pos (by
    have : keyR l[j] ≠ keyR r := fun e => h ⟨str_inj (congrArg Prod.fst e), str_inj (congrArg Prod.snd e)⟩
    simpa using this)]
  rfl
theorem rest_out {l : List Rule} {r : Rule} {j : Nat} (hj : j < l.length) (h1 : l[j].who = r.who) (h2 : l[j].watcher = r.watcher) : restR (l.take (j + 1)) r = restR (l.take j) r := by
  rw [List.take_succ_eq_append_getElem hj]
  unfold restR
  rw [List.filter_append, List.filter_cons_of_neg (by simp [keyR, h1, h2])]
  simp
theorem rest_le (l : List Rule) (r : Rule) : (restR l r).length ≤ l.length := List.length_filter_le _ _
theorem own_drewN {w : World} {base : Nat} {e : TypeId} {size n : Nat} {v : Value} {xs : List Value} (h : w.ownsRow base e size v n xs) (k : Nat) : (w.drewN k).ownsRow base e size v n xs := h
theorem rset20_same {l : List Rule} {r : Rule} {w w' : World} {v : Value} {n : Int} (h : rSetRE l r = n) (h2 : rSetRL l r = l) (hr : RdV w' 28 3 l.length v (rows ruleC l)) (hb : Below w.heap.size w w') : RSet20Post l r w (.returned (.tuple #[v, .int .i64 n])) w' :=
  ⟨v, by rw [h], by rw [h2]; exact hr, hb⟩
set_option maxRecDepth 100000 in
set_option maxHeartbeats 8000000 in
theorem rset20_any {r : Rule} (hs : RuleS r) {l : List Rule} {A : Option Addr} {c : Nat} {w : World} (h : Rd w 28 3 l.length A (rows ruleC l)) (hl : l.length ≤ 1000) (hlc : l.length ≤ c) (hc : c ≤ maxLen) :
    Calls Tryz.prog 5 #[.slice A l.length c, .agg #[.string (str r.who), .string (str r.watcher), .int .i64 r.what]] w (RSet20Post l r w) := by
  obtain ⟨w0, hw0⟩ : ∃ w0, w.alloc (.cells #[.string (str r.who), .string (str r.watcher), .int .i64 r.what] 28) = w0 := ⟨_, rfl⟩
  obtain ⟨hb0, hbox⟩ := rule_box hw0
  have HBT : Hid (Blk w0 w.heap.size 28 #[.string (str r.who), .string (str r.watcher), .int .i64 r.what]) := Lib.hid (hw0 ▸ Blk.new w _ _)
  have HB0 := Lib.hid hb0
  have HC := Lib.hid hbox
  have HR : Hid (∀ W, Below w0.heap.size w0 W → Rd W 28 3 l.length A (rows ruleC l)) := Lib.hid (fun W hW => (h.below hb0).below hW)
  have HLV : Hid (∀ W, Below w0.heap.size w0 W → RdV W 28 3 l.length (.slice A l.length c) (rows ruleC l)) := Lib.hid (fun W hW => ⟨A, c, rfl, hlc, hc, HR.out W hW⟩)
  have HCK : Hid (∀ W, Calls Tryz.prog 8 #[.agg #[.string (str r.who), .string (str r.watcher), .int .i64 r.what]] W (IntPost (chkR r) W)) := Lib.hid (fun W => rcheck20_any hs W)
  unfold IntPost at HCK
  obtain ⟨c0, c1, c2⟩ := HC.out w0 (Below.refl _ _)
  clear h hb0 hbox hs
  by_cases hk : chkR r = 0
  · have HK := Lib.hid hk
    rw [hk] at HCK
    clear hk
    have HRR : Hid (rSetRE l r = (if r.what = 0 then 0 else if (restR l r).length = l.length ∧ 500 ≤ l.length then 5 else 0) ∧ rSetRL l r = (if r.what = 0 then restR l r else if (restR l r).length = l.length ∧ 500 ≤ l.length then l else insR (restR l r) r)) := Lib.hid (by
      unfold rSetRE rSetRL
      rw [if_neg (show ¬ (chkR r ≠ 0) from fun q => q HK.out), if_neg (show ¬ (chkR r ≠ 0) from fun q => q HK.out)]
      exact ⟨rfl, rfl⟩)
    go_enter Tryz.func5, Tryz.ntmps5
    go_upto_region 1 with (fail)
    go_wp2_with fail
    refine (HCK.out _).mono ?_
    rintro e w1 ⟨rfl, hb1⟩
    have HX1 := Lib.hid hb1
    clear hb1 c0 c1 c2
    go_wp2
    go_loopw [6, 7] (fun v i wr => ∃ j : Nat, j ≤ l.length ∧ i = .int .i64 j ∧ wr.ownsRow w0.heap.size 28 3 v (restR (l.take j) r).length (rows ruleC (restR (l.take j) r)) ∧ Below w0.heap.size w0 wr) (fun _ i _ => l.length - (intOf i).toNat)
    case atStart => exact ⟨0, by omega, rfl, ⟨rfl, .inl ⟨rfl, rfl⟩⟩, HX1.out⟩
    case round =>
      obtain ⟨j, hj, rfl, hown, hb⟩ := hrel
      have hln : (restR (l.take j) r).length ≤ j := by
        have := rest_le (l.take j) r
        rw [List.length_take] at this
        omega
      by_cases hlt : j < l.length
      · obtain ⟨gb, off, hA, _, z0, z1, z2⟩ := rul_rd (HR.out _ hb) hlt
        subst hA
        obtain ⟨c0, c1, c2⟩ := HC.out _ hb
        have HO := Lib.hid hown
        have HB := Lib.hid hb
        have HBS := Lib.hid hb.size
        have HIN := Lib.hid (fun q => rest_in (r := r) hlt q)
        have HOUT := Lib.hid (fun q1 q2 => rest_out (r := r) hlt q1 q2)
        have x0 : (0 : Int) ≤ j := by omega
        have x1 : (j : Int) < l.length := by omega
        clear hown hb
        generalize hlj : l[j] = x at *
        generalize restR (l.take j) r = R0 at *
        by_cases h1 : x.who = r.who
        · by_cases h2 : x.watcher = r.watcher
          · have HS := Lib.hid (HOUT.out h1 h2)
            have q1 : ((str x.who).toList == (str r.who).toList) = true := by rw [h1]; exact beq_self_eq_true _
            have q2 : ((str x.watcher).toList == (str r.watcher).toList) = true := by rw [h2]; exact beq_self_eq_true _
            have q3 : ((str x.who).toList != (str r.who).toList) = false := by rw [h1]; simp
            have q4 : ((str x.watcher).toList != (str r.watcher).toList) = false := by rw [h2]; simp
            have q5 : (str x.who).toList = (str r.who).toList := by rw [h1]
            have q6 : (str x.watcher).toList = (str r.watcher).toList := by rw [h2]
            clear h1 h2 HIN HOUT
            go_wp2
            go_quiet (fail)
            go_wp2
            go_roundw
            case rel => exact ⟨j + 1, by omega, by go_num, by rw [HS.out]; exact own_drewN HO.out _, below_drewN HB.out _⟩
            case measure => simp [intOf] <;> omega
          · have HS := Lib.hid (HIN.out (fun q => h2 q.2))
            have q1 : ((str x.who).toList == (str r.who).toList) = true := by rw [h1]; exact beq_self_eq_true _
            have q3 : ((str x.who).toList != (str r.who).toList) = false := by rw [h1]; simp
            have q5 : (str x.who).toList = (str r.who).toList := by rw [h1]
            have q2 := str_neb h2
            have q4 := str_ne h2
            clear h1 h2 HIN HOUT
            go_wp2
            go_quiet (fail)
            go_wp2_with (at_builtin; go_must (refine wpList_app1' rfl (.tmp 40) (.tmp 45) 22 rfl w0.heap.size 28 3 40 _ Tryz.underlying22 eR28i rfl (by omega) _ _ _ rfl (own_drewN HO.out _) [.string (str x.who), .string (str x.watcher), .int .i64 x.what] _ rfl (by first | (simp; done) | rfl) rfl (by intro u hu; simp at hu; rcases hu with rfl | rfl | rfl <;> rfl) (by unfold maxLen; omega) (by omega) (by have := HBS.out; first | exact this | (simp; omega)) ?_); intro v1 w1 hown1 hb1 hg1 hat1)
            have HE1 := Lib.hid hown1
            have HE2 := Lib.hid ((below_drewN HB.out _).trans hb1)
            clear hown1 hb1 hg1 hat1
            go_roundw
            case rel => exact ⟨j + 1, by omega, by go_num, by rw [HS.out, List.length_append, rows_snoc]; exact HE1.out, HE2.out⟩
            case measure => simp [intOf] <;> omega
        · have HS := Lib.hid (HIN.out (fun q => h1 q.1))
          have q2 := str_neb h1
          have q4 := str_ne h1
          clear h1 HIN HOUT
          go_wp2
          go_quiet (fail)
          go_wp2_with (at_builtin; go_must (refine wpList_app1' rfl (.tmp 40) (.tmp 45) 22 rfl w0.heap.size 28 3 40 _ Tryz.underlying22 eR28i rfl (by omega) _ _ _ rfl (own_drewN HO.out _) [.string (str x.who), .string (str x.watcher), .int .i64 x.what] _ rfl (by first | (simp; done) | rfl) rfl (by intro u hu; simp at hu; rcases hu with rfl | rfl | rfl <;> rfl) (by unfold maxLen; omega) (by omega) (by have := HBS.out; first | exact this | (simp; omega)) ?_); intro v1 w1 hown1 hb1 hg1 hat1)
          have HE1 := Lib.hid hown1
          have HE2 := Lib.hid ((below_drewN HB.out _).trans hb1)
          clear hown1 hb1 hg1 hat1
          go_roundw
          case rel => exact ⟨j + 1, by omega, by go_num, by rw [HS.out, List.length_append, rows_snoc]; exact HE1.out, HE2.out⟩
          case measure => simp [intOf] <;> omega
      · have hjl : j = l.length := by omega
        subst hjl
        rw [List.take_length] at hown hln
        obtain ⟨A', c', e, k1, k2, k3⟩ := RdV.of_own hown
        have HRV := Lib.hid (RdV.of_own hown)
        subst e
        have HB := Lib.hid hb
        have HK3 := Lib.hid k3
        obtain ⟨c0, c1, c2⟩ := HC.out _ hb
        clear hown hb k3
        by_cases hz : r.what = 0
        · have HE : Hid (rSetRE l r = 0 ∧ rSetRL l r = restR l r) := Lib.hid (by rw [HRR.out.1, HRR.out.2, if_pos hz, if_pos hz]; exact ⟨rfl, rfl⟩)
          rw [hz] at c2
          clear HRR hz
          have HFIN : Hid (RSet20Post l r w (.returned (.tuple #[.slice A' (restR l r).length c', .int .i64 0])) wr) := Lib.hid ⟨_, by rw [HE.out.1], by rw [HE.out.2]; exact HRV.out, thenB HB0.out HB.out⟩
          go_wp2
          go_ret2
          exact HFIN.out
        · have qz : (r.what == 0) = false := by simpa using hz
          by_cases hf : (restR l r).length = l.length ∧ 500 ≤ l.length
          · have HE : Hid (rSetRE l r = 5 ∧ rSetRL l r = l) := Lib.hid (by rw [HRR.out.1, HRR.out.2, if_neg hz, if_neg hz, if_pos hf, if_pos hf]; exact ⟨rfl, rfl⟩)
            have y1 : ((restR l r).length : Int) = l.length := by omega
            have y2 : (500 : Int) ≤ l.length := by omega
            clear HRR hz hf HRV
            generalize (restR l r).length = q at *
            go_wp2
            go_ret2
            exact rset20_same HE.out.1 HE.out.2 (HLV.out _ HB.out) (thenB HB0.out HB.out)
          · have HE : Hid (rSetRE l r = 0 ∧ rSetRL l r = insR (restR l r) r) := Lib.hid (by rw [HRR.out.1, HRR.out.2, if_neg hz, if_neg hz, if_neg hf, if_neg hf]; exact ⟨rfl, rfl⟩)
            have hdec : ¬ ((restR l r).length : Int) = l.length ∨ (((restR l r).length : Int) = l.length ∧ ¬ (500 : Int) ≤ l.length) := by omega
            have hln2 : (restR l r).length ≤ 1000 := by omega
            obtain ⟨wq, hwq⟩ : ∃ wq, wq = wr := ⟨_, rfl⟩
            subst hwq
            have HBW := Lib.hid (thenB HB0.out HB.out)
            have HBOX : Hid (Blk wq w.heap.size 28 #[.string (str r.who), .string (str r.watcher), .int .i64 r.what]) := Lib.hid (HBT.out.fr (Fr.of_below (F := fun _ => False) HB.out) (fun h => h))
            have HKX : Hid (∀ W, Below wq.heap.size wq W → Rd W 28 3 (restR l r).length A' (rows ruleC (restR l r))) := Lib.hid (fun W h => HK3.out.below h)
            have HLE : Hid (∀ rr, restR l r = rr → rSetRL l r = insR rr r) := Lib.hid (fun rr h => by rw [HE.out.2, h])
            have HE0 := Lib.hid HE.out.1
            have k4 : c' ≤ 9223372036854775807 := by unfold maxLen at k2; omega
            clear HRR hz hf HRV HK3 HE hln hlt hj
            generalize hrr : restR l r = rr at *
            have HLE := Lib.hid (HLE.out rr rfl)
            clear hrr
            have hgo : True := trivial
            rcases hdec with hd | ⟨hd, hd2⟩
            all_goals
              go_wp2
              clear hd
              go_loopw [8] (fun i wx => ∃ j : Nat, j ≤ rr.length ∧ i = .int .i64 j ∧ (∀ s ∈ rr.take j, ltR s r) ∧ Below wq.heap.size wq wx) (fun i _ => rr.length - (intOf i).toNat)
              case atStart => exact ⟨0, by omega, rfl, by simp, Below.refl _ _⟩
              case round =>
                obtain ⟨j, hj, rfl, hall, hbw⟩ := hrel
                have HBWR := Lib.hid hbw
                have HALL := Lib.hid hall
                have hbt := HBOX.out.fr (Fr.of_below (F := fun _ => False) hbw) (fun h => h)
                by_cases hlt : j < rr.length
                · have hdl : decide ((j : Int) < rr.length) = true := by simp; omega
                  obtain ⟨gb, off, hA, _, z0, z1, z2⟩ := rul_rd (HKX.out _ hbw) hlt
                  have b0' := hbt.cell 0
                  have b1' := hbt.cell 1
                  have b2' := hbt.cell 2
                  have hah := Lib.hid (fun W2 => less_any rr[j] r W2)
                  unfold BoolPost at hah
                  have x0 : (0 : Int) ≤ j := by omega
                  have x1 : (j : Int) < rr.length := by omega
                  subst hA
                  clear hbw hall hbt c0 c1 c2
                  by_cases hq : ltR rr[j] r
                  · have HQ := Lib.hid hq
                    rw [decide_eq_true hq] at hah
                    clear hq
                    go_wp2
                    go_still_tail 10, (by kernel_rfl)
                    go_wp2_with fail
                    refine (hah.out _).mono ?_
                    rintro e w2 ⟨rfl, hb2⟩
                    have HB2 := Lib.hid hb2
                    clear hb2
                    go_wp2
                    go_roundw
                    case rel =>
                      refine ⟨j + 1, by omega, by go_num, fun s hs => ?_, ?_⟩
                      · rw [List.take_succ_eq_append_getElem hlt] at hs
                        rcases List.mem_append.1 hs with q | q
                        · exact HALL.out s q
                        · simp at q; subst q; exact HQ.out
                      · exact HBWR.out.trans ((Below.refl _ _).drew.trans (HB2.out.mono HBWR.out.size))
                    case measure => simp [intOf] <;> omega
                  · have HQ := Lib.hid hq
                    rw [decide_eq_false hq] at hah
                    clear hq
                    go_wp2
                    go_still_tail 10, (by kernel_rfl)
                    go_wp2_with fail
                    refine (hah.out _).mono ?_
                    rintro e w2 ⟨rfl, hb2⟩
                    have hbx : Below wq.heap.size wq w2 := HBWR.out.trans ((Below.refl _ _).drew.trans (hb2.mono HBWR.out.size))
                    clear hb2
                    have hcj : ¬ c' = j := by omega
                    have hR1 : Hid (∀ W2, Below w2.heap.size w2 W2 → Rd W2 28 3 j (some ⟨gb, off, none⟩) (rows ruleC (rr.take j))) := Lib.hid (fun W2 hbw => rd_take ruleC_len ((HKX.out _ hbx).below hbw) hj)
                    have hR2 : Hid (∀ W2, Below w2.heap.size w2 W2 → Rd W2 28 3 (rr.length - j) (some ⟨gb, off + j * 3, none⟩) (rows ruleC (rr.drop j))) := Lib.hid (fun W2 hbw => by
                      have := rd_cut ruleC_len (cap := c') ((HKX.out _ hbx).below hbw) hj k1
                      rw [if_neg hcj, show (some (⟨gb, off, none⟩ : Addr)).map (·.add (j * 3)) = some ⟨gb, off + j * 3, none⟩ by simp only [Option.map_some, Addr.add]; by_cases e : j * 3 = 0 <;> simp [e]] at this
                      exact this)
                    have hsp := insR_split r rr j hj HALL.out (fun s t e => by
                      rw [List.drop_eq_getElem_cons hlt] at e
                      injection e with e1 e2
                      rw [← e1]; exact HQ.out)
                    have HFIN : Hid (∀ W2 v3, Below w2.heap.size w2 W2 → W2.ownsRow w2.heap.size 28 3 v3 (0 + j + 1 + (rr.length - j)) ([] ++ rows ruleC (rr.take j) ++ [.string (str r.who), .string (str r.watcher), .int .i64 r.what] ++ rows ruleC (rr.drop j)) → RSet20Post l r w (.returned (.tuple #[v3, .int .i64 0])) W2) := Lib.hid (fun W2 v3 hbw ho => by
                      have e : rSetRL l r = rr.take j ++ r :: rr.drop j := by rw [HLE.out, hsp]
                      refine ⟨v3, by rw [HE0.out], ?_, HBW.out.trans ((hbx.mono HBW.out.size).trans (hbw.mono (Nat.le_trans HBW.out.size hbx.size)))⟩
                      rw [e]
                      have e2 : rows ruleC (rr.take j ++ r :: rr.drop j) = [] ++ rows ruleC (rr.take j) ++ [.string (str r.who), .string (str r.watcher), .int .i64 r.what] ++ rows ruleC (rr.drop j) := by rw [rows_append, rows_cons]; simp [ruleC]
                      rw [e2, List.length_append, List.length_cons, List.length_take, List.length_drop, show min j rr.length + (rr.length - j + 1) = 0 + j + 1 + (rr.length - j) from by omega]
                      exact RdV.of_own ho)
                    clear hsp
                    have b2 : (j : Int) ≤ rr.length := by omega
                    have b3 : (j : Int) ≤ c' := by omega
                    have b4 : (rr.length : Int) ≤ c' := by omega
                    have b5 : (0 : Int) ≤ rr.length := by omega
                    have hbs := hbx.size
                    have HBX := Lib.hid hbx
                    have HBT2 := Lib.hid (fun (W2 : World) (hbw : Below w2.heap.size w2 W2) => ((HBOX.out).fr (Fr.of_below (F := fun _ => False) hbx) (fun h => h)).fr (Fr.of_below (F := fun _ => False) hbw) (fun h => h))
                    have hoe : Hid ((w2.alloc (.cells #[] 28)).ownsRow w2.heap.size 28 3 (.slice (some ⟨w2.heap.size, 0, none⟩) 0 0) 0 []) := Lib.hid ⟨rfl, .inr ⟨w2.heap.size, 0, #[], rfl, Nat.le_refl _, heap_alloc_new w2 _, Nat.le_refl _, by unfold maxLen; omega, rfl, rfl⟩⟩
                    have hal : Hid (Below w2.heap.size w2 (w2.alloc (.cells #[] 28))) := Lib.hid ((Below.refl _ _).alloc (Nat.le_refl _) _)
                    clear hbx
                    go_wp2_with (first
                      | (at_builtin; (refine wpList_app_rd _ rfl (.tmp 85) (.tmp 88) 22 rfl w2.heap.size 28 3 40 _ Tryz.underlying22 eR28i rfl (by omega) _ _ _ rfl hown4 _ _ _ _ rfl (hR2.out _ ((hal.out.trans hb3).trans hb4)) (one_rules _) (by unfold maxLen; omega) (by omega) (by have := hb4.size; simp at hs3; omega) ?_); intro v3 w5 hown5 hb5 hg5 hat5)
                      | (at_builtin; (refine wpList_app1' rfl (.tmp 81) (.tmp 83) 22 rfl w2.heap.size 28 3 40 _ Tryz.underlying22 eR28i rfl (by omega) _ _ _ rfl hown3 [.string (str r.who), .string (str r.watcher), .int .i64 r.what] _ rfl (by simp) rfl (by intro u hu; simp at hu; rcases hu with rfl | rfl | rfl <;> rfl) (by unfold maxLen; omega) (by omega) (by simp at hs3; omega) ?_); intro v2 w4 hown4 hb4 hg4 hat4)
                      | (at_builtin; go_must (refine wpList_app_rd _ rfl (.tmp 76) (.tmp 79) 22 rfl w2.heap.size 28 3 40 _ Tryz.underlying22 eR28i rfl (by omega) _ _ _ rfl hoe.out _ j _ _ rfl (hR1.out _ hal.out) (one_rules _) (by unfold maxLen; omega) (by omega) (by simp) ?_); intro v1 w3 hown3 hb3 hg3 hat3; have t30 := (HBT2.out _ (hal.out.trans hb3)).cell 0; have t31 := (HBT2.out _ (hal.out.trans hb3)).cell 1; have t32 := (HBT2.out _ (hal.out.trans hb3)).cell 2; have hs3 := hb3.size))
                    go_ret2
                    exact HFIN.out _ v3 (((hal.out.trans hb3).trans hb4).trans hb5) hown5
                · have hdl : decide ((j : Int) < rr.length) = false := by simp; omega
                  have hjl2 : j = rr.length := by omega
                  subst hjl2
                  have hbx : Below wq.heap.size wq wr.drew := hbw.drew
                  have hR1 : Hid (∀ W2, Below wr.drew.heap.size wr.drew W2 → Rd W2 28 3 rr.length A' (rows ruleC rr)) := Lib.hid (fun W2 hbw => (HKX.out _ hbx).below hbw)
                  have hR2 : Hid (∀ W2, Below wr.drew.heap.size wr.drew W2 → ∀ A2, Rd W2 28 3 0 A2 (rows ruleC [])) := Lib.hid (fun W2 hbw A2 => Rd.nil _ _ _ _)
                  rw [List.take_length] at hall
                  have hsp := insR_split r rr rr.length (Nat.le_refl _) (by rw [List.take_length]; exact hall) (fun s t e => by rw [List.drop_length] at e; cases e)
                  have HFIN : Hid (∀ W2 v3, Below wr.drew.heap.size wr.drew W2 → W2.ownsRow wr.drew.heap.size 28 3 v3 (0 + rr.length + 1 + 0) ([] ++ rows ruleC rr ++ [.string (str r.who), .string (str r.watcher), .int .i64 r.what] ++ rows ruleC []) → RSet20Post l r w (.returned (.tuple #[v3, .int .i64 0])) W2) := Lib.hid (fun W2 v3 hbw ho => by
                    have e : rSetRL l r = rr ++ [r] := by rw [HLE.out, hsp, List.take_length, List.drop_length]
                    refine ⟨v3, by rw [HE0.out], ?_, HBW.out.trans ((hbx.mono HBW.out.size).trans (hbw.mono (Nat.le_trans HBW.out.size hbx.size)))⟩
                    rw [e]
                    have e2 : rows ruleC (rr ++ [r]) = [] ++ rows ruleC rr ++ [.string (str r.who), .string (str r.watcher), .int .i64 r.what] ++ rows ruleC [] := by rw [rows_append]; simp [ruleC, rows]
                    rw [e2, List.length_append, List.length_singleton, show rr.length + 1 = 0 + rr.length + 1 + 0 from by omega]
                    exact RdV.of_own ho)
                  clear hall hbw hsp hbt c0 c1 c2
                  have b2 : (rr.length : Int) ≤ c' := by omega
                  have b3 : (0 : Int) ≤ rr.length := by omega
                  go_wp2
                  go_still_tail 10, (by kernel_rfl)
                  change wpList _ _ _ _ _ wr.drew
                  generalize wr.drew = wx at *
                  have hcc : c' = rr.length ∨ ¬ c' = rr.length := Classical.em _
                  rcases hcc with rfl | hcj
                  all_goals
                    have hbs := hbx.size
                    have HBX := Lib.hid hbx
                    have HBT2 := Lib.hid (fun (W2 : World) (hbw : Below wx.heap.size wx W2) => ((HBOX.out).fr (Fr.of_below (F := fun _ => False) hbx) (fun h => h)).fr (Fr.of_below (F := fun _ => False) hbw) (fun h => h))
                    have hoe : Hid ((wx.alloc (.cells #[] 28)).ownsRow wx.heap.size 28 3 (.slice (some ⟨wx.heap.size, 0, none⟩) 0 0) 0 []) := Lib.hid ⟨rfl, .inr ⟨wx.heap.size, 0, #[], rfl, Nat.le_refl _, heap_alloc_new wx _, Nat.le_refl _, by unfold maxLen; omega, rfl, rfl⟩⟩
                    have hal : Hid (Below wx.heap.size wx (wx.alloc (.cells #[] 28))) := Lib.hid ((Below.refl _ _).alloc (Nat.le_refl _) _)
                    clear hbx
                    go_wp2_with (first
                      | (at_builtin; (refine wpList_app_rd _ rfl (.tmp 85) (.tmp 88) 22 rfl wx.heap.size 28 3 40 _ Tryz.underlying22 eR28i rfl (by omega) _ _ _ rfl hown4 _ _ _ _ rfl (hR2.out _ ((hal.out.trans hb3).trans hb4) _) (one_rules _) (by unfold maxLen; omega) (by omega) (by have := hb4.size; simp at hs3; omega) ?_); intro v3 w5 hown5 hb5 hg5 hat5)
                      | (at_builtin; (refine wpList_app1' rfl (.tmp 81) (.tmp 83) 22 rfl wx.heap.size 28 3 40 _ Tryz.underlying22 eR28i rfl (by omega) _ _ _ rfl hown3 [.string (str r.who), .string (str r.watcher), .int .i64 r.what] _ rfl (by simp) rfl (by intro u hu; simp at hu; rcases hu with rfl | rfl | rfl <;> rfl) (by unfold maxLen; omega) (by omega) (by simp at hs3; omega) ?_); intro v2 w4 hown4 hb4 hg4 hat4)
                      | (at_builtin; go_must (refine wpList_app_rd _ rfl (.tmp 76) (.tmp 79) 22 rfl wx.heap.size 28 3 40 _ Tryz.underlying22 eR28i rfl (by omega) _ _ _ rfl hoe.out _ rr.length _ _ rfl (hR1.out _ hal.out) (one_rules _) (by unfold maxLen; omega) (by omega) (by simp) ?_); intro v1 w3 hown3 hb3 hg3 hat3; have t30 := (HBT2.out _ (hal.out.trans hb3)).cell 0; have t31 := (HBT2.out _ (hal.out.trans hb3)).cell 1; have t32 := (HBT2.out _ (hal.out.trans hb3)).cell 2; have hs3 := hb3.size))
                    go_ret2
                    exact HFIN.out _ v3 (((hal.out.trans hb3).trans hb4).trans hb5) hown5
  · have h1 : chkR r = 1 := (chk_01 r).resolve_left hk
    have HE : Hid (rSetRE l r = 1 ∧ rSetRL l r = l) := Lib.hid ⟨by unfold rSetRE; rw [if_pos hk], by unfold rSetRL; rw [if_pos hk]⟩
    rw [h1] at HCK
    clear hk h1
    go_enter Tryz.func5, Tryz.ntmps5
    go_upto_region 1 with (fail)
    go_wp2_with fail
    refine (HCK.out _).mono ?_
    rintro e w1 ⟨rfl, hb1⟩
    have HX1 := Lib.hid hb1
    clear hb1 c0 c1 c2
    obtain ⟨c0, c1, c2⟩ := HC.out w1 HX1.out
    go_wp2_with fail
    refine (HCK.out _).mono ?_
    rintro e w2 ⟨rfl, hb2⟩
    have HX2 := Lib.hid (thenB HX1.out hb2)
    clear hb2 c0 c1 c2
    go_wp2
    go_ret2
    exact rset20_same HE.out.1 HE.out.2 (HLV.out _ HX2.out) (thenB HB0.out HX2.out)
end Go.Proofs.YtpnchfigehgkgaaGreatDoor
namespace Go.Proofs.YtpnchfigehgkgaaGreatDoor
set_option linter.unusedSimpArgs false
set_option linter.unusedVariables false
open Go.RowKit Go.Shelf Go.Lib Go.Sort
def cmpI (a b : T) : Int := if a < b then -1 else if b < a then 1 else 0
theorem bl_str (a b : T) : Op.bytesLess (str a).toList (str b).toList = decide (a < b) := by
  rw [bytesLess_eq, Lib.toList_data, Lib.toList_data]; rfl
theorem nan_any (a : T) (w : World) : Calls Tryz.prog 27 #[.string (str a)] w fun e w' => e = .returned (.bool false) ∧ w = w' := by
  have q : ((str a).toList != (str a).toList) = false := by simp
  have q1 : ((str a).toList == (str a).toList) = true := beq_self_eq_true _
  go_enter Tryz.func27, Tryz.ntmps27
  go_wp2
  go_ret
  exact ⟨rfl, rfl⟩
theorem cmp_any (a b : T) (w : World) : Calls Tryz.prog 21 #[.string (str a), .string (str b)] w fun e w' => e = .returned (.int .i64 (cmpI a b)) ∧ w = w' := by
  have hl := bl_str a b
  have HN := Lib.hid (nan_any a)
  have HM := Lib.hid (nan_any b)
  rcases tlt_tri a b with h | h | h
  · have hv : cmpI a b = -1 := by unfold cmpI; rw [if_pos h]
    rw [hv]
    rw [decide_eq_true h] at hl
    clear hv h
    go_enter Tryz.func21, Tryz.ntmps21
    go_wp2_with fail
    refine (HN.out _).mono ?_
    rintro e w1 ⟨rfl, rfl⟩
    go_wp2_with fail
    refine (HM.out _).mono ?_
    rintro e w1 ⟨rfl, rfl⟩
    go_wp2
    go_ret
    exact ⟨rfl, rfl⟩
  · subst h
    have hv : cmpI a a = 0 := by unfold cmpI; rw [if_neg (tlt_irr a), if_neg (tlt_irr a)]
    rw [hv]
    rw [decide_eq_false (tlt_irr a)] at hl
    have q1 : ((str a).toList == (str a).toList) = true := beq_self_eq_true _
    clear hv
    go_enter Tryz.func21, Tryz.ntmps21
    go_wp2_with fail
    refine (HN.out _).mono ?_
    rintro e w1 ⟨rfl, rfl⟩
    go_wp2_with fail
    refine (HM.out _).mono ?_
    rintro e w1 ⟨rfl, rfl⟩
    go_wp2
    go_ret
    exact ⟨rfl, rfl⟩
  · have hn : ¬ a < b := fun k => tlt_irr _ (tlt_trans k h)
    have hv : cmpI a b = 1 := by unfold cmpI; rw [if_neg hn, if_pos h]
    rw [hv]
    rw [decide_eq_false hn] at hl
    have hne : a ≠ b := fun e => tlt_irr _ (e ▸ h)
    have q1 := str_neb hne
    have q2 := str_ne hne
    clear hv h hn hne
    go_enter Tryz.func21, Tryz.ntmps21
    go_wp2_with fail
    refine (HN.out _).mono ?_
    rintro e w1 ⟨rfl, rfl⟩
    go_wp2_with fail
    refine (HM.out _).mono ?_
    rintro e w1 ⟨rfl, rfl⟩
    go_wp2
    go_ret
    exact ⟨rfl, rfl⟩
def orI (x y : Int) : Int := if x = 0 then y else x
theorem or_any {x y : Int} {w : World} {g : Nat} (h : Blk w g 3 #[.int .i64 x, .int .i64 y]) : Calls Tryz.prog 20 #[.slice (some ⟨g, 0, none⟩) 2 2] w fun e w' => e = .returned (.int .i64 (orI x y)) ∧ w = w' := by
  have c0 := h.cell 0
  have c1 := h.cell 1
  have HZ : Hid (orI x y = x ∨ x = 0) := Lib.hid (by unfold orI; by_cases q : x = 0 <;> simp [q])
  have HX : Hid (x ≠ 0 → orI x y = x) := Lib.hid (fun q => by unfold orI; rw [if_neg q])
  have HY : Hid (x = 0 → orI x y = y) := Lib.hid (fun q => by unfold orI; rw [if_pos q])
  generalize orI x y = R at *
  clear h
  go_enter Tryz.func20, Tryz.ntmps20
  go_wp2
  go_loopg [8] 2 (fun k t wr => wr = w ∧ ∃ j : Nat, t = .int .i64 j ∧ j + k = 2 ∧ (1 ≤ j → x = 0) ∧ (2 ≤ j → y = 0))
  case atStart => exact ⟨rfl, 0, rfl, rfl, by omega, by omega⟩
  case round =>
    obtain ⟨rfl, j, rfl, hj, h1, h2⟩ := hrel
    by_cases j0 : j = 0
    · subst j0
      by_cases hx : x = 0
      · have HR := Lib.hid (HY.out hx)
        rw [hx] at c0
        go_wp2
        go_roundg 1
        case measure => omega
        case rel => exact ⟨rfl, 1, by go_num, rfl, fun _ => hx, by omega⟩
      · have HR := Lib.hid (HX.out hx)
        have q : (x != 0) = true := by simpa using hx
        clear hx
        go_wp2
        go_ret
        exact ⟨ret_int HR.out.symm, rfl⟩
    · by_cases j1 : j = 1
      · subst j1
        have hx := h1 (by omega)
        have HR := Lib.hid (HY.out hx)
        by_cases hy : y = 0
        · rw [hy] at c1
          go_wp2
          go_roundg 0
          case measure => omega
          case rel => exact ⟨rfl, 2, by go_num, rfl, fun _ => hx, fun _ => hy⟩
        · have q : (y != 0) = true := by simpa using hy
          clear hy hx h1 h2
          go_wp2
          go_ret
          exact ⟨ret_int HR.out.symm, rfl⟩
      · obtain rfl : j = 2 := by omega
        have hx := h1 (by omega)
        have hy := h2 (by omega)
        have HR := Lib.hid ((HY.out hx).trans hy)
        clear hx hy h1 h2
        go_wp2
        go_ret
        exact ⟨ret_int HR.out.symm, rfl⟩
def cmpR (a b : Rule) : Int := orI (cmpI a.who b.who) (cmpI a.watcher b.watcher)
instance : Inhabited Rule := ⟨⟨[], [], 0⟩⟩
theorem cmpI_lt {a b : T} (h : a < b) : cmpI a b = -1 := by unfold cmpI; rw [if_pos h]
theorem cmpI_eq (a : T) : cmpI a a = 0 := by unfold cmpI; rw [if_neg (tlt_irr a), if_neg (tlt_irr a)]
theorem cmpI_gt {a b : T} (h : b < a) : cmpI a b = 1 := by
  have hn : ¬ a < b := fun k => tlt_irr _ (tlt_trans k h)
  unfold cmpI; rw [if_neg hn, if_pos h]
theorem ltOf_cmpR (a b : Rule) : ltOf cmpR a b = decide (ltR a b) := by
  obtain ⟨a1, a2, a3⟩ := a
  obtain ⟨b1, b2, b3⟩ := b
  unfold ltOf cmpR orI ltR
  simp only
  rcases tlt_tri a1 b1 with h | h | h
  · rw [cmpI_lt h]; simp [h]
  · subst h
    rw [cmpI_eq]
    rcases tlt_tri a2 b2 with k | k | k
    · rw [cmpI_lt k]; simp [k]
    · subst k; rw [cmpI_eq]; simp [tlt_irr]
    · have hn : ¬ a2 < b2 := fun q => tlt_irr _ (tlt_trans k q)
      rw [cmpI_gt k]; simp [tlt_irr, hn]
  · have hn : ¬ a1 < b1 := fun q => tlt_irr _ (tlt_trans h q)
    have hne : a1 ≠ b1 := fun e => by subst e; exact tlt_irr _ h
    rw [cmpI_gt h]; simp [hn, hne]
theorem ltR_of_key {a b c : Rule} (e : keyR a = keyR b) (h : ltR a c) : ltR b c := by
  have e1 : a.who = b.who := str_inj (congrArg Prod.fst e)
  have e2 : a.watcher = b.watcher := str_inj (congrArg Prod.snd e)
  unfold ltR at h ⊢
  rw [← e1, ← e2]; exact h
theorem swoR : SWO (ltOf cmpR) where
  irrefl x := by rw [ltOf_cmpR]; exact decide_eq_false (ltR_irr x)
  trans x y z h1 h2 := by rw [ltOf_cmpR] at *; exact decide_eq_true (ltR_trans (of_decide_eq_true h1) (of_decide_eq_true h2))
  ntrans x y z h1 h2 := by
    rw [ltOf_cmpR] at *
    refine decide_eq_false fun h => ?_
    have h1 := of_decide_eq_false h1
    have h2 := of_decide_eq_false h2
    by_cases e : keyR x = keyR y
    · exact h2 (ltR_of_key e h)
    · rcases ltR_tri e with q | q
      · exact h1 q
      · exact h2 (ltR_trans q h)
set_option maxRecDepth 100000 in
set_option maxHeartbeats 4000000 in
theorem clos_any (a b : Rule) (W : World) : Calls Tryz.prog 19 #[.agg #[.string (str a.who), .string (str a.watcher), .int .i64 a.what], .agg #[.string (str b.who), .string (str b.watcher), .int .i64 b.what]] W fun e w' => e = .returned (.int .i64 (cmpR a b)) ∧ ∃ q os', w' = grow (W.drewN q) os' := by
  have H1 : Hid (∀ w, Calls Tryz.prog 21 #[.string (str a.who), .string (str b.who)] w fun e w' => e = .returned (.int .i64 (cmpI a.who b.who)) ∧ w = w') := Lib.hid (cmp_any a.who b.who)
  have H2 : Hid (∀ w, Calls Tryz.prog 21 #[.string (str a.watcher), .string (str b.watcher)] w fun e w' => e = .returned (.int .i64 (cmpI a.watcher b.watcher)) ∧ w = w') := Lib.hid (cmp_any a.watcher b.watcher)
  unfold cmpR
  generalize cmpI a.who b.who = X at *
  generalize cmpI a.watcher b.watcher = Y at *
  have HO : Hid (∀ (w : World) (g : Nat), Blk w g 3 #[.int .i64 X, .int .i64 Y] → Calls Tryz.prog 20 #[.slice (some ⟨g, 0, none⟩) 2 2] w (fun e w' => e = .returned (.int .i64 (orI X Y)) ∧ w = w')) := Lib.hid (fun w g h => or_any h)
  generalize orI X Y = Z at *
  obtain ⟨w0, hw0⟩ : ∃ w0, (W.alloc (.cells #[.string (str a.who), .string (str a.watcher), .int .i64 a.what] 28)).alloc (.cells #[.string (str b.who), .string (str b.watcher), .int .i64 b.what] 28) = w0 := ⟨_, rfl⟩
  have b1 : Blk w0 W.heap.size 28 #[.string (str a.who), .string (str a.watcher), .int .i64 a.what] := hw0 ▸ (Blk.new W _ _).alloc _
  have b2 : Blk w0 (W.heap.size + 1) 28 #[.string (str b.who), .string (str b.watcher), .int .i64 b.what] := hw0 ▸ Blk.new' (W.alloc _) _ _ (by simp)
  have HC : Hid (∀ w, Below w0.heap.size w0 w → w.cell? ⟨W.heap.size, 0, none⟩ = some (.string (str a.who)) ∧ w.cell? ⟨W.heap.size, 1, none⟩ = some (.string (str a.watcher)) ∧ w.cell? ⟨W.heap.size + 1, 0, none⟩ = some (.string (str b.who)) ∧ w.cell? ⟨W.heap.size + 1, 1, none⟩ = some (.string (str b.watcher))) := Lib.hid (fun w h => by
    have f := Fr.of_below (F := fun _ => False) h
    exact ⟨(b1.fr f (fun h => h)).cell 0, (b1.fr f (fun h => h)).cell 1, (b2.fr f (fun h => h)).cell 0, (b2.fr f (fun h => h)).cell 1⟩)
  have HB1 : Hid (Below w0.heap.size w0 w0) := Lib.hid (Below.refl _ _)
  have HW0 := Lib.hid hw0
  obtain ⟨c0, c1, c2, c3⟩ := HC.out w0 (Below.refl _ _)
  clear b1 b2 hw0
  go_enter Tryz.func19, Tryz.ntmps19
  go_wp2_with fail
  rw [HW0.out]
  go_region_held3 (fun w' => w'.cell? ⟨W.heap.size, 0, none⟩ = some (.string (str a.who)) ∧ w'.cell? ⟨W.heap.size, 1, none⟩ = some (.string (str a.watcher)) ∧ w'.cell? ⟨W.heap.size + 1, 0, none⟩ = some (.string (str b.who)) ∧ w'.cell? ⟨W.heap.size + 1, 1, none⟩ = some (.string (str b.watcher)))
    (first | exact HC.out _ (below_drewN HB1.out 1) | exact HC.out _ HB1.out | exact HC.out _ ((below_drewN HB1.out 1).alloc (Nat.le_refl _) _))
    (first | (go_at_call 21; first | ((with_reducible refine (H1.out _).mono ?_); rintro e w1 ⟨rfl, rfl⟩) | ((with_reducible refine (H2.out _).mono ?_); rintro e w1 ⟨rfl, rfl⟩)) | (go_at_call 20; refine (HO.out _ _ ((Blk.new w0 _ _).drewN 1)).mono ?_; rintro e w1 ⟨rfl, rfl⟩))
  all_goals
    go_wp2
    go_ret
    exact ⟨rfl, 1, #[.cells #[.string (str a.who), .string (str a.watcher), .int .i64 a.what] 28] ++ #[.cells #[.string (str b.who), .string (str b.watcher), .int .i64 b.what] 28] ++ #[.cells #[.int .i64 X, .int .i64 Y] 3], by rw [← HW0.out]; simp only [alloc_eq_grow, grow_grow]; rfl⟩
end Go.Proofs.YtpnchfigehgkgaaGreatDoor
namespace Go.Proofs.YtpnchfigehgkgaaGreatDoor
set_option linter.unusedSimpArgs false
set_option linter.unusedVariables false
open Go.RowKit Go.Shelf Go.Lib Go.Sort
theorem own_ty' {w : World} {base : Nat} {e : TypeId} {size n : Nat} {v : Value} {xs : List Value} (h : w.ownsRow base e size v n xs) {g : Nat} (hg : v.ownBlock = some g) : ∃ cs, w.heap[g]? = some (.cells cs e (0, 0)) := by
  rcases h.2 with ⟨rfl, _⟩ | ⟨g', cap, cur, rfl, _, hh, _⟩
  · cases hg
  · have : g' = g := by simpa [Value.ownBlock] using hg
    subst this
    exact ⟨cur, hh⟩
theorem e28i : ElemInfo Tryz.prog 28 3 40 (.agg #[.string ⟨#[]⟩, .string ⟨#[]⟩, .int .i64 0]) := ElemInfo.mk' (by kernel_rfl)
abbrev KVf (x : PK × Value) : Value × Value := (pkKey x.1, x.2)
def rv (d : List Rule) : List (Value × Value) := (pairs d).map KVf
def PAllPost (w : World) (kv : KV) (e : Ending) (w' : World) : Prop := ∃ v d, e = .returned v ∧ w'.ownsRow w.heap.size 28 3 v d.length (rows ruleC d) ∧ (pairs d).Perm kv ∧ d.Pairwise (fun a b => ¬ ltR b a) ∧ Below w.heap.size w w'
structure AllRel (w : World) (g rb : Nat) (kv : KV) (v : Value) (wr : World) (left : List (Value × Value)) (d : List Rule) : Prop where
  rng : Rng wr g rb left
  pm : (left ++ rv d).Perm (kv.map KVf)
  own : wr.ownsRow w.heap.size 28 3 v d.length (rows ruleC d)
  be : Below w.heap.size w wr
theorem rv_snoc (d : List Rule) (r : Rule) : rv (d ++ [r]) = rv d ++ [(.agg #[.string (str r.who), .string (str r.watcher)], .int .i64 r.what)] := by
  unfold rv pairs
  rw [List.map_append, List.map_append]
  rfl
theorem KvP.shape {kv : KV} (H : KvP kv) {left : List (Value × Value)} {d : List Rule} (h : (left ++ rv d).Perm (kv.map KVf)) : ∀ x ∈ left, ∃ (k : PK) (n : Int), x = (.agg #[.string k.1, .string k.2], .int .i64 n) := by
  intro x hx
  have hm := h.mem_iff.1 (List.mem_append_left _ hx)
  obtain ⟨y, hy, rfl⟩ := List.mem_map.1 hm
  obtain ⟨n, hn, _⟩ := H.val y hy
  exact ⟨y.1, n, by rw [← hn]; rfl⟩
theorem rv_len {kv : KV} {left : List (Value × Value)} {d : List Rule} (h : (left ++ rv d).Perm (kv.map KVf)) : left.length + d.length = kv.length := by
  have := h.length_eq
  unfold rv pairs at this
  simpa using this
theorem kvf_un (x : PK × Value) : (fun y : Value × Value => ((match y.1 with | .agg #[.string a, .string b] => (a, b) | _ => (⟨#[]⟩, ⟨#[]⟩)), y.2)) (KVf x) = x := rfl
theorem rv_pairs {kv : KV} {d : List Rule} (h : (rv d).Perm (kv.map KVf)) : (pairs d).Perm kv := by
  have h2 := h.map (fun y : Value × Value => ((match y.1 with | .agg #[.string a, .string b] => (a, b) | _ => (⟨#[]⟩, ⟨#[]⟩)), y.2))
  unfold rv at h2
  rw [List.map_map, List.map_map] at h2
  have e : ((fun y : Value × Value => ((match y.1 with | .agg #[.string a, .string b] => (a, b) | _ => (⟨#[]⟩, ⟨#[]⟩)), y.2)) ∘ KVf) = id := funext fun x => kvf_un x
  rw [e, List.map_id, List.map_id] at h2
  exact h2
/-- slices.SortFunc at a row of rules of the call's own -/
theorem ruleC_len' (r : Rule) : (ruleC r).length = 3 := rfl
def SortRPost (w : World) (base : Nat) (v : Value) (d : List Rule) (e : Ending) (w' : World) : Prop :=
  ∃ d', e = .returned (.tuple #[]) ∧ d'.length = d.length ∧ w'.ownsRow base 28 3 v d.length (rows ruleC d') ∧ d'.Perm d ∧ d'.Pairwise (fun a b => ¬ ltR b a) ∧ w.grownBy w' v.ownBlock
theorem flat_rows {α : Type} [Inhabited α] {f : α → List Value} {sz : Nat} (hf : ∀ a, (f a).length = sz) (hz : 0 < sz) (l : List α) : flatK f sz l.toArray = (rows f l).toArray := by
  have hl := rows_len hf l
  refine Array.ext (by simp [hl]) fun t h1 h2 => ?_
  have ht : t < l.length * sz := by simpa using h1
  have hi : t / sz < l.length := (Nat.div_lt_iff_lt_mul hz).2 ht
  have hj : t % sz < sz := Nat.mod_lt _ hz
  have hr := rows_at hf hi hj
  rw [Nat.div_add_mod' t sz] at hr
  have e1 : (rows f l)[t]? = some (rows f l)[t] := List.getElem?_eq_getElem (by rw [hl]; exact ht)
  have e2 : (f l[t / sz])[t % sz]? = some ((f l[t / sz])[t % sz]'(by rw [hf]; exact hj)) := List.getElem?_eq_getElem _
  rw [e1, e2] at hr
  injection hr with hr
  have g := get_flatK f sz l.toArray t (by simpa using ht)
  rw [getElem!_pos _ t h1] at g
  rw [g]
  have d1 : l.toArray[t / sz]! = l[t / sz] := by rw [getElem!_pos _ _ (by simpa using hi)]; simp
  rw [d1, getElem!_pos _ _ (by rw [hf]; exact hj)]
  simpa using hr.symm
theorem take_put (cur F : Array Value) (h : F.size ≤ cur.size) : (putCells id 0 F cur).toList.take F.size = F.toList := by
  apply List.ext_getElem?
  intro j
  by_cases hj : j < F.size
  · rw [List.getElem?_take_of_lt hj, Array.getElem?_toList, Array.getElem?_toList]
    simp [putCells, hj, show j < cur.size by omega]
  · rw [List.getElem?_take_eq_none (by omega), List.getElem?_eq_none (by simp; omega)]
theorem sort_rules {w : World} {base : Nat} {v : Value} {d : List Rule} (h : w.ownsRow base 28 3 v d.length (rows ruleC d)) (hz : d.length ≤ 1000000) :
    Calls Tryz.prog 18 #[v, .func (.func 19) #[] #[]] w (SortRPost w base v d) := by
  have hl := rows_len ruleC_len' d
  rcases h.2 with ⟨rfl, h0⟩ | ⟨g, cap, cur, rfl, hg, hb, h1, h2, h3, h4⟩
  · have hz : d = [] := List.eq_nil_of_length_eq_zero h0
    subst hz
    refine (Tryz.slices_SortFunc_none (α := Rule) none 0 _ w).mono ?_
    rintro e w' ⟨rfl, rfl⟩
    exact ⟨[], rfl, rfl, by simpa using h, List.Perm.refl _, List.Pairwise.nil, World.grownBy.refl _ _⟩
  · have hgl : g < w.heap.size := Blk.lt (t := 28) hb
    have eg : ∀ args w, (callFunc 19 args).run Tryz.prog w = .ok (.enter 19 args) w := enters_of Tryz.func19 (by kernel_rfl) rfl
    have hH : HoldsK ruleC 3 w g 0 d.toArray := by
      unfold HoldsK
      rw [flat_rows ruleC_len' (by omega)]
      intro j hj
      have hj' : j < (rows ruleC d).length := by simpa using hj
      refine ⟨?_, by simp [World.frozen?, hb]⟩
      have q : (cur.toList.take (d.length * 3))[j]? = (rows ruleC d)[j]? := by rw [h4]
      rw [List.getElem?_take_of_lt (by omega)] at q
      rw [cell_of_row w g (0 + j) cur 28 (0, 0) hb, Nat.zero_add, ← Array.getElem?_toList, q]
      simp [hj']
    have hcmp : CmpLays Tryz.prog 19 #[] ruleC 3 cmpR g 0 d.toArray.size w := fun _ _ _ _ x y => clos_any x y _
    refine (Tryz.slices_SortFunc 3 Tryz.isAgg28 Tryz.sizeOf28 ruleC (fun _ => rfl) (fun x v hv => by simp [ruleC] at hv; rcases hv with rfl | rfl | rfl <;> rfl) cmpR swoR 19 #[] g 0 cap d.toArray w eg hcmp hH hgl (by simp; omega)).mono ?_
    rintro e w' ⟨rfl, d', n, os, hp, hs, rfl⟩
    have hsz : d'.size = d.length := by have := hp.1; simpa using this
    have e0 : flatK ruleC 3 d' = (rows ruleC d'.toList).toArray := by
      have := flat_rows (f := ruleC) ruleC_len' (by omega) d'.toList
      simpa using this
    refine ⟨d'.toList, rfl, by simpa using hsz, ?_, ?_, ?_, ?_⟩
    · have hh : (grow (putRow id (Sort.ahead w n) g 0 (rows ruleC d'.toList).toArray) os).heap[g]? = some (.cells (putCells id 0 (rows ruleC d'.toList).toArray cur) 28 (0, 0)) := by
        rw [heap_grow_old _ _ (by simpa using hgl)]
        simp [putRow, mapBlock, onCells, Sort.ahead, Array.getElem?_modify, hb]
      have hl' : (rows ruleC d'.toList).length = d.length * 3 := by rw [rows_len ruleC_len' d'.toList]; simp [hsz]
      unfold sortWorldK putRowK
      rw [e0]
      refine ⟨by rw [hl'], .inr ⟨g, cap, _, rfl, hg, hh, h1, h2, by simp [putCells, h3], ?_⟩⟩
      have tp := take_put cur (rows ruleC d'.toList).toArray (by simp [hl', h3]; omega)
      simp only [List.size_toArray, hl'] at tp
      exact tp
    · have := hp.2.2
      have e1 : d'.extract 0 d.toArray.size = d' := by rw [show d.toArray.size = d'.size by simp [hsz]]; exact Array.extract_size
      have e2 : d.toArray.extract 0 d.toArray.size = d.toArray := Array.extract_size
      rw [e1, e2] at this
      simpa using this
    · rw [List.pairwise_iff_getElem]
      intro i j hi hj hij
      have hi' : i < d'.size := by simpa using hi
      have hj' : j < d'.size := by simpa using hj
      have := hs i j (Nat.zero_le _) hij (by simpa [← hsz] using hj')
      rw [ltOf_cmpR, getElem!_pos _ i hi', getElem!_pos _ j hj'] at this
      simpa using of_decide_eq_false this
    · unfold sortWorldK putRowK
      refine ⟨rfl, rfl, rfl, by simp, fun k hk hne => ?_⟩
      rw [heap_grow_old _ _ (by simpa using hk)]
      have : g ≠ k := fun e => hne (by rw [e]; rfl)
      simp [putRow, mapBlock, Sort.ahead, Array.getElem?_modify, this]
theorem AllRel.fin {w wr w2 : World} {g rb : Nat} {kv : KV} {v : Value} {d d' : List Rule} (h : AllRel w g rb kv v wr [] d) (hl' : d'.length = d.length) (ho' : w2.ownsRow w.heap.size 28 3 v d.length (rows ruleC d')) (hp' : d'.Perm d) (hso : d'.Pairwise (fun a b => ¬ ltR b a)) (hg' : wr.grownBy w2 v.ownBlock) : PAllPost w kv (.returned v) w2 := by
  refine ⟨v, d', rfl, by rw [hl']; exact ho', ?_, hso, h.be.grown hg' h.be.size (fun k hk => (h.own.lt k hk).1)⟩
  have h1 := rv_pairs (by simpa using h.pm)
  exact (hp'.map _).trans h1
theorem own_not {w : World} {base : Nat} {e : TypeId} {size n : Nat} {v : Value} {xs : List Value} (h : w.ownsRow base e size v n xs) {b r : Nat} {left : List (Value × Value)} (hr : Rng w b r left) : ∀ k, v.ownBlock = some k → k ≠ b ∧ k ≠ r := fun k hk => by
  obtain ⟨cs, hc⟩ := own_ty' h hk
  exact hr.notCells hc
theorem AllRel.own2 {w wr w2 : World} {g : Nat} {kv : KV} {v : Value} {left : List (Value × Value)} {d : List Rule} (h : AllRel w g w.heap.size kv v wr left d) (hf : Fr (fun j => j = w.heap.size) wr w2) : w2.ownsRow w.heap.size 28 3 v d.length (rows ruleC d) :=
  own_fr h.own hf (fun k hk => (own_not h.own h.rng k hk).2)
theorem AllRel.step {w wr w2 w4 : World} {g : Nat} {kv : KV} {v v4 : Value} {left left2 : List (Value × Value)} {d : List Rule} {k1 k2 : ByteArray} {n : Int} {o : Obj} (h : AllRel w g w.heap.size kv v wr left d) (hp : ((.agg #[.string k1, .string k2], .int .i64 n) :: left2).Perm left) (hr : Rng w2 g w.heap.size left2) (hf : Fr (fun j => j = w.heap.size) wr w2)
    (ho : w4.ownsRow w.heap.size 28 3 v4 (d.length + 1) (rows ruleC d ++ [.string k1, .string k2, .int .i64 n])) (hgr : (w2.alloc o).grownBy w4 v.ownBlock) : AllRel w g w.heap.size kv v4 w4 left2 (d ++ [⟨k1.data.toList, k2.data.toList, n⟩]) := by
  have ho2 := h.own2 hf
  have hn := own_not ho2 hr
  have f1 : Fr (fun k => v.ownBlock = some k) w2 w4 := ((Fr.refl (fun k => v.ownBlock = some k) w2).alloc o).trans (G := fun k => v.ownBlock = some k) (Fr.of_grown hgr fun k e => e) (fun k hk e => e)
  refine ⟨hr.fr f1 (fun e => (hn _ e).1 rfl) (fun e => (hn _ e).2 rfl), ?_, ?_, ?_⟩
  · rw [rv_snoc]
    refine List.Perm.trans ?_ h.pm
    have e : ((Value.agg #[.string (str k1.data.toList), .string (str k2.data.toList)]), Value.int .i64 n) = ((Value.agg #[.string k1, .string k2]), Value.int .i64 n) := rfl
    show (left2 ++ (rv d ++ [((Value.agg #[.string (str k1.data.toList), .string (str k2.data.toList)]), Value.int .i64 n)])).Perm _
    rw [e, ← List.append_assoc]
    refine List.perm_append_comm.trans ?_
    exact (hp.append_right (rv d))
  · rw [rows_snoc, List.length_append]
    exact ho
  · refine h.be.trans ((hf.to_below h.be.size (fun k e => by omega)).trans (f1.to_below (Nat.le_trans h.be.size hf.size) (fun k e => (ho2.lt k e).1)))
set_option maxRecDepth 100000 in
set_option maxHeartbeats 4000000 in
theorem pall_any {w : World} {p : Nat} {kv : KV} {F : Nat → Prop} (H : Tb w p kv F) : Calls Tryz.prog 10 #[.pointer (some ⟨p, 0, none⟩)] w (PAllPost w kv) := by
  obtain ⟨g, ht, hm, hF, hP, hB⟩ := H
  have HMD : Hid (Calls Tryz.prog 15 #[.pointer (some ⟨p, 0, none⟩)] w fun e w' => e = .returned (.bool true) ∧ w = w') := Lib.hid (pmade_any ht)
  have HP := Lib.hid hP
  have HLT := Lib.hid hm.lt
  have hc := ht.cell 0
  have HL := Lib.hid hP.len
  clear ht hF hP
  go_enter Tryz.func10, Tryz.ntmps10
  go_wp2_with fail
  refine (HMD.out).mono ?_
  rintro e w9 ⟨rfl, rfl⟩
  go_wp2_with (first | (at_range; refine wpList_range_is rfl _ 38 rfl _ _ Tryz.underlying38 rfl hB hm ?_; intro w1 hr1 hf1 hs1) | go_in)
  try go_frame
  have H0 : Hid (AllRel w g w.heap.size kv (.slice none 0 0) w1 (kv.map KVf) []) := Lib.hid ⟨hr1, by simp [rv, pairs], ⟨rfl, .inl ⟨rfl, rfl⟩⟩, hf1.to_below (Nat.le_refl _) (fun _ h => h.elim)⟩
  clear hr1 hf1 hs1 hm hB hc
  go_loopw [3] (fun v wr => ∃ left d, AllRel w g w.heap.size kv v wr left d) (fun _ wr => wr.rangeLeft g w.heap.size)
  case atStart => exact ⟨_, _, H0.out⟩
  case round =>
    obtain ⟨left, d, hR⟩ := hrel
    have HR := Lib.hid hR
    have hrg := hR.rng
    have hsh := HP.out.shape hR.pm
    clear hR
    go_wp2_with (first | (at_next; refine wpList_next_is rfl _ rfl (fun k : PK => .agg #[.string k.1, .string k.2]) (fun n : Int => .int .i64 n) rfl hrg hsh ?_ ?_) | go_in)
    · intro h0
      subst h0
      have hlen := rv_len HR.out.pm
      have HS := Lib.hid (sort_rules HR.out.own (by have := HL.out; simp at hlen; omega))
      clear hrg hsh
      go_wp2_with fail
      refine (HS.out).mono ?_
      rintro e w2 ⟨d', rfl, hl', ho', hp', hso, hg'⟩
      have HFIN := Lib.hid (HR.out.fin hl' ho' hp' hso hg')
      clear hl' ho' hp' hso hg'
      go_wp2
      go_ret
      exact HFIN.out
    · intro k1 k2 n w2 left2 hpm hrg2 hf2 hs2 hen
      have HO2 := Lib.hid (HR.out.own2 hf2)
      have HST : Hid (∀ o v4 w4, w4.ownsRow w.heap.size 28 3 v4 (d.length + 1) (rows ruleC d ++ [.string k1, .string k2, .int .i64 n]) → (w2.alloc o).grownBy w4 _ → AllRel w g w.heap.size kv v4 w4 left2 (d ++ [⟨k1.data.toList, k2.data.toList, n⟩])) := Lib.hid (fun o v4 w4 a b => HR.out.step hpm hrg2 hf2 a b)
      have HLE := Lib.hid (Nat.le_trans HR.out.be.size hf2.size)
      have hlen := rv_len HR.out.pm
      have hd : d.length ≤ 500 := by have := HL.out; omega
      have hl1 : left2.length < left.length := by have := hpm.length_eq; simp at this; omega
      have HLL := Lib.hid hl1
      have HLF := Lib.hid hrg.left_eq
      clear hs2 hrg hsh hpm hf2 hlen hl1 hrg2
      go_wp2_with (at_builtin; (refine wpList_app1' rfl (.tmp 19) (.tmp 26) 22 rfl w.heap.size 28 3 40 _ Tryz.underlying22 e28i rfl (by omega) _ _ _ rfl (HO2.out.alloc _) [.string k1, .string k2, .int .i64 n] _ rfl (by first | (simp; done) | rfl) rfl (by intro u hu; simp at hu; rcases hu with rfl | rfl | rfl <;> rfl) (by unfold maxLen; omega) (by omega) (by have := HLE.out; simp; omega) ?_); intro v4 w4 hown4 hb4 hg4 hat4)
      have HZ := Lib.hid (HST.out _ v4 w4 hown4 hg4)
      clear hown4 hb4 hg4 hat4
      go_roundw
      case rel => exact ⟨_, _, HZ.out⟩
      case measure =>
        have e1 := HZ.out.rng.left_eq
        have e2 := HLF.out
        have e3 := HLL.out
        omega
end Go.Proofs.YtpnchfigehgkgaaGreatDoor
namespace Go.Proofs.YtpnchfigehgkgaaGreatDoor
set_option linter.unusedSimpArgs false
set_option linter.unusedVariables false
set_option maxRecDepth 100000
open Go.ChangeShapes Go.WideShapes Go.ChangeAt Go.RowKit Go.Deep
section
variable {H : Type} {enc : TypeId × Value → H} {W : World}
def BulkLe (d : DataW H) : Prop := Rows.uptoBulk d ≤ 1048576
theorem bulk_mem : ∀ {l : List (DataW H)} {d : DataW H}, d ∈ l → Rows.uptoBulk d ≤ Rows.uptoBulkAll l
  | a :: r, d, h => by
    simp only [Rows.uptoBulkAll]
    rcases List.mem_cons.1 h with rfl | h
    · omega
    · have := bulk_mem h; omega
theorem bulk_arg {ds : List (DataW H)} (hk : Rows.uptoSmall H ds = true) {d : DataW H} (h : d ∈ ds) : BulkLe d := by
  have h1 := of_decide_eq_true hk
  exact Nat.le_trans (bulk_mem h) h1
theorem bulk_str {bytes : List UInt8} (h : BulkLe (H := H) (.lit (.string bytes))) : bytes.length ≤ 1048576 := by
  unfold BulkLe at h
  simp only [Rows.uptoBulk] at h
  omega
theorem bulk_part {parts : List (DataW H)} (h : BulkLe (.agg parts)) {j : Nat} {d : DataW H} (hd : parts[j]? = some d) : BulkLe d := by
  unfold BulkLe at h ⊢
  simp only [Rows.uptoBulk] at h
  have := bulk_mem (List.mem_of_getElem? hd)
  omega
theorem bulk_elem {elems spare : List (DataW H)} (h : BulkLe (.slice elems spare)) {d : DataW H} (hd : d ∈ elems) : BulkLe d := by
  unfold BulkLe at h ⊢
  simp only [Rows.uptoBulk] at h
  have := bulk_mem hd
  omega
theorem trod_strB {t : TypeId} {n : Nat} {sp : Nat → Bool} {hd : Bool} {u : Value} {d : DataW H} {p : List MemPlace} (hu : Tryz.prog.underlying t = some .string) (h : DataW.trod enc Tryz.prog W 0 sp hd n t [u] = some (d, p)) (hr : BulkLe d) : ∃ s : T, u = .string (str s) ∧ s.length ≤ 1048576 := by
  obtain ⟨s, hz, hx, _⟩ := DataW.trod_string hu h
  injection hz with hz _
  injection hx with hx _
  rw [hx] at hr
  exact ⟨s.data.toList, hz, bulk_str hr⟩
theorem oneRule : ∃ fs, Tryz.prog.underlying 28 = some (.struct fs) ∧ fs.size = 3 ∧ oneCellFields Tryz.prog fs = true ∧ Tryz.prog.cellsOf 28 = 3 ∧ (fs[0]?).map (·.type) = some 9 ∧ (fs[1]?).map (·.type) = some 9 ∧ (fs[2]?).map (·.type) = some 3 := ⟨_, Tryz.underlying28, by kernel_rfl, by kernel_rfl, by kernel_rfl, by kernel_rfl, by kernel_rfl, by kernel_rfl⟩
theorem trod_rule {n : Nat} {sp : Nat → Bool} {hd : Bool} {cs : List Value} {d : DataW H} {p : List MemPlace} (h : DataW.trod enc Tryz.prog W 0 sp hd n 28 cs = some (d, p)) (hr : BulkLe d) : ∃ q : Rule, cs = ruleC q ∧ RuleS q := by
  obtain ⟨fs, hs, hsz, hone, hC, t0, t1, t2⟩ := oneRule
  obtain ⟨hl, parts, hd, hpl, hf⟩ := fld_one hs hone (by rw [hC, hsz]) h
  simp only at hd
  subst hd
  have g : ∀ j, j < 3 → ∃ f, fs[j]? = some f := fun j hj => ⟨_, Array.getElem?_eq_getElem (by omega)⟩
  obtain ⟨f0, e0⟩ := g 0 (by omega)
  obtain ⟨f1, e1⟩ := g 1 (by omega)
  obtain ⟨f2, e2⟩ := g 2 (by omega)
  rw [e0] at t0
  rw [e1] at t1
  rw [e2] at t2
  simp only [Option.map_some, Option.some.injEq] at t0 t1 t2
  obtain ⟨u0, d0, p0, m0, c0, q0, h0⟩ := hf 0 f0 e0
  obtain ⟨u1, d1, p1, m1, c1, q1, h1⟩ := hf 1 f1 e1
  obtain ⟨u2, d2, p2, m2, c2, q2, h2⟩ := hf 2 f2 e2
  have r0 := bulk_part hr q0
  have r1 := bulk_part hr q1
  rw [t0] at h0
  rw [t1] at h1
  rw [t2] at h2
  obtain ⟨s0, rfl, l0⟩ := trod_strB Tryz.underlying9 h0 r0
  obtain ⟨s1, rfl, l1⟩ := trod_strB Tryz.underlying9 h1 r1
  obtain ⟨z, rfl, hz⟩ := fld_int Tryz.underlying3 h2
  refine ⟨⟨s0, s1, z⟩, ?_, Nat.le_trans l0 (by decide), Nat.le_trans l1 (by decide)⟩
  match cs, hl, c0, c1, c2 with
  | [x, y, z], _, c0, c1, c2 =>
    simp only [List.getElem?_cons_zero, List.getElem?_cons_succ, Option.some.injEq] at c0 c1 c2
    subst c0; subst c1; subst c2
    rfl
  | [], hl, _, _, _ => simp at hl; omega
  | [_], hl, _, _, _ => simp at hl; omega
  | [_, _], hl, _, _, _ => simp at hl; omega
  | _ :: _ :: _ :: _ :: _, hl, _, _, _ => simp at hl; omega
/-- a slice of rules -/
theorem arg_rules {base : Nat} {v : Value} {d : DataW H} {p : List MemPlace} (hv : Value.okWide Tryz.prog W .any base 22 v) (h0 : DataW.Trod enc Tryz.prog W 0 (fun _ => true) true 22 v d p) (hr : BulkLe d) :
    ∃ (l : List Rule) (A : Option Addr) (c : Nat), v = .slice A l.length c ∧ RdB W W.heap.size 3 l.length A (rows ruleC l) ∧ l.length ≤ maxLen ∧ ∀ q ∈ l, RuleS q := by
  obtain ⟨a0, len0, cap0, rfl⟩ := okWide_slice Tryz.underlying22 hv
  obtain ⟨fuel, h⟩ := h0
  rcases open_slice Tryz.underlying22 h with ⟨hcs, _⟩ | ⟨a, len, cap, m, k, D, Pl, hcs, _, hl, hm, hmm, hx, hi⟩
  · simp only [Value.cells] at hcs
    injection hcs with hcs _
    rw [hcs]
    exact ⟨[], none, 0, rfl, ⟨rfl, fun h => absurd h (by simp)⟩, by simp, by simp⟩
  · simp only [Value.cells] at hcs
    injection hcs with hcs _
    rw [hcs]
    have hml : len ≤ m := by rw [hmm]; split <;> omega
    injection hx with hx _
    subst hx
    have hC : Tryz.prog.cellsOf 28 = 3 := by kernel_rfl
    have hq : ∀ i, i < len → ∃ q : Rule, RuleS q ∧ ∀ j x, (ruleC q)[j]? = some x → W.cell? ((a.add (i * 3)).add j) = some x := fun i hil => by
      obtain ⟨cs', hc, ht'⟩ := hi i (by omega)
      rw [hC] at hc
      obtain ⟨q, hcq, hqs⟩ := trod_rule ht' (bulk_elem hr (List.mem_map.2 ⟨i, List.mem_range.2 hil, rfl⟩))
      obtain ⟨_, hcl, hat⟩ := World.cells?_some hc
      refine ⟨q, hqs, fun j x hj => ?_⟩
      have hj3 : j < 3 := by
        rw [← hcq] at hj
        have := (List.getElem?_eq_some_iff.1 hj).1
        omega
      rw [hat j hj3, hcq]
      exact hj
    have hcho : ∃ l : List Rule, l.length = len ∧ ∀ i, ∀ hil : i < l.length, RuleS l[i] ∧ ∀ j x, (ruleC l[i])[j]? = some x → W.cell? ((a.add (i * 3)).add j) = some x := by
      have := Classical.axiomOfChoice (r := fun (i : Fin len) (q : Rule) => RuleS q ∧ ∀ j x, (ruleC q)[j]? = some x → W.cell? ((a.add (i.val * 3)).add j) = some x) (fun i => hq i.val i.isLt)
      obtain ⟨f, hf⟩ := this
      refine ⟨List.ofFn f, by simp, fun i hil => ?_⟩
      simp only [List.getElem_ofFn]
      exact hf ⟨i, by simpa using hil⟩
    obtain ⟨l, hll, hlc⟩ := hcho
    refine ⟨l, some a, cap, by rw [hll], ?_, by omega, fun q hqm => ?_⟩
    · refine ⟨rows_len ruleC_len l, fun hn => ?_⟩
      obtain ⟨ea, hlt⟩ := cell_addr ((hlc 0 hn).2 0 _ rfl)
      have e00 : (a.add (0 * 3)).add 0 = a := by unfold Addr.add; simp
      rw [e00] at ea hlt
      refine ⟨a.block, a.off, by rw [← ea], hlt, fun j x hj => ?_⟩
      have hj3 : j < l.length * 3 := by
        have := (List.getElem?_eq_some_iff.1 hj).1
        rw [rows_len ruleC_len] at this
        exact this
      have hi : j / 3 < l.length := by omega
      have hr := rows_at ruleC_len hi (j := j % 3) (by omega)
      rw [show j / 3 * 3 + j % 3 = j by omega, hj] at hr
      have := (hlc (j / 3) hi).2 (j % 3) x hr.symm
      rw [← this]
      congr 1
      rw [ea]
      unfold Addr.add
      by_cases e1 : j / 3 * 3 = 0 <;> by_cases e2 : j % 3 = 0 <;> simp [e1, e2] <;> omega
    · obtain ⟨i, hi, rfl⟩ := List.getElem_of_mem hqm
      exact (hlc i hi).1
/-- a rule by value -/
theorem arg_rule {base : Nat} {v : Value} {d : DataW H} {ps : List MemPlace} (hv : Value.okWide Tryz.prog W .any base 28 v) (h : DataW.Trod enc Tryz.prog W 0 (fun _ => true) true 28 v d ps) :
    ∃ (k1 k2 : ByteArray) (n : Int), v = .agg #[.string k1, .string k2, .int .i64 n] := by
  obtain ⟨l, rfl, hl, hf⟩ := arg_agg Tryz.underlying28 (by kernel_rfl) (by kernel_rfl) hv h
  match l, hl with
  | [c0, c1, c2], _ =>
    obtain ⟨u0, e0, f0⟩ := hf 0 _ rfl
    obtain ⟨u1, e1, f1⟩ := hf 1 _ rfl
    obtain ⟨u2, e2, f2⟩ := hf 2 _ rfl
    injection e0 with e0
    injection e1 with e1
    injection e2 with e2
    subst e0 e1 e2
    obtain ⟨z0, rfl⟩ := f0.str Tryz.underlying9
    obtain ⟨z1, rfl⟩ := f1.str Tryz.underlying9
    obtain ⟨z2, rfl⟩ := f2.int Tryz.underlying3
    exact ⟨z0, z1, z2, rfl⟩
end
end Go.Proofs.YtpnchfigehgkgaaGreatDoor
