/- Ranging over a map of the call's own: in whatever order, each entry once. Chapter 20: the law of a map's key that is a struct of two strings; rules in plain Lean. Chapter 20: the table of rules as an object; New, made, name, Check. Chapter 20: the table of rules: Set, Ask. Chapter 20: Start, Turn of both; awake; PolicyTurns. Chapter 20: PolicyLast, PolicySelf. Chapter 20: PolicySelf. Chapter 20: PolicyNobody. Arguments: rules, by value and in slices, where the bulk is bounded. -/
import Derived.Test.YtpnchfigehgkgaaDoorGa
import Derived.Maps.RangeWalk
import Derived.Test.YtpnchfigehgkgaaDoorProg
import Derived.DeepKeys3
import Derived.Laws.StructEq
import Derived.Test.YtpnchfigehgkgaaDoorGw
import Derived.Deep.QuietTactic
import Derived.BigQuiet
import Derived.StillTailTactics
import Derived.Test.YtpnchfigehgkgaaDoorGk
namespace Go.Proofs.YtpnchfigehgkgaaDoor
set_option linter.unusedSimpArgs false
set_option linter.unusedVariables false
open Go.RowKit Go.ChangeMaps
/-- block b is a map whose entries' stamps are apart and lie below its clock -/
def Born (w : World) (b : Nat) : Prop := ∃ (es : Array MapEntry) (c : Nat), w.heap[b]? = some (.map es c) ∧ (es.toList.map (·.born)).Nodup ∧ ∀ e ∈ es.toList, e.born < c
section
variable {P : Program} {w w' : World} {b : Nat} {F : Nat → Prop}
theorem Born.lt (h : Born w b) : b < w.heap.size := by
  obtain ⟨es, c, h, _⟩ := h
  exact (Array.getElem?_eq_some_iff.1 h).1
theorem Born.fr (h : Born w b) (hf : Fr F w w') (hb : ¬ F b) : Born w' b := by
  have hl := h.lt
  obtain ⟨es, c, h, e⟩ := h
  exact ⟨es, c, (hf.block b hl hb).trans h, e⟩
theorem Born.drewN (h : Born w b) (n : Nat) : Born (w.drewN n) b := h
theorem Born.made (w : World) : Born (w.alloc (.map #[] 0)) w.heap.size := by
  refine ⟨#[], 0, ?_, by simp, by simp⟩
  show (w.heap.push _)[w.heap.size]? = _
  simp
variable {κ : Type} [DecidableEq κ] {key : κ → Value} {kvs : List (κ × Value)} {K T E : TypeId}
theorem Born.update (hB : Born w b) (h : MapIs w b key kvs) (L : KeyLaw P K key) (ht : P.underlying T = some (.map K E)) (k : κ) (v : Value)
    (hr : (Instr.mapUpdate T (.map (some b)) (key k) v).run P w = .ok () w') : Born w' b := by
  obtain ⟨es, c, h, e⟩ := h
  obtain ⟨es', c', h', n1, n2⟩ := hB
  rw [h] at h'
  injection h' with h'; injection h' with q1 q2
  subst q1; subst q2
  have hl : b < w.heap.size := (Array.getElem?_eq_some_iff.1 h).1
  have hf := L.find es.toList kvs k w e
  simp only [Instr.mapUpdate, Sem.run_bind, run_underlying ht, Result.andThen_ok, obj_get h, L.check, hf] at hr
  cases hlk : lookI k kvs 0 with
  | none =>
    rw [hlk] at hr
    simp only [obj_set _ h] at hr
    injection hr with _ hr
    subst hr
    refine ⟨_, _, mapw_at w _ hl, ?_, ?_⟩
    · rw [Array.toList_push, List.map_append, List.nodup_append]
      refine ⟨n1, by simp, fun a ha b' hb' => ?_⟩
      obtain ⟨x, hx, rfl⟩ := List.mem_map.1 ha
      have := n2 x hx
      simp at hb'
      omega
    · intro x hx
      rw [Array.toList_push] at hx
      rcases List.mem_append.1 hx with q | q
      · have := n2 x q; omega
      · simp at q; subst q; simp
  | some x =>
    obtain ⟨i, u⟩ := x
    rw [hlk] at hr
    obtain ⟨m, e1, e2, e3, e4, _⟩ := lookI_some hlk
    obtain rfl : i = m := by omega
    have hik : (((es[i]?).map (·.key)).getD (key k)) = key k := by
      have h2 := congrArg (fun l : List (Value × Value) => (l[i]?).map (·.1)) e
      simp only [List.getElem?_map, Array.getElem?_toList, Option.map_map, Function.comp_def] at h2
      rw [h2]
      have : (kvs[i]?).map (fun x => key x.1) = some (key k) := by
        have := congrArg (Option.map key) e3
        simpa [Option.map_map, Function.comp_def] using this
      rw [this]; rfl
    simp only [hik, Instr.keyThatStays, L.stays, if_true, Sem.run_bind, Sem.run_pure, Result.andThen_ok, obj_set _ h] at hr
    injection hr with _ hr
    subst hr
    have hm : ((es.modify i fun e => { e with key := key k, val := v }).toList.map (·.born)) = es.toList.map (·.born) := by
      rw [Array.toList_modify]
      apply List.ext_getElem?
      intro j
      simp only [List.getElem?_map, List.getElem?_modify, Array.getElem?_toList]
      by_cases hj : i = j <;> cases es[j]? <;> simp [hj]
    refine ⟨_, _, mapw_at w (.map (es.modify i fun e => { e with key := key k, val := v }) c) hl, by rw [hm]; exact n1, fun x hx => ?_⟩
    have hx' := List.mem_map_of_mem (f := MapEntry.born) hx
    rw [hm] at hx'
    obtain ⟨y, hy, ey⟩ := List.mem_map.1 hx'
    have := n2 y hy
    omega
theorem Born.delete (hB : Born w b) (h : MapIs w b key kvs) (L : KeyLaw P K key) (ht : P.underlying T = some (.map K E)) (k : κ) (t2 ty : TypeId) {u : Value}
    (hr : (Builtin.delete_ #[T, t2] ty #[.map (some b), key k]).run P w = .ok u w') : Born w' b := by
  obtain ⟨es, c, h, e⟩ := h
  obtain ⟨es', c', h', n1, n2⟩ := hB
  rw [h] at h'
  injection h' with h'; injection h' with q1 q2
  subst q1; subst q2
  have hl : b < w.heap.size := (Array.getElem?_eq_some_iff.1 h).1
  have hf := L.find es.toList kvs k w e
  have hgo : ∀ o : Obj, (setObj b o).run P w = .ok () { w with heap := w.heap.setIfInBounds b o } := fun o => obj_set o h
  cases hlk : lookI k kvs 0 with
  | none =>
    simp [Builtin.delete_, run_underlying ht, obj_get h, L.check, hf, hlk, hgo] at hr
    obtain ⟨_, rfl⟩ := hr
    exact ⟨_, _, mapw_at w _ hl, n1, n2⟩
  | some x =>
    obtain ⟨i, u⟩ := x
    simp [Builtin.delete_, run_underlying ht, obj_get h, L.check, hf, hlk, hgo] at hr
    obtain ⟨_, rfl⟩ := hr
    have hs : (es.eraseIdxIfInBounds i).toList.Sublist es.toList := by
      unfold Array.eraseIdxIfInBounds
      split
      · rw [Array.toList_eraseIdx]; exact List.eraseIdx_sublist _ _
      · exact List.Sublist.refl _
    exact ⟨_, _, mapw_at w _ hl, n1.sublist (hs.map _), fun x hx => n2 x (hs.subset hx)⟩
end
def kvE (e : MapEntry) : Value × Value := (e.key, e.val)
/-- block r is an iterator over the map at block b; left: what is still to come -/
def Rng (w : World) (b r : Nat) (left : List (Value × Value)) : Prop := ∃ (es : Array MapEntry) (c since c0 : Nat) (seen : Array Nat), w.heap[b]? = some (.map es c) ∧ (es.toList.map (·.born)).Nodup ∧ (∀ e ∈ es.toList, e.born < since) ∧ (since ≤ c0 ∧ since ≤ c) ∧
  w.heap[r]? = some (.mapIter (some b) since seen c0) ∧ (leftOf es seen).toList.map kvE = left
section
variable {P : Program} {w w' : World} {b r : Nat} {F : Nat → Prop} {left : List (Value × Value)}
theorem Rng.ltb (h : Rng w b r left) : b < w.heap.size := by
  obtain ⟨es, c, s, c0, seen, h1, _⟩ := h
  exact (Array.getElem?_eq_some_iff.1 h1).1
theorem Rng.ltr (h : Rng w b r left) : r < w.heap.size := by
  obtain ⟨es, c, s, c0, seen, _, _, _, _, h2, _⟩ := h
  exact (Array.getElem?_eq_some_iff.1 h2).1
theorem Rng.ne (h : Rng w b r left) : r ≠ b := by
  obtain ⟨es, c, s, c0, seen, h1, _, _, _, h2, _⟩ := h
  intro e
  rw [e, h1] at h2
  cases h2
theorem Rng.fr (h : Rng w b r left) (hf : Fr F w w') (hb : ¬ F b) (hr : ¬ F r) : Rng w' b r left := by
  have l1 := h.ltb
  have l2 := h.ltr
  obtain ⟨es, c, s, c0, seen, h1, n1, n2, n3, h2, e⟩ := h
  exact ⟨es, c, s, c0, seen, (hf.block b l1 hb).trans h1, n1, n2, n3, (hf.block r l2 hr).trans h2, e⟩
theorem Rng.notCells (h : Rng w b r left) {g : Nat} {cs : Array Value} {T : TypeId} {fr : Nat × Nat} (hg : w.heap[g]? = some (.cells cs T fr)) : g ≠ b ∧ g ≠ r := by
  obtain ⟨es, c, s, c0, seen, h1, n1, n2, n3, h2, e⟩ := h
  constructor
  · rintro rfl; rw [h1] at hg; cases hg
  · rintro rfl; rw [h2] at hg; cases hg
theorem Rng.start {κ : Type} {key : κ → Value} {kvs : List (κ × Value)} {T K E : TypeId} (hB : Born w b) (h : MapIs w b key kvs) (ht : P.underlying T = some (.map K E)) :
    ∃ w', (Instr.range T (.map (some b))).run P w = .ok (.pointer (some ⟨w.heap.size, 0, none⟩)) w' ∧ Rng w' b w.heap.size (kvs.map fun x => (key x.1, x.2)) ∧ Fr (fun _ => False) w w' ∧ w'.heap.size = w.heap.size + 1 := by
  have hl := h.lt
  obtain ⟨es, c, h, e⟩ := h
  obtain ⟨es', c', h', n1, n2⟩ := hB
  rw [h] at h'
  injection h' with h'; injection h' with q1 q2
  subst q1; subst q2
  refine ⟨_, run_range_map w T K E b es c ht h, ⟨es, c, c, c, #[], (heap_alloc_old w _ hl).trans h, n1, n2, ⟨Nat.le_refl _, Nat.le_refl _⟩, heap_alloc_new w _, ?_⟩, (Fr.refl _ _).alloc _, by simp⟩
  have : leftOf es #[] = es := by unfold leftOf; rw [Array.filter_eq_self]; simp
  rw [this]
  exact e
theorem left_split {es : Array MapEntry} {seen : Array Nat} {e : MapEntry} (n1 : (es.toList.map (·.born)).Nodup) (he : e ∈ (leftOf es seen).toList) :
    (kvE e :: (leftOf es (seen.push e.born)).toList.map kvE).Perm ((leftOf es seen).toList.map kvE) := by
  have hsub : (leftOf es seen).toList.Sublist es.toList := by unfold leftOf; rw [Array.toList_filter]; exact List.filter_sublist
  have hn : ((leftOf es seen).toList.map (·.born)).Nodup := n1.sublist (hsub.map _)
  have hq : (leftOf es (seen.push e.born)).toList = (leftOf es seen).toList.filter fun x => decide (x.born ≠ e.born) := by
    unfold leftOf
    simp only [Array.toList_filter]
    rw [List.filter_filter]
    refine List.filter_congr fun x _ => ?_
    rw [Bool.eq_iff_iff]
    simp only [Bool.not_eq_true', Bool.and_eq_true, decide_eq_true_eq, Array.contains_push, Bool.or_eq_false_iff, beq_eq_false_iff_ne]
    exact ⟨fun ⟨a, b⟩ => ⟨b, a⟩, fun ⟨a, b⟩ => ⟨b, a⟩⟩
  rw [hq]
  have hp : ∀ {l : List MapEntry}, (l.map (·.born)).Nodup → e ∈ l → (e :: l.filter fun x => decide (x.born ≠ e.born)).Perm l := by
    intro l
    induction l with
    | nil => intro _ h; cases h
    | cons a t ih =>
      intro hn he
      rw [List.map_cons, List.nodup_cons] at hn
      by_cases ha : a.born = e.born
      · have hae : a = e := by
          rcases List.mem_cons.1 he with q | q
          · exact q.symm
          · exact absurd (List.mem_map.2 ⟨e, q, ha.symm⟩) hn.1
        subst hae
        rw [List.filter_cons_of_neg (by simp)]
        have : t.filter (fun x => decide (x.born ≠ a.born)) = t := by
          rw [List.filter_eq_self]
          intro y hy
          exact decide_eq_true fun q => hn.1 (q ▸ List.mem_map.2 ⟨y, hy, rfl⟩)
        rw [this]
      · rw [List.filter_cons_of_pos (by simpa using ha)]
        have het : e ∈ t := by
          rcases List.mem_cons.1 he with q | q
          · exact absurd (by rw [q]) ha
          · exact q
        exact (List.Perm.swap _ _ _).trans ((ih hn.2 het).cons _)
  exact (hp hn he).map kvE
theorem Rng.next (h : Rng w b r left) (ty : TypeId) :
    (left = [] ∧ (Instr.next (.pointer (some ⟨r, 0, none⟩)) false ty).run P w = .ok (.tuple #[.bool false]) w) ∨
    ∃ k v w' left', (Instr.next (.pointer (some ⟨r, 0, none⟩)) false ty).run P w = .ok (.tuple #[.bool true, k, v]) w' ∧ ((k, v) :: left').Perm left ∧ Rng w' b r left' ∧ Fr (fun j => j = r) w w' ∧ w'.heap.size = w.heap.size ∧
      (Instr.entry (.pointer (some ⟨r, 0, none⟩))).run P w' = .ok (.tuple #[k, v]) w' := by
  have hne := h.ne
  have hlr := h.ltr
  obtain ⟨es, c, s, c0, seen, h1, n1, n2, n3, h2, rfl⟩ := h
  rcases run_next_at (P := P) w ty r b s c0 seen es c h2 h1 n2 n3.1 with ⟨h0, hrun⟩ | ⟨e, he, w1, hal, hrun⟩
  · left
    refine ⟨?_, hrun⟩
    have : leftOf es seen = #[] := Array.eq_empty_of_size_eq_zero h0
    rw [this]; rfl
  · right
    have hem := (mem_left he).1
    have hr1 : w1.heap = w.heap := by rcases hal with rfl | rfl <;> rfl
    have hb' : (setBlock w1 r (.mapIter (some b) s (seen.push e.born) c)).heap[b]? = some (.map es c) := by
      show (w1.heap.setIfInBounds r _)[b]? = _
      rw [hr1, Array.getElem?_setIfInBounds_ne hne]; exact h1
    have hr' : (setBlock w1 r (.mapIter (some b) s (seen.push e.born) c)).heap[r]? = some (.mapIter (some b) s (seen.push e.born) c) := by
      show (w1.heap.setIfInBounds r _)[r]? = _
      rw [hr1, Array.getElem?_setIfInBounds_self_of_lt hlr]
    refine ⟨e.key, e.val, _, _, hrun, left_split n1 he, ?_, ?_, ?_, run_entry_at _ r b s seen es c e hr' hb' hem n1⟩
    · exact ⟨es, c, s, c, seen.push e.born, hb', n1, n2, ⟨n3.2, n3.2⟩, hr', rfl⟩
    · refine ⟨?_, ?_, ?_, ?_, fun k hk hne' => ?_⟩
      · rcases hal with rfl | rfl <;> rfl
      · rcases hal with rfl | rfl <;> rfl
      · rcases hal with rfl | rfl <;> rfl
      · show w.heap.size ≤ (w1.heap.setIfInBounds r _).size
        rw [hr1]; simp
      · show (w1.heap.setIfInBounds r _)[k]? = _
        rw [hr1, Array.getElem?_setIfInBounds_ne (Ne.symm hne')]
    · show (w1.heap.setIfInBounds r _).size = _
      rw [hr1]; simp
theorem Rng.left_eq (h : Rng w b r left) : w.rangeLeft b r = left.length := by
  obtain ⟨es, c, s, c0, seen, h1, n1, n2, n3, h2, rfl⟩ := h
  simp only [World.rangeLeft, h1, h2, List.length_map, Array.length_toList]
variable {ops : Array Oper} {rest : List Oper} {o : Oper} {a : Act} {Q : Exit → Act → World → Prop}
theorem wpList_range_is {κ : Type} {key : κ → Value} {kvs : List (κ × Value)} (hg : o.guard = none) (m : Operand) (t : TypeId) (hop : o.op = Op.range t m) (k e : TypeId) (ht : P.underlying t = some (.map k e)) (hm : a.eval m = .map (some b)) (hB : Born w b) (h : MapIs w b key kvs)
    (hK : ∀ w', Rng w' b w.heap.size (kvs.map fun x => (key x.1, x.2)) → Fr (fun _ => False) w w' → w'.heap.size = w.heap.size + 1 → wpList P ops Q rest (a.put o.dst (.pointer (some ⟨w.heap.size, 0, none⟩))) w') : wpList P ops Q (o :: rest) a w := by
  refine wpList_plain hg fun K' hK' => ?_
  obtain ⟨w', hrun, r1, r2, r3⟩ := Rng.start (P := P) hB h ht
  unfold Oper.wp
  simp [execOp, hop, hm, hrun, Result.andThen]
  exact hK' _ _ (hK w' r1 r2 r3)
theorem wpList_next_is {α β : Type} (hg : o.guard = none) (it : Operand) (hop : o.op = Op.next it false) (mkK : α → Value) (mkV : β → Value) (hit : a.eval it = .pointer (some ⟨r, 0, none⟩)) (h : Rng w b r left) (inv : ∀ x ∈ left, ∃ k v, x = (mkK k, mkV v))
    (hDone : left = [] → wpList P ops Q rest (a.put o.dst (.tuple #[.bool false])) w)
    (hMore : ∀ k v w' left', ((mkK k, mkV v) :: left').Perm left → Rng w' b r left' → Fr (fun j => j = r) w w' → w'.heap.size = w.heap.size → (Instr.entry (.pointer (some ⟨r, 0, none⟩))).run P w' = .ok (.tuple #[mkK k, mkV v]) w' → wpList P ops Q rest (a.put o.dst (.tuple #[.bool true, mkK k, mkV v])) w') : wpList P ops Q (o :: rest) a w := by
  refine wpList_plain hg fun K' hK' => ?_
  unfold Oper.wp
  rcases h.next (P := P) o.type with ⟨h0, hrun⟩ | ⟨k, v, w', left', hrun, hp, hr, hf, hs, hen⟩
  · simp [execOp, hop, hit, hrun, Result.andThen]
    exact hK' _ _ (hDone h0)
  · obtain ⟨k', v', e⟩ := inv (k, v) (hp.mem_iff.1 List.mem_cons_self)
    injection e with e1 e2
    subst e1; subst e2
    simp [execOp, hop, hit, hrun, Result.andThen]
    exact hK' _ _ (hMore k' v' w' left' hp hr hf hs hen)
end
end Go.Proofs.YtpnchfigehgkgaaDoor
set_option maxRecDepth 100000
namespace Go.Proofs.YtpnchfigehgkgaaDoor
open Go.RowKit
abbrev PK := ByteArray × ByteArray
instance : DecidableEq PK := inferInstance
def pkKey (k : PK) : Value := .agg #[.string k.1, .string k.2]
theorem pkKey_inj {a b : PK} (h : pkKey a = pkKey b) : a = b := by
  obtain ⟨a1, a2⟩ := a
  obtain ⟨b1, b2⟩ := b
  simpa [pkKey] using h
theorem check_pk (b : Bool) (k : PK) (W : World) : (Instr.checkKey b 10000 112 (pkKey k)).run Tryd.prog W = .ok () W := by
  obtain ⟨k1, k2⟩ := k
  kernel_rfl
theorem ptoList_ba (a b : ByteArray) : a.toList = b.toList ↔ b = a := by
  rw [ByteArray.toList_eq, ByteArray.toList_eq]
  obtain ⟨⟨x⟩⟩ := a
  obtain ⟨⟨y⟩⟩ := b
  simp [eq_comm]
theorem equal_pk (a b : PK) (W : World) : (Op.equal 112 (pkKey a) (pkKey b)).run Tryd.prog W = .ok (decide (b = a)) W := by
  obtain ⟨a1, a2⟩ := a
  obtain ⟨b1, b2⟩ := b
  show (Op.equalIn (9999 + 1) 112 (.agg #[.string a1, .string a2]) (.agg #[.string b1, .string b2])).run Tryd.prog W = _
  rw [run_equalIn_struct W 9999 112 _ _ (by kernel_rfl) (by kernel_rfl)]
  simp only [Prod.mk.injEq]
  by_cases q1 : b1 = a1 <;> by_cases q2 : b2 = a2 <;> simp [go_sem, ptoList_ba, q1, q2]
theorem asking_pk (k : PK) (W : World) : ∀ (es : List MapEntry) (kvs : List (PK × Value)) (i : Nat), es.map (fun e => (e.key, e.val)) = kvs.map (fun x => (pkKey x.1, x.2)) →
    (Instr.findAsking 112 (pkKey k) es i).run Tryd.prog W = .ok (lookI k kvs i) W
  | [], [], i, _ => by simp [Instr.findAsking, lookI]
  | [], _ :: _, _, h => by simp at h
  | _ :: _, [], _, h => by simp at h
  | e :: es, x :: kvs, i, h => by
    simp only [List.map_cons, List.cons.injEq, Prod.mk.injEq] at h
    have he := equal_pk k x.1 W
    have ih := asking_pk k W es kvs (i + 1) h.2
    by_cases hx : x.1 = k
    · rw [decide_eq_true hx] at he
      rw [← hx] at he ⊢
      simp [Instr.findAsking, lookI, h.1.1, h.1.2, he]
    · rw [decide_eq_false hx] at he
      simp [Instr.findAsking, lookI, h.1.1, he, hx, ih]
theorem same_pk (k : PK) : Instr.sameBits 10000 (pkKey k) (pkKey k) = true := by
  obtain ⟨k1, k2⟩ := k
  show Instr.sameBits (9998 + 1 + 1) _ _ = true
  simp [pkKey, Instr.sameBits, ba_beq_self]
theorem pkLaw : KeyLaw Tryd.prog 112 pkKey where
  check := check_pk
  find := fun es kvs k W h => by rw [run_findKey_eq W (by kernel_rfl)]; exact asking_pk k W es kvs 0 h
  stays := same_pk
/-! ### rules -/
structure Rule where
  who : T
  watcher : T
  what : Int
def ruleC (r : Rule) : List Value := [.string (str r.who), .string (str r.watcher), .int .i64 r.what]
def nameB (s : T) : Bool := decide ((hostE s).2 = 0)
def chkR (r : Rule) : Int := if nameB r.who = false ∨ nameB r.watcher = false ∨ r.what < 0 ∨ 2 < r.what then 1 else 0
def keyR (r : Rule) : PK := (str r.who, str r.watcher)
abbrev KV := List (PK × Value)
def setE (kv : KV) (r : Rule) : Int := if chkR r ≠ 0 then 1 else if r.what = 0 then 0 else if mget (keyR r) kv = none ∧ 500 ≤ kv.length then 5 else 0
def setL (kv : KV) (r : Rule) : KV := if chkR r ≠ 0 then kv else if r.what = 0 then mdel (keyR r) kv else if mget (keyR r) kv = none ∧ 500 ≤ kv.length then kv else mput (keyR r) (.int .i64 r.what) kv
def intV : Option Value → Int
  | some (.int _ n) => n
  | _ => 0
def askV (kv : KV) (a b : T) : Int := if a = b ∧ nameB a = true then 1 else intV (mget (str a, str b) kv)
structure RuleS (r : Rule) : Prop where
  who : r.who.length ≤ 99999990
  watcher : r.watcher.length ≤ 99999990
theorem chk_01 (r : Rule) : chkR r = 0 ∨ chkR r = 1 := by unfold chkR; split <;> simp
theorem chk_ok {r : Rule} : chkR r = 0 ↔ nameB r.who = true ∧ nameB r.watcher = true ∧ 0 ≤ r.what ∧ r.what ≤ 2 := by
  unfold chkR
  cases nameB r.who <;> cases nameB r.watcher <;> simp <;> omega
theorem set_bad {kv : KV} {r : Rule} (h : chkR r ≠ 0) : setE kv r = 1 ∧ setL kv r = kv := ⟨by unfold setE; rw [if_pos h], by unfold setL; rw [if_pos h]⟩
theorem set_del {kv : KV} {r : Rule} (h : chkR r = 0) (h0 : r.what = 0) : setE kv r = 0 ∧ setL kv r = mdel (keyR r) kv :=
  ⟨by unfold setE; rw [if_neg (by simp [h]), if_pos h0], by unfold setL; rw [if_neg (by simp [h]), if_pos h0]⟩
theorem set_full {kv : KV} {r : Rule} (h : chkR r = 0) (h0 : r.what ≠ 0) (hf : mget (keyR r) kv = none ∧ 500 ≤ kv.length) : setE kv r = 5 ∧ setL kv r = kv :=
  ⟨by unfold setE; rw [if_neg (by simp [h]), if_neg h0, if_pos hf], by unfold setL; rw [if_neg (by simp [h]), if_neg h0, if_pos hf]⟩
theorem set_put {kv : KV} {r : Rule} (h : chkR r = 0) (h0 : r.what ≠ 0) (hf : ¬ (mget (keyR r) kv = none ∧ 500 ≤ kv.length)) : setE kv r = 0 ∧ setL kv r = mput (keyR r) (.int .i64 r.what) kv :=
  ⟨by unfold setE; rw [if_neg (by simp [h]), if_neg h0, if_neg hf], by unfold setL; rw [if_neg (by simp [h]), if_neg h0, if_neg hf]⟩
/-- what a table keeps to -/
structure KvP (kv : KV) : Prop where
  nd : (kv.map (·.1)).Nodup
  val : ∀ x ∈ kv, ∃ n, x.2 = .int .i64 n ∧ 1 ≤ n ∧ n ≤ 2
  len : kv.length ≤ 500
theorem KvP.nil : KvP [] := ⟨by simp, by simp, by simp⟩
theorem mput_mem {k : PK} {v : Value} : ∀ {l : KV} {x : PK × Value}, x ∈ mput k v l → x = (k, v) ∨ x ∈ l
  | [], x, h => by simp [mput] at h; exact .inl h
  | y :: r, x, h => by
    unfold mput at h
    split at h
    · rcases List.mem_cons.1 h with h | h
      · exact .inl h
      · exact .inr (List.mem_cons_of_mem _ h)
    · rcases List.mem_cons.1 h with h | h
      · exact .inr (h ▸ List.mem_cons_self)
      · rcases mput_mem h with h | h
        · exact .inl h
        · exact .inr (List.mem_cons_of_mem _ h)
theorem mdel_sub (k : PK) : ∀ l : KV, (mdel k l).Sublist l
  | [] => List.Sublist.refl _
  | y :: r => by
    unfold mdel
    split
    · exact List.sublist_cons_self _ _
    · exact (mdel_sub k r).cons_cons _
theorem mput_len {k : PK} {v : Value} (l : KV) : (mput k v l).length = if mget k l = none then l.length + 1 else l.length := by
  induction l with
  | nil => rfl
  | cons y r ih =>
    unfold mput mget
    by_cases h : y.1 = k
    · simp [h]
    · simp only [if_neg h, List.length_cons, ih]; split <;> rfl
theorem mput_nd {k : PK} {v : Value} {l : KV} (h : (l.map (·.1)).Nodup) : ((mput k v l).map (·.1)).Nodup := by
  cases hg : mget k l with
  | some u =>
    rw [mput_keys v (List.mem_map.2 ⟨_, mget_mem hg, rfl⟩)]
    exact h
  | none =>
    have hn := mget_none' hg
    rw [mput_new v hn, List.map_append, List.nodup_append]
    refine ⟨h, by simp, fun a ha b hb => ?_⟩
    simp at hb
    subst hb
    exact fun e => hn (e ▸ ha)
theorem KvP.set {kv : KV} (H : KvP kv) (r : Rule) : KvP (setL kv r) := by
  by_cases h : chkR r = 0
  · obtain ⟨_, _, h1, h2⟩ := chk_ok.1 h
    by_cases h0 : r.what = 0
    · rw [(set_del h h0).2]
      have hs := mdel_sub (keyR r) kv
      exact ⟨H.nd.sublist (hs.map _), fun x hx => H.val x (hs.subset hx), Nat.le_trans hs.length_le H.len⟩
    · by_cases hf : mget (keyR r) kv = none ∧ 500 ≤ kv.length
      · rw [(set_full h h0 hf).2]; exact H
      · rw [(set_put h h0 hf).2]
        refine ⟨mput_nd H.nd, fun x hx => ?_, ?_⟩
        · rcases mput_mem hx with e | e
          · exact ⟨r.what, by rw [e], by omega, h2⟩
          · exact H.val x e
        · rw [mput_len]
          have := H.len
          split
          · rename_i hg
            have : ¬ 500 ≤ kv.length := fun q => hf ⟨hg, q⟩
            omega
          · exact this
  · rw [(set_bad h).2]; exact H
theorem KvP.get {kv : KV} (H : KvP kv) (k : PK) : mget k kv = none ∨ ∃ n, mget k kv = some (.int .i64 n) ∧ 1 ≤ n ∧ n ≤ 2 := by
  cases hg : mget k kv with
  | none => exact .inl rfl
  | some u =>
    obtain ⟨n, hn, h1, h2⟩ := H.val _ (mget_mem hg)
    exact .inr ⟨n, by simp at hn; rw [hn], h1, h2⟩
theorem mdel_get {k : PK} : ∀ {l : KV}, (l.map (·.1)).Nodup → ∀ k', mget k' (mdel k l) = if k' = k then none else mget k' l
  | [], _, k' => by unfold mdel mget; split <;> rfl
  | y :: r, hn, k' => by
    rw [List.map_cons, List.nodup_cons] at hn
    unfold mdel
    by_cases h : y.1 = k
    · rw [if_pos h]
      by_cases hk : k' = k
      · rw [if_pos hk, hk]
        exact mget_none (by rw [← h]; exact hn.1)
      · rw [if_neg hk]
        conv => rhs; unfold mget
        rw [if_neg (by rw [h]; exact Ne.symm hk)]
    · rw [if_neg h]
      unfold mget
      rw [mdel_get hn.2 k']
      by_cases hk : k' = k
      · rw [if_pos hk, if_pos hk, if_neg (by rw [hk]; exact h)]
      · rw [if_neg hk, if_neg hk]
end Go.Proofs.YtpnchfigehgkgaaDoor
namespace Go.Proofs.YtpnchfigehgkgaaDoor
set_option linter.unusedSimpArgs false
set_option linter.unusedVariables false
open Go.RowKit
/-- block p is a table that reads as kv; its memory is F -/
def Tb (w : World) (p : Nat) (kv : KV) (F : Nat → Prop) : Prop := ∃ g, Blk w p 77 #[.map (some g)] ∧ MapIs w g pkKey kv ∧ (∀ k, F k ↔ k = p ∨ k = g) ∧ KvP kv ∧ Born w g
section
variable {w w' : World} {p : Nat} {kv : KV} {F G : Nat → Prop}
theorem Tb.fr (H : Tb w p kv F) (hf : Fr G w w') (hd : ∀ k, F k → ¬ G k) : Tb w' p kv F := by
  obtain ⟨g, h1, h2, h3, h4, h5⟩ := H
  exact ⟨g, h1.fr hf (hd p ((h3 p).2 (.inl rfl))), h2.fr hf (hd g ((h3 g).2 (.inr rfl))), h3, h4, h5.fr hf (hd g ((h3 g).2 (.inr rfl)))⟩
theorem Tb.below (H : Tb w p kv F) (hb : Below w.heap.size w w') : Tb w' p kv F := H.fr (Fr.of_below (F := fun _ => False) hb) (fun _ _ h => h)
theorem Tb.lt (H : Tb w p kv F) {k : Nat} (hk : F k) : k < w.heap.size := by
  obtain ⟨g, h1, h2, h3, h4⟩ := H
  rcases (h3 k).1 hk with rfl | rfl
  · exact h1.lt
  · exact h2.lt
theorem Tb.notT (H : Tb w p kv F) {b : Nat} {ds : Array Value} {T : TypeId} {fr : Nat × Nat} (hb : w.heap[b]? = some (.cells ds T fr)) (h1 : T ≠ 77) : ¬ F b := by
  obtain ⟨g, k1, k2, k3, k4⟩ := H
  intro hF
  rcases (k3 b).1 hF with rfl | rfl
  · unfold Blk at k1; rw [hb] at k1; injection k1 with k1; injection k1 with _ q; exact h1 q
  · obtain ⟨es, c, h, _⟩ := k2; rw [hb] at h; cases h
end
def BoolPost (b : Bool) (w : World) (e : Ending) (w' : World) : Prop := e = .returned (.bool b) ∧ Below w.heap.size w w'
set_option maxRecDepth 100000 in
theorem pmade_any {w : World} {p g : Nat} (h : Blk w p 77 #[.map (some g)]) :
    Calls Tryd.prog 90 #[.pointer (some ⟨p, 0, none⟩)] w fun e w' => e = .returned (.bool true) ∧ w = w' := by
  have hc := h.cell 0
  have hnn := fun (W : World) (r : Option Nat) => run_neq_map_nil (P := Tryd.prog) W 75 _ _ r Tryd.underlying75
  go_enter Tryd.func90, Tryd.ntmps90
  go_wp2
  go_ret
  exact ⟨rfl, rfl⟩
set_option maxRecDepth 100000 in
theorem pmade_nil (w : World) : Calls Tryd.prog 90 #[.pointer none] w fun e w' => e = .returned (.bool false) ∧ w = w' := by
  go_enter Tryd.func90, Tryd.ntmps90
  go_wp2
  go_ret
  exact ⟨rfl, rfl⟩
set_option maxRecDepth 100000 in
theorem pmade_zero {w : World} {p : Nat} (h : Blk w p 77 #[.map none]) :
    Calls Tryd.prog 90 #[.pointer (some ⟨p, 0, none⟩)] w fun e w' => e = .returned (.bool false) ∧ w = w' := by
  have hc := h.cell 0
  have hnn := fun (W : World) (r : Option Nat) => run_neq_map_nil (P := Tryd.prog) W 75 _ _ r Tryd.underlying75
  go_enter Tryd.func90, Tryd.ntmps90
  go_wp2
  go_ret
  exact ⟨rfl, rfl⟩
def PNewPost (w : World) (e : Ending) (w' : World) : Prop := ∃ p F, e = .returned (.pointer (some ⟨p, 0, none⟩)) ∧ Tb w' p [] F ∧ Below w.heap.size w w' ∧ ∀ k, F k → w.heap.size ≤ k
theorem pnew_any (w : World) : Calls Tryd.prog 52 #[] w (PNewPost w) := by
  have hmm := @run_makeMap Tryd.prog
  have HP : Hid (PNewPost w (.returned (.pointer (some ⟨(w.alloc (.map #[] 0)).heap.size, 0, none⟩))) ((w.alloc (.map #[] 0)).alloc (.cells #[.map (some w.heap.size)] 77))) := Lib.hid
    ⟨_, fun k => k = (w.alloc (.map #[] 0)).heap.size ∨ k = w.heap.size, rfl, ⟨w.heap.size, Blk.new _ _ _, (MapIs.made w pkKey).fr ((Fr.refl (fun _ => False) _).alloc _) (fun h => h), fun k => Iff.rfl, KvP.nil, (Born.made w).fr ((Fr.refl (fun _ => False) _).alloc _) (fun h => h)⟩, ((Below.refl _ _).alloc (Nat.le_refl _) _).alloc (by simp) _, fun k hk => by simp at hk; omega⟩
  go_enter Tryd.func52, Tryd.ntmps52
  go_wp2
  go_ret
  simpa using HP.out
set_option maxRecDepth 100000 in
theorem name_any {s : T} (hs : s.length ≤ 99999990) (w : World) : Calls Tryd.prog 92 #[.string (str s)] w (BoolPost (nameB s) w) := by
  have HH : Hid (Calls Tryd.prog 45 #[.string (str s)] w (HostPost s w)) := Lib.hid (sHost_any hs)
  have HN : Hid (∀ r, hostE s = r → nameB s = decide (r.2 = 0)) := Lib.hid (fun r h => by unfold nameB; rw [h])
  unfold HostPost hostV at HH
  generalize hr : hostE s = r at *
  obtain ⟨H, G⟩ := r
  have HN := Lib.hid (HN.out (H, G) rfl)
  unfold BoolPost
  generalize nameB s = N at *
  clear hr
  simp only at HH HN
  by_cases hg : G = 0
  · subst hg
    obtain rfl : N = true := by simpa using HN.out
    go_enter Tryd.func92, Tryd.ntmps92
    go_wp2_with fail
    refine (HH.out).mono ?_
    rintro e w1 ⟨rfl, hb⟩
    have HB := Lib.hid hb
    clear hb
    go_wp2
    go_ret
    exact ⟨rfl, HB.out⟩
  · obtain rfl : N = false := by have := HN.out; simpa [hg] using this
    have q : (G == 0) = false := by simpa using hg
    clear hg
    go_enter Tryd.func92, Tryd.ntmps92
    go_wp2_with fail
    refine (HH.out).mono ?_
    rintro e w1 ⟨rfl, hb⟩
    have HB := Lib.hid hb
    clear hb
    go_wp2
    go_ret
    exact ⟨rfl, HB.out⟩
def IntPost (n : Int) (w : World) (e : Ending) (w' : World) : Prop := e = .returned (.int .i64 n) ∧ Below w.heap.size w w'
theorem rule_box {r : Rule} {w w0 : World} (h : w.alloc (.cells #[.string (str r.who), .string (str r.watcher), .int .i64 r.what] 68) = w0) : Below w.heap.size w w0 ∧ ∀ W, Below w0.heap.size w0 W → W.cell? ⟨w.heap.size, 0, none⟩ = some (.string (str r.who)) ∧ W.cell? ⟨w.heap.size, 1, none⟩ = some (.string (str r.watcher)) ∧ W.cell? ⟨w.heap.size, 2, none⟩ = some (.int .i64 r.what) := by
  subst h
  refine ⟨(Below.refl _ _).alloc (Nat.le_refl _) _, fun W hW => ?_⟩
  have hk := (Blk.new w 68 #[.string (str r.who), .string (str r.watcher), .int .i64 r.what]).fr (Fr.of_below (F := fun _ => False) hW) (fun h => h)
  exact ⟨hk.cell 0, hk.cell 1, hk.cell 2⟩
theorem pcheck_any {r : Rule} (hs : RuleS r) (w : World) : Calls Tryd.prog 91 #[.agg #[.string (str r.who), .string (str r.watcher), .int .i64 r.what]] w (IntPost (chkR r) w) := by
  obtain ⟨w0, hw0⟩ : ∃ w0, w.alloc (.cells #[.string (str r.who), .string (str r.watcher), .int .i64 r.what] 68) = w0 := ⟨_, rfl⟩
  obtain ⟨hb0, hc⟩ := rule_box hw0
  have HB0 := Lib.hid hb0
  have HC := Lib.hid hc
  have HN1 : Hid (∀ W, Calls Tryd.prog 92 #[.string (str r.who)] W (BoolPost (nameB r.who) W)) := Lib.hid (fun W => name_any hs.who W)
  have HN2 : Hid (∀ W, Calls Tryd.prog 92 #[.string (str r.watcher)] W (BoolPost (nameB r.watcher) W)) := Lib.hid (fun W => name_any hs.watcher W)
  have HV : Hid (∀ c, ((nameB r.who = false ∨ nameB r.watcher = false ∨ r.what < 0 ∨ 2 < r.what) → c = 1) → (¬ (nameB r.who = false ∨ nameB r.watcher = false ∨ r.what < 0 ∨ 2 < r.what) → c = 0) → chkR r = c) := Lib.hid (fun c h1 h2 => by
    unfold chkR
    split
    · rename_i h; exact (h1 h).symm
    · rename_i h; exact (h2 h).symm)
  unfold BoolPost at HN1 HN2
  unfold IntPost
  generalize chkR r = V at *
  generalize nameB r.who = N1 at *
  generalize nameB r.watcher = N2 at *
  generalize r.what = K at *
  clear hb0 hc hs
  obtain ⟨c0, c1, c2⟩ := HC.out w0 (Below.refl _ _)
  cases N1 with
  | false =>
    replace HV := Lib.hid (HV.out 1 (fun _ => rfl) (fun h => absurd (.inl rfl) h))
    go_enter Tryd.func91, Tryd.ntmps91
    go_upto_region 1 with (fail)
    go_wp2_with fail
    refine (HN1.out _).mono ?_
    rintro e w1 ⟨rfl, hb⟩
    have HB1 := Lib.hid (thenB HB0.out hb)
    clear hb
    go_wp2
    go_ret
    exact ⟨ret_int HV.out.symm, HB1.out⟩
  | true =>
    cases N2 with
    | false =>
      replace HV := Lib.hid (HV.out 1 (fun _ => rfl) (fun h => absurd (.inr (.inl rfl)) h))
      go_enter Tryd.func91, Tryd.ntmps91
      go_upto_region 1 with (fail)
      go_wp2_with fail
      refine (HN1.out _).mono ?_
      rintro e w1 ⟨rfl, hb⟩
      have HX1 := Lib.hid hb
      clear hb c0 c1 c2
      obtain ⟨c0, c1, c2⟩ := HC.out w1 HX1.out
      go_wp2_with fail
      refine (HN2.out _).mono ?_
      rintro e w2 ⟨rfl, hb⟩
      have HB2 := Lib.hid (thenB HB0.out (thenB HX1.out hb))
      clear hb
      go_wp2
      go_ret
      exact ⟨ret_int HV.out.symm, HB2.out⟩
    | true =>
      have HOK : Hid (0 ≤ K → K ≤ 2 → V = 0) := Lib.hid (fun h1 h2 => HV.out 0 (fun h => by simp at h; omega) (fun _ => rfl))
      have HNO : Hid ((K < 0 ∨ 2 < K) → V = 1) := Lib.hid (fun h => HV.out 1 (fun _ => rfl) (fun q => absurd (.inr (.inr h)) q))
      clear HV
      go_enter Tryd.func91, Tryd.ntmps91
      go_upto_region 1 with (fail)
      go_wp2_with fail
      refine (HN1.out _).mono ?_
      rintro e w1 ⟨rfl, hb⟩
      have HX1 := Lib.hid hb
      clear hb c0 c1 c2
      obtain ⟨c0, c1, c2⟩ := HC.out w1 HX1.out
      go_wp2_with fail
      refine (HN2.out _).mono ?_
      rintro e w2 ⟨rfl, hb⟩
      have HX2 := Lib.hid (thenB HX1.out hb)
      have HB2 := Lib.hid (thenB HB0.out HX2.out)
      clear hb c0 c1 c2
      obtain ⟨c0, c1, c2⟩ := HC.out w2 HX2.out
      by_cases h0 : K = 0
      · subst h0
        have HV := Lib.hid (HOK.out (by omega) (by omega))
        go_wp2
        go_ret
        exact ⟨ret_int HV.out.symm, HB2.out⟩
      · by_cases h1 : K = 1
        · subst h1
          have HV := Lib.hid (HOK.out (by omega) (by omega))
          go_wp2
          go_ret
          exact ⟨ret_int HV.out.symm, HB2.out⟩
        · by_cases h2 : K = 2
          · subst h2
            have HV := Lib.hid (HOK.out (by omega) (by omega))
            go_wp2
            go_ret
            exact ⟨ret_int HV.out.symm, HB2.out⟩
          · have HV := Lib.hid (HNO.out (by omega))
            have q0 : (K != 0) = true := by simpa using h0
            have q1 : (K != 1) = true := by simpa using h1
            have q2 : (K != 2) = true := by simpa using h2
            clear h0 h1 h2
            go_wp2
            go_ret
            exact ⟨ret_int HV.out.symm, HB2.out⟩
end Go.Proofs.YtpnchfigehgkgaaDoor
namespace Go.Proofs.YtpnchfigehgkgaaDoor
set_option linter.unusedSimpArgs false
set_option linter.unusedVariables false
open Go.RowKit
theorem pzint (w : World) : (zeroValue 3).run Tryd.prog w = .ok (.int .i64 0) w := by kernel_rfl
def PSetPost (w : World) (p : Nat) (kv : KV) (r : Rule) (F : Nat → Prop) (e : Ending) (w' : World) : Prop := e = .returned (.int .i64 (setE kv r)) ∧ Tb w' p (setL kv r) F ∧ Fr F w w'
theorem Tb.upd {w w1 w' : World} {p g : Nat} {kv kv' : KV} {F : Nat → Prop} (hb : Below w.heap.size w w1) (hF : ∀ k, F k ↔ k = p ∨ k = g) (ht : Blk w1 p 77 #[.map (some g)]) (hm : MapIs w1 g pkKey kv) (hm' : MapIs w' g pkKey kv') (f : Fr (fun k => k = g) w1 w') (hB' : Born w' g) (hP : KvP kv') :
    Tb w' p kv' F ∧ Fr F w w' :=
  ⟨⟨g, ht.fr f (hm.ne ht).symm, hm', hF, hP, hB'⟩, (Fr.of_below (F := F) hb).trans f (fun k _ e => (hF k).2 (.inr e))⟩
theorem pset_same {w w' : World} {p : Nat} {kv : KV} {r : Rule} {F : Nat → Prop} {n : Int} (H : Tb w p kv F) (hb : Below w.heap.size w w') (h : setE kv r = n ∧ setL kv r = kv) : PSetPost w p kv r F (.returned (.int .i64 n)) w' :=
  ⟨ret_int h.1.symm, by rw [h.2]; exact H.below hb, Fr.of_below hb⟩
set_option maxRecDepth 100000 in
set_option maxHeartbeats 4000000 in
theorem pset_any {r : Rule} (hs : RuleS r) {w : World} {p : Nat} {kv : KV} {F : Nat → Prop} (H : Tb w p kv F) :
    Calls Tryd.prog 53 #[.pointer (some ⟨p, 0, none⟩), .agg #[.string (str r.who), .string (str r.watcher), .int .i64 r.what]] w (PSetPost w p kv r F) := by
  obtain ⟨w0, hw0⟩ : ∃ w0, w.alloc (.cells #[.string (str r.who), .string (str r.watcher), .int .i64 r.what] 68) = w0 := ⟨_, rfl⟩
  obtain ⟨hb0, hc⟩ := rule_box hw0
  have HH := Lib.hid H
  have HB0 := Lib.hid hb0
  have HC := Lib.hid hc
  obtain ⟨g, ht, hm, hF, hP, hB⟩ := H.below hb0
  have HT := Lib.hid ht
  have HM := Lib.hid hm
  have HF := Lib.hid hF
  have HP := Lib.hid hP
  have HB := Lib.hid hB
  have HMD : Hid (Calls Tryd.prog 90 #[.pointer (some ⟨p, 0, none⟩)] w0 fun e w' => e = .returned (.bool true) ∧ w0 = w') := Lib.hid (pmade_any ht)
  have HCK : Hid (∀ W, Calls Tryd.prog 91 #[.agg #[.string (str r.who), .string (str r.watcher), .int .i64 r.what]] W (IntPost (chkR r) W)) := Lib.hid (fun W => pcheck_any hs W)
  unfold IntPost at HCK
  obtain ⟨c0, c1, c2⟩ := HC.out w0 (Below.refl _ _)
  clear hb0 hc ht hm hF hP hB H hs
  by_cases hk : chkR r = 0
  · have HK := Lib.hid hk
    rw [hk] at HCK
    clear hk
    go_enter Tryd.func53, Tryd.ntmps53
    go_upto_region 1 with (fail)
    go_wp2_with fail
    refine (HMD.out).mono ?_
    rintro e w9 ⟨rfl, rfl⟩
    go_wp2_with fail
    refine (HCK.out _).mono ?_
    rintro e w1 ⟨rfl, hb1⟩
    have HX1 := Lib.hid hb1
    clear hb1 c0 c1 c2
    go_upto_region 6 with (fail)
    obtain ⟨c0, c1, c2⟩ := HC.out w1 HX1.out
    go_upto_region 7 with (fail)
    obtain ⟨w2, hw2⟩ : ∃ w2, w1.alloc (.cells #[.string (str r.who), .string (str r.watcher)] 112) = w2 := ⟨_, rfl⟩
    rw [hw2]
    have HX2 : Hid (Below w0.heap.size w0 w2) := Lib.hid (thenB HX1.out (hw2 ▸ (Below.refl _ _).alloc (Nat.le_refl _) _))
    have HY2 : Hid (Below w.heap.size w w2) := Lib.hid (thenB HB0.out HX2.out)
    have HKB : Hid (Blk w2 w1.heap.size 112 #[.string (str r.who), .string (str r.watcher)]) := Lib.hid (hw2 ▸ Blk.new w1 _ _)
    have HT2 : Hid (Blk w2 p 77 #[.map (some g)]) := Lib.hid (HT.out.fr (Fr.of_below (F := fun _ => False) HX2.out) (fun h => h))
    have HM2 : Hid (MapIs w2 g pkKey kv) := Lib.hid (HM.out.fr (Fr.of_below (F := fun _ => False) HX2.out) (fun h => h))
    have HB2 : Hid (Born w2 g) := Lib.hid (HB.out.fr (Fr.of_below (F := fun _ => False) HX2.out) (fun h => h))
    clear hw2 c0 c1 c2
    obtain ⟨c0, c1, c2⟩ := HC.out w2 HX2.out
    have k0 := HKB.out.cell 0
    have k1 := HKB.out.cell 1
    have t0 := HT2.out.cell 0
    by_cases h0 : r.what = 0
    · obtain ⟨W3, hd, hm3, f3⟩ := (HM2.out.drewN 1).delete pkLaw Tryd.underlying75 (keyR r) 112 0
      have hd' : (Builtin.delete_ #[75, 112] 0 #[.map (some g), .agg #[.string (str r.who), .string (str r.watcher)]]).run Tryd.prog w2.drew = .ok (.tuple #[]) W3 := hd
      have hB3 := (HB2.out.drewN 1).delete (HM2.out.drewN 1) pkLaw Tryd.underlying75 (keyR r) 112 0 hd
      have HE := Lib.hid (set_del (kv := kv) HK.out h0)
      have HFIN : Hid (Tb W3 p (setL kv r) F ∧ Fr F w W3) := Lib.hid (by
        have hp3 := HP.out.set r
        rw [HE.out.2] at hp3 ⊢
        exact Tb.upd (w1 := w2.drew) (below_drewN HY2.out 1) HF.out HT2.out HM2.out hm3 f3 hB3 hp3)
      rw [h0] at c2
      clear hd hm3 f3 hB3 h0
      go_wp2_with fail
      go_still_tail 5, (by kernel_rfl)
      go_wp2
      go_ret
      exact ⟨ret_int HE.out.1.symm, HFIN.out⟩
    · have q0 : (r.what == 0) = false := by simpa using h0
      have hl := fun n => (HM2.out.drewN n).len (P := Tryd.prog) Tryd.underlying75
      have hlk := fun n => (HM2.out.drewN n).lookup (T := 75) (E := 3) pkLaw Tryd.underlying75 (pzint (w2.drewN n)) (keyR r) true
      have HPUT : Hid (¬ (mget (keyR r) kv = none ∧ 500 ≤ kv.length) → ∀ n, ∃ W3, (Instr.mapUpdate 75 (.map (some g)) (.agg #[.string (str r.who), .string (str r.watcher)]) (.int .i64 r.what)).run Tryd.prog (w2.drewN n).drew = .ok () W3 ∧ setE kv r = 0 ∧ Tb W3 p (setL kv r) F ∧ Fr F w W3) := Lib.hid (fun hn n => by
        obtain ⟨W3, hd, hm3, f3⟩ := ((HM2.out.drewN n).drewN 1).update pkLaw Tryd.underlying75 (keyR r) (.int .i64 r.what)
        have hB3 := ((HB2.out.drewN n).drewN 1).update ((HM2.out.drewN n).drewN 1) pkLaw Tryd.underlying75 (keyR r) (.int .i64 r.what) hd
        have HE := set_put (kv := kv) HK.out h0 hn
        have hp3 := HP.out.set r
        refine ⟨W3, hd, HE.1, ?_⟩
        rw [HE.2] at hp3 ⊢
        exact Tb.upd (w1 := (w2.drewN n).drew) (below_drewN (below_drewN HY2.out n) 1) HF.out HT2.out HM2.out hm3 f3 hB3 hp3)
      have hnw := (HM2.out.ne HT2.out)
      have HNO : Hid (mget (keyR r) kv = none ∧ 500 ≤ kv.length → setE kv r = 5 ∧ setL kv r = kv) := Lib.hid (fun h => set_full HK.out h0 h)
      have HGET := Lib.hid (HP.out.get (keyR r))
      have HKV := Lib.hid HP.out.len
      clear h0 hnw
      rcases HGET.out with hg | ⟨v, hg, _, _⟩
      · simp only [hg] at hlk
        have hlk' : ∀ n, (Instr.lookup 75 (.map (some g)) (.agg #[.string (str r.who), .string (str r.watcher)]) true).run Tryd.prog (w2.drewN n) = .ok (.tuple #[.int .i64 0, .bool false]) (w2.drewN n) := hlk
        clear hlk
        by_cases hf : (500 : Int) ≤ kv.length
        · have HE := Lib.hid (HNO.out ⟨hg, by omega⟩)
          clear hg
          go_wp2_with fail
          go_quiet (fail)
          go_wp2
          go_ret
          exact pset_same HH.out (below_drewN HY2.out _) HE.out
        · have HPUT := Lib.hid (HPUT.out (fun q => hf (by omega)))
          have hf' : (decide ((kv.length : Int) ≥ 500)) = false := decide_eq_false hf
          clear hg
          go_wp2_with fail
          go_quiet (fail)
          go_wp2_with fail
          obtain ⟨W3, hu, he3, HFIN⟩ := HPUT.out nq
          have HFIN := Lib.hid HFIN
          have HE3 := Lib.hid he3
          clear he3 hl hlk'
          have c2q : (w2.drewN nq).cell? ⟨w.heap.size, 2, none⟩ = some (.int .i64 r.what) := c2
          have t0q : (w2.drewN nq).cell? ⟨p, 0, none⟩ = some (.map (some g)) := t0
          have k0q : (w2.drewN nq).cell? ⟨w1.heap.size, 0, none⟩ = some (.string (str r.who)) := k0
          have k1q : (w2.drewN nq).cell? ⟨w1.heap.size, 1, none⟩ = some (.string (str r.watcher)) := k1
          generalize w2.drewN nq = wq at *
          go_still_tail 7, (by kernel_rfl)
          go_wp2
          go_ret
          exact ⟨ret_int HE3.out.symm, HFIN.out⟩
      · simp only [hg] at hlk
        have hlk' : ∀ n, (Instr.lookup 75 (.map (some g)) (.agg #[.string (str r.who), .string (str r.watcher)]) true).run Tryd.prog (w2.drewN n) = .ok (.tuple #[.int .i64 v, .bool true]) (w2.drewN n) := hlk
        replace HPUT := Lib.hid (HPUT.out (fun q => by rw [hg] at q; cases q.1))
        clear hlk hg
        go_wp2_with fail
        go_quiet (fail)
        go_wp2_with fail
        obtain ⟨W3, hu, he3, HFIN⟩ := HPUT.out nq
        have HFIN := Lib.hid HFIN
        have HE3 := Lib.hid he3
        clear he3 hl hlk'
        have c2q : (w2.drewN nq).cell? ⟨w.heap.size, 2, none⟩ = some (.int .i64 r.what) := c2
        have t0q : (w2.drewN nq).cell? ⟨p, 0, none⟩ = some (.map (some g)) := t0
        have k0q : (w2.drewN nq).cell? ⟨w1.heap.size, 0, none⟩ = some (.string (str r.who)) := k0
        have k1q : (w2.drewN nq).cell? ⟨w1.heap.size, 1, none⟩ = some (.string (str r.watcher)) := k1
        generalize w2.drewN nq = wq at *
        go_still_tail 7, (by kernel_rfl)
        go_wp2
        go_ret
        exact ⟨ret_int HE3.out.symm, HFIN.out⟩
  · have h1 : chkR r = 1 := (chk_01 r).resolve_left hk
    have HE := Lib.hid (set_bad (kv := kv) hk)
    rw [h1] at HCK
    clear hk h1
    go_enter Tryd.func53, Tryd.ntmps53
    go_upto_region 1 with (fail)
    go_wp2_with fail
    refine (HMD.out).mono ?_
    rintro e w9 ⟨rfl, rfl⟩
    go_wp2_with fail
    refine (HCK.out _).mono ?_
    rintro e w1 ⟨rfl, hb1⟩
    have HX1 := Lib.hid (thenB HB0.out hb1)
    clear hb1 c0 c1 c2
    go_wp2
    go_ret
    exact pset_same HH.out HX1.out HE.out
def PAskPost (n : Int) (w : World) (e : Ending) (w' : World) : Prop := e = .returned (.int .i64 n) ∧ Below w.heap.size w w'
set_option maxRecDepth 100000 in
set_option maxHeartbeats 4000000 in
theorem pask_any {a b : T} (ha : a.length ≤ 99999990) {w : World} {p : Nat} {kv : KV} {F : Nat → Prop} (H : Tb w p kv F) :
    Calls Tryd.prog 55 #[.pointer (some ⟨p, 0, none⟩), .string (str a), .string (str b)] w (PAskPost (askV kv a b) w) := by
  obtain ⟨g, ht, hm, hF, hP, hB⟩ := H
  have HT := Lib.hid ht
  have HM := Lib.hid hm
  have HMD : Hid (Calls Tryd.prog 90 #[.pointer (some ⟨p, 0, none⟩)] w fun e w' => e = .returned (.bool true) ∧ w = w') := Lib.hid (pmade_any ht)
  have HN : Hid (∀ W, Calls Tryd.prog 92 #[.string (str a)] W (BoolPost (nameB a) W)) := Lib.hid (fun W => name_any ha W)
  have HY : Hid (a = b → nameB a = true → askV kv a b = 1) := Lib.hid (fun h1 h2 => by unfold askV; rw [if_pos ⟨h1, h2⟩])
  have HNO : Hid (¬ (a = b ∧ nameB a = true) → askV kv a b = intV (mget (str a, str b) kv)) := Lib.hid (fun h => by unfold askV; rw [if_neg h])
  have HLK : Hid (¬ (a = b ∧ nameB a = true) → ∀ W, Below w.heap.size w W → (Instr.lookup 75 (.map (some g)) (.agg #[.string (str a), .string (str b)]) false).run Tryd.prog W = .ok (.int .i64 (askV kv a b)) W) := Lib.hid (fun hn W hW => by
    have h := (hm.fr (Fr.of_below (F := fun _ => False) hW) (fun h => h)).lookup (T := 75) (E := 3) pkLaw Tryd.underlying75 (pzint W) (str a, str b) false
    have e : pkKey (str a, str b) = .agg #[.string (str a), .string (str b)] := rfl
    rw [e] at h
    rw [h, HNO.out hn]
    rcases hP.get (str a, str b) with q | ⟨n, q, _, _⟩
    · rw [q]; rfl
    · rw [q]; rfl)
  have HTC : Hid (∀ W, Below w.heap.size w W → W.cell? ⟨p, 0, none⟩ = some (.map (some g))) := Lib.hid (fun W hW => (ht.fr (Fr.of_below (F := fun _ => False) hW) (fun h => h)).cell 0)
  unfold BoolPost at HN
  unfold PAskPost
  generalize askV kv a b = V at *
  generalize nameB a = N at *
  clear ht hm hF hP hB
  by_cases hab : a = b
  · subst hab
    have q1 : ((str a).toList == (str a).toList) = true := beq_self_eq_true _
    cases N with
    | true =>
      have HV := Lib.hid (HY.out rfl rfl)
      clear HY HNO HLK
      go_enter Tryd.func55, Tryd.ntmps55
      go_wp2_with fail
      refine (HMD.out).mono ?_
      rintro e w9 ⟨rfl, rfl⟩
      go_wp2_with fail
      refine (HN.out _).mono ?_
      rintro e w1 ⟨rfl, hb⟩
      have HX := Lib.hid hb
      clear hb
      go_wp2
      go_ret
      exact ⟨ret_int HV.out.symm, HX.out⟩
    | false =>
      replace HLK := Lib.hid (HLK.out (by simp))
      clear HY HNO
      go_enter Tryd.func55, Tryd.ntmps55
      go_wp2_with fail
      refine (HMD.out).mono ?_
      rintro e w9 ⟨rfl, rfl⟩
      go_wp2_with fail
      refine (HN.out _).mono ?_
      rintro e w1 ⟨rfl, hb⟩
      have HX := Lib.hid hb
      clear hb
      have hl := HLK.out w1 HX.out
      have hc := HTC.out w1 HX.out
      go_wp2
      go_ret
      exact ⟨rfl, HX.out⟩
  · replace HLK := Lib.hid (HLK.out (fun h => hab h.1))
    have q1 := str_neb hab
    have q2 := str_ne hab
    clear hab HY HNO
    have hl := HLK.out w (Below.refl _ _)
    have hc := HTC.out w (Below.refl _ _)
    go_enter Tryd.func55, Tryd.ntmps55
    go_wp2_with fail
    refine (HMD.out).mono ?_
    rintro e w9 ⟨rfl, rfl⟩
    go_wp2
    go_ret
    exact ⟨rfl, Below.refl _ _⟩
end Go.Proofs.YtpnchfigehgkgaaDoor
namespace Go.Proofs.YtpnchfigehgkgaaDoor
set_option linter.unusedSimpArgs false
set_option linter.unusedVariables false
open Go.RowKit
def startA (x : Int) : Int := if x = 1 then 1 else 0
def startK (x : Int) : Bool := decide (x = 1 ∨ x = 0)
def startV (x : Int) : Value := .tuple #[.int .i64 (startA x), .bool (startK x)]
theorem pstart_any (x : Int) (w : World) : Calls Tryd.prog 47 #[.int .i64 x] w fun e w' => e = .returned (startV x) ∧ w = w' := by
  by_cases h1 : x = 1
  · subst h1
    go_enter Tryd.func47, Tryd.ntmps47
    go_wp2
    go_ret2
    exact ⟨rfl, rfl⟩
  · by_cases h0 : x = 0
    · subst h0
      go_enter Tryd.func47, Tryd.ntmps47
      go_wp2
      go_ret2
      exact ⟨rfl, rfl⟩
    · have hv : startV x = .tuple #[.int .i64 0, .bool false] := by unfold startV startA startK; simp [h1, h0]
      rw [hv]
      have q1 : (x == 1) = false := by simpa using h1
      have q0 : (x == 0) = false := by simpa using h0
      clear h1 h0 hv
      go_enter Tryd.func47, Tryd.ntmps47
      go_wp2
      go_ret2
      exact ⟨rfl, rfl⟩
theorem rstart_any (x : Int) (w : World) : Calls Tryd.prog 48 #[.int .i64 x] w fun e w' => e = .returned (startV x) ∧ w = w' := by
  by_cases h1 : x = 1
  · subst h1
    go_enter Tryd.func48, Tryd.ntmps48
    go_wp2
    go_ret2
    exact ⟨rfl, rfl⟩
  · by_cases h0 : x = 0
    · subst h0
      go_enter Tryd.func48, Tryd.ntmps48
      go_wp2
      go_ret2
      exact ⟨rfl, rfl⟩
    · have hv : startV x = .tuple #[.int .i64 0, .bool false] := by unfold startV startA startK; simp [h1, h0]
      rw [hv]
      have q1 : (x == 1) = false := by simpa using h1
      have q0 : (x == 0) = false := by simpa using h0
      clear h1 h0 hv
      go_enter Tryd.func48, Tryd.ntmps48
      go_wp2
      go_ret2
      exact ⟨rfl, rfl⟩
def rejT : T := [114, 101, 106, 101, 99, 116, 101, 100]
def staysB (s x : Int) : Bool := decide (¬ (s = 0 ∨ s = 1) ∨ x = s ∨ x < 0 ∨ 2 < x)
def turnS (s x : Int) : Int := if staysB s x = true then s else x
def turnW (s x : Int) : T := if staysB s x = false ∧ x = 2 then rejT else []
def turnV (s x : Int) : Value := .tuple #[.int .i64 (turnS s x), .string (str (turnW s x)), .bool (!staysB s x)]
theorem turn_stay {s x : Int} (h : ¬ (s = 0 ∨ s = 1) ∨ x = s ∨ x < 0 ∨ 2 < x) : turnV s x = .tuple #[.int .i64 s, .string ⟨#[]⟩, .bool false] := by
  have hb : staysB s x = true := decide_eq_true h
  unfold turnV turnS turnW
  rw [hb]
  rfl
theorem turn_go {s x : Int} (h : ¬ (¬ (s = 0 ∨ s = 1) ∨ x = s ∨ x < 0 ∨ 2 < x)) (h2 : x ≠ 2) : turnV s x = .tuple #[.int .i64 x, .string ⟨#[]⟩, .bool true] := by
  have hb : staysB s x = false := decide_eq_false h
  unfold turnV turnS turnW
  rw [hb, if_neg (by decide), if_neg (fun q => h2 q.2)]
  rfl
theorem turn_rej {s x : Int} (h : ¬ (¬ (s = 0 ∨ s = 1) ∨ x = s ∨ x < 0 ∨ 2 < x)) (h2 : x = 2) : turnV s x = .tuple #[.int .i64 2, .string ⟨#[114, 101, 106, 101, 99, 116, 101, 100]⟩, .bool true] := by
  have hb : staysB s x = false := decide_eq_false h
  unfold turnV turnS turnW
  rw [hb, if_neg (by decide), if_pos ⟨rfl, h2⟩, h2]
  rfl
theorem turn_twice (s x : Int) : staysB (turnS s x) x = true := by
  unfold turnS
  split
  · assumption
  · rename_i h
    unfold staysB
    exact decide_eq_true (by right; left; rfl)
set_option maxHeartbeats 2000000 in
theorem pturn_any (s x : Int) (w : World) : Calls Tryd.prog 49 #[.int .i64 s, .int .i64 x] w fun e w' => e = .returned (turnV s x) ∧ w = w' := by
  have HS := Lib.hid (pstart_any x w)
  unfold startV at HS
  by_cases hs : s = 0 ∨ s = 1
  · by_cases hx : x = s
    · rw [turn_stay (.inr (.inl hx))]
      subst hx
      generalize startA x = A at *
      generalize startK x = K at *
      rcases hs with rfl | rfl
      all_goals
        go_enter Tryd.func49, Tryd.ntmps49
        go_wp2_with fail
        refine (HS.out).mono ?_
        rintro e w1 ⟨rfl, rfl⟩
        go_wp2
        go_ret3
        exact ⟨rfl, rfl⟩
    · by_cases hl : x < 0 ∨ 2 < x
      · rw [turn_stay (.inr (.inr hl))]
        have q0 : (x == s) = false := by simpa using hx
        generalize startA x = A at *
        generalize startK x = K at *
        clear hx
        rcases hl with hl | hl
        all_goals
          rcases hs with rfl | rfl
          all_goals
            go_enter Tryd.func49, Tryd.ntmps49
            go_wp2_with fail
            refine (HS.out).mono ?_
            rintro e w1 ⟨rfl, rfl⟩
            go_wp2
            go_ret3
            exact ⟨rfl, rfl⟩
      · by_cases h2 : x = 2
        · rw [turn_rej (by omega) h2]
          subst h2
          have e1 : startA 2 = 0 := by decide
          have e2 : startK 2 = false := by decide
          rw [e1, e2] at HS
          clear e1 e2 hx hl
          rcases hs with rfl | rfl
          all_goals
            go_enter Tryd.func49, Tryd.ntmps49
            go_wp2_with fail
            refine (HS.out).mono ?_
            rintro e w1 ⟨rfl, rfl⟩
            go_wp2
            go_ret3
            exact ⟨rfl, rfl⟩
        · rw [turn_go (by omega) h2]
          have e1 : startA x = x := by unfold startA; split <;> omega
          have e2 : startK x = true := by unfold startK; exact decide_eq_true (by omega)
          rw [e1, e2] at HS
          have q0 : (x == s) = false := by simpa using hx
          have l1 : 0 ≤ x := by omega
          have l2 : x ≤ 2 := by omega
          clear e1 e2 hx hl h2
          rcases hs with rfl | rfl
          all_goals
            go_enter Tryd.func49, Tryd.ntmps49
            go_wp2_with fail
            refine (HS.out).mono ?_
            rintro e w1 ⟨rfl, rfl⟩
            go_wp2
            go_ret3
            exact ⟨rfl, rfl⟩
  · rw [turn_stay (.inl hs)]
    have q0 : (s != 0) = true := by simp; omega
    have q1 : (s != 1) = true := by simp; omega
    generalize startA x = A at *
    generalize startK x = K at *
    clear hs
    go_enter Tryd.func49, Tryd.ntmps49
    go_wp2_with fail
    refine (HS.out).mono ?_
    rintro e w1 ⟨rfl, rfl⟩
    go_wp2
    go_ret3
    exact ⟨rfl, rfl⟩
set_option maxHeartbeats 2000000 in
theorem rturn_any (s x : Int) (w : World) : Calls Tryd.prog 50 #[.int .i64 s, .int .i64 x] w fun e w' => e = .returned (turnV s x) ∧ w = w' := by
  by_cases hs : s = 0 ∨ s = 1
  · by_cases h2 : x = 2
    · rw [turn_rej (by omega) h2]
      subst h2
      rcases hs with rfl | rfl
      all_goals
        go_enter Tryd.func50, Tryd.ntmps50
        go_wp2
        go_ret3
        exact ⟨rfl, rfl⟩
    · have q2 : (x == 2) = false := by simpa using h2
      by_cases h1 : x = 1
      · subst h1
        rcases hs with rfl | rfl
        · rw [turn_go (by omega) (by omega)]
          go_enter Tryd.func50, Tryd.ntmps50
          go_wp2
          go_ret3
          exact ⟨rfl, rfl⟩
        · rw [turn_stay (by omega)]
          go_enter Tryd.func50, Tryd.ntmps50
          go_wp2
          go_ret3
          exact ⟨rfl, rfl⟩
      · have q1 : (x == 1) = false := by simpa using h1
        by_cases h0 : x = 0
        · subst h0
          rcases hs with rfl | rfl
          · rw [turn_stay (by omega)]
            go_enter Tryd.func50, Tryd.ntmps50
            go_wp2
            go_ret3
            exact ⟨rfl, rfl⟩
          · rw [turn_go (by omega) (by omega)]
            go_enter Tryd.func50, Tryd.ntmps50
            go_wp2
            go_ret3
            exact ⟨rfl, rfl⟩
        · have q0 : (x == 0) = false := by simpa using h0
          rw [turn_stay (by omega)]
          clear h0 h1 h2
          rcases hs with rfl | rfl
          all_goals
            go_enter Tryd.func50, Tryd.ntmps50
            go_wp2
            go_ret3
            exact ⟨rfl, rfl⟩
  · rw [turn_stay (.inl hs)]
    have q0 : (s != 0) = true := by simp; omega
    have q1 : (s != 1) = true := by simp; omega
    clear hs
    go_enter Tryd.func50, Tryd.ntmps50
    go_wp2
    go_ret3
    exact ⟨rfl, rfl⟩
def aT : T := [97, 64, 98]
def cT : T := [99, 64, 100]
def xT : T := [120, 64, 121]
def exR : Rule := ⟨aT, cT, 1⟩
theorem nameA : nameB aT = true := by decide +kernel
theorem nameC : nameB cT = true := by decide +kernel
theorem exS : RuleS exR := ⟨by decide, by decide⟩
theorem exSet : setE [] exR = 0 ∧ setL [] exR = mput (keyR exR) (.int .i64 1) [] :=
  set_put (chk_ok.2 ⟨nameA, nameC, by decide, by decide⟩) (by decide) (by simp)
theorem exAsk1 : askV (setL [] exR) aT cT = 1 := by
  rw [exSet.2]; unfold askV; rw [if_neg (by decide)]; simp [mput, mget, keyR, exR, intV]
theorem exAsk2 : askV (setL [] exR) aT xT = 0 := by
  rw [exSet.2]; unfold askV; rw [if_neg (by decide)]
  have : (str aT, str cT) ≠ (str aT, str xT) := fun e => by
    have := str_inj (congrArg Prod.snd e); exact absurd this (by decide)
  simp [mput, mget, keyR, exR, intV, this]
theorem exAsk3 : askV (setL [] exR) aT aT = 1 := by unfold askV; rw [if_pos ⟨rfl, nameA⟩]
set_option maxRecDepth 100000 in
set_option maxHeartbeats 4000000 in
theorem awake20 (w : World) : Calls Tryd.prog 51 #[] w (TruePost w) := by
  have HNW := Lib.hid (pnew_any w)
  have HTU : Hid (∀ W, Calls Tryd.prog 49 #[.int .i64 1, .int .i64 2] W fun e w' => e = .returned (.tuple #[.int .i64 2, .string ⟨#[114, 101, 106, 101, 99, 116, 101, 100]⟩, .bool true]) ∧ W = w') := Lib.hid (fun W => by
    have h := pturn_any 1 2 W
    rw [turn_rej (by decide) rfl] at h
    exact h)
  go_enter Tryd.func51, Tryd.ntmps51
  go_wp2_with fail
  refine (HNW.out).mono ?_
  rintro e w1 ⟨p, F, rfl, hT, hb, hF⟩
  have HB1 := Lib.hid hb
  have HF := Lib.hid hF
  have HSET := Lib.hid (pset_any exS hT)
  have HTB := Lib.hid hT
  clear hT hb hF
  go_wp2_with fail
  refine (HSET.out).mono ?_
  rintro e w2 ⟨rfl, hT, hf⟩
  rw [exSet.1]
  have HB2 : Hid (Below w.heap.size w w2) := Lib.hid (HB1.out.trans (hf.to_below HB1.out.size HF.out))
  have HA1 := Lib.hid (pask_any (a := aT) (b := cT) (by decide) hT)
  have HT2 := Lib.hid hT
  rw [exAsk1] at HA1
  clear hT hf
  go_wp2_with fail
  refine (HTU.out _).mono ?_
  rintro e w9 ⟨rfl, rfl⟩
  go_wp2_with fail
  refine (HA1.out).mono ?_
  rintro e w3 ⟨rfl, hb⟩
  have HT3 := Lib.hid (HT2.out.below hb)
  have HB3 := Lib.hid (thenB HB2.out hb)
  have HA2 := Lib.hid (pask_any (a := aT) (b := xT) (by decide) HT3.out)
  rw [exAsk2] at HA2
  clear hb
  go_wp2_with fail
  refine (HA2.out).mono ?_
  rintro e w4 ⟨rfl, hb⟩
  have HT4 := Lib.hid (HT3.out.below hb)
  have HB4 := Lib.hid (thenB HB3.out hb)
  have HA3 := Lib.hid (pask_any (a := aT) (b := aT) (by decide) HT4.out)
  rw [exAsk3] at HA3
  clear hb
  go_wp2_with fail
  refine (HA3.out).mono ?_
  rintro e w5 ⟨rfl, hb⟩
  have HB5 := Lib.hid (thenB HB4.out hb)
  clear hb
  go_wp2
  go_ret
  exact ⟨rfl, HB5.out⟩
set_option maxRecDepth 100000 in
set_option maxHeartbeats 4000000 in
theorem policyTurns_any (s x : Int) (w : World) : Calls Tryd.prog 16 #[.int .i64 s, .int .i64 x] w (TruePost w) := by
  have HS1 : Hid (∀ W, Calls Tryd.prog 47 #[.int .i64 x] W fun e w' => e = .returned (startV x) ∧ W = w') := Lib.hid (pstart_any x)
  have HS2 : Hid (∀ W, Calls Tryd.prog 48 #[.int .i64 x] W fun e w' => e = .returned (startV x) ∧ W = w') := Lib.hid (rstart_any x)
  have HT1 : Hid (∀ W, Calls Tryd.prog 49 #[.int .i64 s, .int .i64 x] W fun e w' => e = .returned (turnV s x) ∧ W = w') := Lib.hid (pturn_any s x)
  have HT2 : Hid (∀ W, Calls Tryd.prog 50 #[.int .i64 s, .int .i64 x] W fun e w' => e = .returned (turnV s x) ∧ W = w') := Lib.hid (rturn_any s x)
  have HT3 : Hid (∀ W, Calls Tryd.prog 49 #[.int .i64 (turnS s x), .int .i64 x] W fun e w' => e = .returned (.tuple #[.int .i64 (turnS s x), .string ⟨#[]⟩, .bool false]) ∧ W = w') := Lib.hid (fun W => by
    have h := pturn_any (turnS s x) x W
    have ht := of_decide_eq_true (turn_twice s x)
    rw [turn_stay ht] at h
    exact h)
  have HST : Hid (startK x = false → startA x = 0) := Lib.hid (fun h => by
    unfold startK at h; unfold startA
    have := of_decide_eq_false h
    rw [if_neg (by omega)])
  have HAW := Lib.hid awake20
  unfold startV at HS1 HS2
  unfold turnV at HT1 HT2
  generalize turnS s x = C at *
  generalize turnW s x = Y at *
  generalize (!staysB s x) = D at *
  generalize startA x = A at *
  generalize startK x = K at *
  have qA : (A != A) = false := by simp
  have qC : (C != C) = false := by simp
  have qC2 : (C == C) = true := beq_self_eq_true _
  have qY : ((str Y).toList != (str Y).toList) = false := by simp
  have qY2 : ((str Y).toList == (str Y).toList) = true := beq_self_eq_true _
  have qD : (D != D) = false := by simp
  cases K with
  | true =>
    clear HST
    go_enter Tryd.func16, Tryd.ntmps16
    go_wp2_with fail
    refine (HS1.out _).mono ?_
    rintro e w1 ⟨rfl, rfl⟩
    go_wp2_with fail
    refine (HS2.out _).mono ?_
    rintro e w1 ⟨rfl, rfl⟩
    go_wp2_with fail
    refine (HT1.out _).mono ?_
    rintro e w1 ⟨rfl, rfl⟩
    go_wp2_with fail
    refine (HT2.out _).mono ?_
    rintro e w1 ⟨rfl, rfl⟩
    go_wp2_with fail
    refine (HT3.out _).mono ?_
    rintro e w1 ⟨rfl, rfl⟩
    go_wp2_with fail
    refine (HAW.out _).mono ?_
    rintro e w1 ⟨rfl, hb⟩
    have HX := Lib.hid hb
    clear hb
    go_wp2
    go_ret
    exact ⟨rfl, HX.out⟩
  | false =>
    have HA0 := HST.out rfl
    subst HA0
    clear HST
    go_enter Tryd.func16, Tryd.ntmps16
    go_wp2_with fail
    refine (HS1.out _).mono ?_
    rintro e w1 ⟨rfl, rfl⟩
    go_wp2_with fail
    refine (HS2.out _).mono ?_
    rintro e w1 ⟨rfl, rfl⟩
    go_wp2_with fail
    refine (HT1.out _).mono ?_
    rintro e w1 ⟨rfl, rfl⟩
    go_wp2_with fail
    refine (HT2.out _).mono ?_
    rintro e w1 ⟨rfl, rfl⟩
    go_wp2_with fail
    refine (HT3.out _).mono ?_
    rintro e w1 ⟨rfl, rfl⟩
    go_wp2_with fail
    refine (HAW.out _).mono ?_
    rintro e w1 ⟨rfl, hb⟩
    have HX := Lib.hid hb
    clear hb
    go_wp2
    go_ret
    exact ⟨rfl, HX.out⟩
end Go.Proofs.YtpnchfigehgkgaaDoor
namespace Go.Proofs.YtpnchfigehgkgaaDoor
set_option linter.unusedSimpArgs false
set_option linter.unusedVariables false
open Go.RowKit
theorem ruleC_len (r : Rule) : (ruleC r).length = 3 := rfl
theorem rul_at {w : World} {B : Nat} {A : Option Addr} {l : List Rule} (h : RdB w B 3 l.length A (rows ruleC l)) {i : Nat} (hi : i < l.length) :
    ∃ gb off, A = some ⟨gb, off, none⟩ ∧ gb < B ∧ w.cell? ⟨gb, off + i * 3, none⟩ = some (.string (str l[i].who)) ∧ w.cell? ⟨gb, off + i * 3 + 1, none⟩ = some (.string (str l[i].watcher)) ∧ w.cell? ⟨gb, off + i * 3 + 2, none⟩ = some (.int .i64 l[i].what) := by
  obtain ⟨gb, off, e, hlt, hc⟩ := h.at_ (by omega)
  have hr := fun j hj => rows_at ruleC_len hi (j := j) hj
  refine ⟨gb, off, e, hlt, ?_, ?_, ?_⟩
  · exact hc _ _ (by have := hr 0 (by omega); rw [Nat.add_zero] at this; rw [this]; rfl)
  · rw [Nat.add_assoc]; exact hc _ _ (by rw [hr 1 (by omega)]; rfl)
  · rw [Nat.add_assoc]; exact hc _ _ (by rw [hr 2 (by omega)]; rfl)
theorem rname_any {s : T} (hs : s.length ≤ 99999990) (w : World) : Calls Tryd.prog 54 #[.string (str s)] w (BoolPost (nameB s) w) := by
  have HH : Hid (Calls Tryd.prog 46 #[.string (str s)] w (HostPost s w)) := Lib.hid (srHost_any hs)
  have HN : Hid (∀ r, hostE s = r → nameB s = decide (r.2 = 0)) := Lib.hid (fun r h => by unfold nameB; rw [h])
  unfold HostPost hostV at HH
  generalize hr : hostE s = r at *
  obtain ⟨H, G⟩ := r
  have HN := Lib.hid (HN.out (H, G) rfl)
  unfold BoolPost
  generalize nameB s = N at *
  clear hr
  simp only at HH HN
  by_cases hg : G = 0
  · subst hg
    obtain rfl : N = true := by simpa using HN.out
    go_enter Tryd.func54, Tryd.ntmps54
    go_wp2_with fail
    refine (HH.out).mono ?_
    rintro e w1 ⟨rfl, hb⟩
    have HB := Lib.hid hb
    clear hb
    go_wp2
    go_ret
    exact ⟨rfl, HB.out⟩
  · obtain rfl : N = false := by have := HN.out; simpa [hg] using this
    have q : (G == 0) = false := by simpa using hg
    clear hg
    go_enter Tryd.func54, Tryd.ntmps54
    go_wp2_with fail
    refine (HH.out).mono ?_
    rintro e w1 ⟨rfl, hb⟩
    have HB := Lib.hid hb
    clear hb
    go_wp2
    go_ret
    exact ⟨rfl, HB.out⟩
/-! ### what was set last -/
def runL (l : List Rule) : KV := l.foldl setL []
theorem runL_succ {l : List Rule} {k : Nat} (h : k < l.length) : runL (l.take (k + 1)) = setL (runL (l.take k)) l[k] := by
  unfold runL
  rw [List.take_succ_eq_append_getElem h, List.foldl_append]
  rfl
def lastI (a b : T) (kv : KV) : Int := intV (mget (str a, str b) kv)
theorem ask_last (kv : KV) (a b : T) : askV kv a b = if a = b ∧ nameB a = true then 1 else lastI a b kv := rfl
theorem runP (l : List Rule) : KvP (runL l) := by
  unfold runL
  have : ∀ (l : List Rule) (kv : KV), KvP kv → KvP (l.foldl setL kv) := by
    intro l
    induction l with
    | nil => intro kv h; exact h
    | cons r t ih => intro kv h; exact ih _ (h.set r)
  exact this l [] KvP.nil
theorem last_set {kv : KV} (H : KvP kv) {r : Rule} (h : setE kv r = 0) : lastI r.who r.watcher (setL kv r) = r.what := by
  have hk : chkR r = 0 := by
    rcases chk_01 r with q | q
    · exact q
    · have := (set_bad (kv := kv) (r := r) (by omega)).1; omega
  unfold lastI
  by_cases h0 : r.what = 0
  · rw [(set_del hk h0).2, mdel_get H.nd]
    unfold keyR
    rw [if_pos rfl, h0]
    rfl
  · by_cases hf : mget (keyR r) kv = none ∧ 500 ≤ kv.length
    · have := (set_full hk h0 hf).1; omega
    · rw [(set_put hk h0 hf).2, mget_put]
      unfold keyR
      rw [if_pos rfl]
      rfl
theorem last_same {kv : KV} (H : KvP kv) {r : Rule} {a b : T} (h : ¬ (setE kv r = 0 ∧ r.who = a ∧ r.watcher = b)) : lastI a b (setL kv r) = lastI a b kv := by
  have hne : setE kv r = 0 → (str a, str b) ≠ keyR r := fun h0 e => h ⟨h0, (str_inj (congrArg Prod.fst e)).symm, (str_inj (congrArg Prod.snd e)).symm⟩
  unfold lastI
  by_cases hk : chkR r = 0
  · by_cases h0 : r.what = 0
    · have he := set_del (kv := kv) hk h0
      rw [he.2, mdel_get H.nd, if_neg (hne he.1)]
    · by_cases hf : mget (keyR r) kv = none ∧ 500 ≤ kv.length
      · rw [(set_full hk h0 hf).2]
      · have he := set_put (kv := kv) hk h0 hf
        rw [he.2, mget_put, if_neg (hne he.1)]
  · rw [(set_bad hk).2]
structure LastRel (l : List Rule) (a b : T) (w : World) (p : Nat) (F : Nat → Prop) (k : Nat) (v : Value) (wr : World) : Prop where
  v : v = .int .i64 (lastI a b (runL (l.take k)))
  tb : Tb wr p (runL (l.take k)) F
  be : Below w.heap.size w wr
set_option maxRecDepth 100000 in
set_option maxHeartbeats 8000000 in
theorem policyLast_any {l : List Rule} {a b : T} {A : Option Addr} {c : Nat} {w : World} (hr : RdB w w.heap.size 3 l.length A (rows ruleC l)) (hl : l.length ≤ maxLen) (hs : ∀ r ∈ l, RuleS r) (ha : a.length ≤ 99999990) :
    Calls Tryd.prog 17 #[.slice A l.length c, .string (str a), .string (str b)] w (TruePost w) := by
  have HA := Lib.hid awake20
  have HR := Lib.hid hr
  have HS := Lib.hid hs
  have HNA := Lib.hid (rname_any ha)
  have HNW := Lib.hid (pnew_any w)
  have HASK : Hid (∀ {w : World} {p : Nat} {kv : KV} {F : Nat → Prop}, Tb w p kv F → Calls Tryd.prog 55 #[.pointer (some ⟨p, 0, none⟩), .string (str a), .string (str b)] w (PAskPost (askV kv a b) w)) := Lib.hid (fun H => pask_any ha H)
  unfold maxLen at hl
  clear hr hs ha
  go_enter Tryd.func17, Tryd.ntmps17
  by_cases h2 : (200 : Int) < l.length
  · go_wp2_with fail
    refine (HA.out _).mono ?_
    rintro e w1 ⟨rfl, hb⟩
    have HX := Lib.hid hb
    clear hb
    go_wp2
    go_ret
    exact ⟨rfl, HX.out⟩
  · have hl2 : l.length ≤ 200 := by omega
    go_wp2_with fail
    refine (HNW.out).mono ?_
    rintro e w1 ⟨p, F, rfl, hT, hb, hF⟩
    have HF := Lib.hid hF
    have H0 : Hid (LastRel l a b w p F 0 (.int .i64 0) w1) := Lib.hid ⟨rfl, hT, hb⟩
    clear hT hb hF h2
    go_wp2
    go_loopw [8, 9] (fun v i wr => ∃ k : Nat, k ≤ l.length ∧ i = .int .i64 k ∧ LastRel l a b w p F k v wr) (fun _ i _ => l.length - (intOf i).toNat)
    case atStart => exact ⟨0, Nat.zero_le _, rfl, H0.out⟩
    case round =>
      obtain ⟨k, hk, rfl, hR⟩ := hrel
      obtain ⟨rfl, hT, hB⟩ := hR
      have HT := Lib.hid hT
      have HB := Lib.hid hB
      by_cases hlt : k < l.length
      · obtain ⟨gb, off, hA, hgb, _, _, _⟩ := rul_at HR.out hlt
        subst hA
        have HZ : Hid (∀ W, Below w.heap.size w W → W.cell? ⟨gb, off + k * 3, none⟩ = some (.string (str l[k].who)) ∧ W.cell? ⟨gb, off + k * 3 + 1, none⟩ = some (.string (str l[k].watcher)) ∧ W.cell? ⟨gb, off + k * 3 + 2, none⟩ = some (.int .i64 l[k].what)) := Lib.hid (fun W hW => by
          obtain ⟨gb', off', e, _, z0, z1, z2⟩ := rul_at (HR.out.below hW) hlt
          injection e with e
          injection e with e1 e2
          subst e1; subst e2
          exact ⟨z0, z1, z2⟩)
        have HSET := Lib.hid (pset_any (HS.out l[k] (List.getElem_mem hlt)) HT.out)
        have HKP := Lib.hid (runP (l.take k))
        have HNX : Hid (∀ v W, Tb W p (setL (runL (l.take k)) l[k]) F → Fr F wr W → v = .int .i64 (lastI a b (setL (runL (l.take k)) l[k])) → LastRel l a b w p F (k + 1) v W) := Lib.hid (fun v W h1 h2 h3 => by
          refine ⟨?_, ?_, HB.out.trans (h2.to_below HB.out.size HF.out)⟩
          · rw [runL_succ hlt]; exact h3
          · rw [runL_succ hlt]; exact h1)
        have HBN : Hid (∀ W, Fr F wr W → Below w.heap.size w W) := Lib.hid (fun W h => HB.out.trans (h.to_below HB.out.size HF.out))
        have x0 : (0 : Int) ≤ k := by omega
        have x1 : (k : Int) < l.length := by omega
        generalize hkv : runL (l.take k) = kv at *
        generalize hrk : l[k] = r at *
        obtain ⟨z0, z1, z2⟩ := HZ.out wr HB.out
        clear hT hB hkv hrk
        have HV1 := Lib.hid (fun h => last_set (r := r) HKP.out h)
        have HV2 := Lib.hid (fun h => last_same (r := r) (a := a) (b := b) HKP.out h)
        unfold PSetPost at HSET
        generalize setL kv r = KV1 at *
        by_cases he : setE kv r = 0
        · have HV1 := Lib.hid (HV1.out he)
          rw [he] at HSET
          by_cases hw : r.who = a
          · by_cases hv : r.watcher = b
            · rw [hw, hv] at HV1
              have q1 : ((str a).toList == (str a).toList) = true := beq_self_eq_true _
              have q2 : ((str b).toList == (str b).toList) = true := beq_self_eq_true _
              have HV := Lib.hid HV1.out
              rw [hw, hv] at HSET HZ
              rw [hw] at z0
              rw [hv] at z1
              clear he HV2 HV1 hw hv HKP
              go_wp2_with fail
              refine (HSET.out).mono ?_
              rintro e w2 ⟨rfl, hT2, hf2⟩
              have HE := Lib.hid (HNX.out _ w2 hT2 hf2 rfl)
              rw [HV.out] at HE
              obtain ⟨z0, z1, z2⟩ := HZ.out w2 (HBN.out w2 hf2)
              clear hT2 hf2
              go_wp2
              go_roundw
              case rel => exact ⟨k + 1, by omega, by go_num, HE.out⟩
              case measure => simp [intOf] <;> omega
            · have HV := Lib.hid (HV2.out (fun h => hv h.2.2))
              have q1 : ((str a).toList == (str a).toList) = true := beq_self_eq_true _
              have q2 := str_neb hv
              have q3 := str_ne hv
              rw [hw] at HSET HZ z0
              clear he HV2 HV1 hw hv HKP
              go_wp2_with fail
              refine (HSET.out).mono ?_
              rintro e w2 ⟨rfl, hT2, hf2⟩
              have HE := Lib.hid (HNX.out _ w2 hT2 hf2 rfl)
              rw [HV.out] at HE
              obtain ⟨z0, z1, z2⟩ := HZ.out w2 (HBN.out w2 hf2)
              clear hT2 hf2
              go_wp2
              go_roundw
              case rel => exact ⟨k + 1, by omega, by go_num, HE.out⟩
              case measure => simp [intOf] <;> omega
          · have HV := Lib.hid (HV2.out (fun h => hw h.2.1))
            have q2 := str_neb hw
            have q3 := str_ne hw
            clear he HV2 HV1 hw HKP
            go_wp2_with fail
            refine (HSET.out).mono ?_
            rintro e w2 ⟨rfl, hT2, hf2⟩
            have HE := Lib.hid (HNX.out _ w2 hT2 hf2 rfl)
            rw [HV.out] at HE
            obtain ⟨z0, z1, z2⟩ := HZ.out w2 (HBN.out w2 hf2)
            clear hT2 hf2
            go_wp2
            go_roundw
            case rel => exact ⟨k + 1, by omega, by go_num, HE.out⟩
            case measure => simp [intOf] <;> omega
        · have HV := Lib.hid (HV2.out (fun h => he h.1))
          have q2 : (setE kv r == 0) = false := by simpa using he
          generalize setE kv r = E at *
          clear he HV2 HV1 HKP
          go_wp2_with fail
          refine (HSET.out).mono ?_
          rintro e w2 ⟨rfl, hT2, hf2⟩
          have HE := Lib.hid (HNX.out _ w2 hT2 hf2 rfl)
          rw [HV.out] at HE
          obtain ⟨z0, z1, z2⟩ := HZ.out w2 (HBN.out w2 hf2)
          clear hT2 hf2
          go_wp2
          go_roundw
          case rel => exact ⟨k + 1, by omega, by go_num, HE.out⟩
          case measure => simp [intOf] <;> omega
      · obtain rfl : k = l.length := by omega
        generalize runL (l.take l.length) = kv at *
        have HAS : Hid (∀ W, Below wr.heap.size wr W → Calls Tryd.prog 55 #[.pointer (some ⟨p, 0, none⟩), .string (str a), .string (str b)] W (PAskPost (askV kv a b) W)) := Lib.hid (fun W hW => HASK.out (HT.out.below hW))
        unfold PAskPost at HAS
        have HV1 : Hid (a = b → nameB a = true → askV kv a b = 1) := Lib.hid (fun h1 h2 => by rw [ask_last, if_pos ⟨h1, h2⟩])
        have HV2 : Hid (¬ (a = b ∧ nameB a = true) → askV kv a b = lastI a b kv) := Lib.hid (fun h => by rw [ask_last, if_neg h])
        unfold BoolPost at HNA
        generalize askV kv a b = V at *
        generalize lastI a b kv = L at *
        generalize nameB a = N at *
        have qL : (L == L) = true := beq_self_eq_true _
        clear hT hB HASK
        by_cases hab : a = b
        · subst hab
          have q1 : ((str a).toList == (str a).toList) = true := beq_self_eq_true _
          cases N with
          | true =>
            have HV := Lib.hid (HV1.out rfl rfl)
            have hv := HV.out
            subst hv
            clear HV1 HV2
            go_wp2_with fail
            refine (HNA.out _).mono ?_
            rintro e w2 ⟨rfl, hb2⟩
            have HX2 := Lib.hid hb2
            clear hb2
            go_wp2_with fail
            refine (HAS.out _ HX2.out).mono ?_
            rintro e w3 ⟨rfl, hb3⟩
            have HX3 := Lib.hid (thenB (thenB HB.out HX2.out) hb3)
            clear hb3
            go_wp2_with fail
            refine (HA.out _).mono ?_
            rintro e w4 ⟨rfl, hb4⟩
            have HX4 := Lib.hid (thenB HX3.out hb4)
            clear hb4
            go_wp2
            go_ret
            exact ⟨rfl, HX4.out⟩
          | false =>
            have HV := Lib.hid (HV2.out (by simp))
            have hv := HV.out
            subst hv
            clear HV1 HV2
            go_wp2_with fail
            refine (HNA.out _).mono ?_
            rintro e w2 ⟨rfl, hb2⟩
            have HX2 := Lib.hid hb2
            clear hb2
            go_wp2_with fail
            refine (HAS.out _ HX2.out).mono ?_
            rintro e w3 ⟨rfl, hb3⟩
            have HX3 := Lib.hid (thenB (thenB HB.out HX2.out) hb3)
            clear hb3
            go_wp2_with fail
            refine (HA.out _).mono ?_
            rintro e w4 ⟨rfl, hb4⟩
            have HX4 := Lib.hid (thenB HX3.out hb4)
            clear hb4
            go_wp2
            go_ret
            exact ⟨rfl, HX4.out⟩
        · have HV := Lib.hid (HV2.out (fun h => hab h.1))
          have hv := HV.out
          subst hv
          have q2 := str_neb hab
          have q3 := str_ne hab
          clear HV1 HV2 hab
          go_wp2_with fail
          refine (HAS.out _ (Below.refl _ _)).mono ?_
          rintro e w3 ⟨rfl, hb3⟩
          have HX3 := Lib.hid (thenB HB.out hb3)
          clear hb3
          go_wp2_with fail
          refine (HA.out _).mono ?_
          rintro e w4 ⟨rfl, hb4⟩
          have HX4 := Lib.hid (thenB HX3.out hb4)
          clear hb4
          go_wp2
          go_ret
          exact ⟨rfl, HX4.out⟩
end Go.Proofs.YtpnchfigehgkgaaDoor
namespace Go.Proofs.YtpnchfigehgkgaaDoor
set_option linter.unusedSimpArgs false
set_option linter.unusedVariables false
open Go.RowKit
def KvN (kv : KV) : Prop := ∀ x ∈ kv, nameB x.1.1.data.toList = true
theorem KvN.set {kv : KV} (H : KvN kv) (r : Rule) : KvN (setL kv r) := by
  by_cases hk : chkR r = 0
  · by_cases h0 : r.what = 0
    · rw [(set_del hk h0).2]; exact fun x hx => H x ((mdel_sub _ _).subset hx)
    · by_cases hf : mget (keyR r) kv = none ∧ 500 ≤ kv.length
      · rw [(set_full hk h0 hf).2]; exact H
      · rw [(set_put hk h0 hf).2]
        intro x hx
        rcases mput_mem hx with q | q
        · rw [q]; exact (chk_ok.1 hk).1
        · exact H x q
  · rw [(set_bad hk).2]; exact H
theorem runN (l : List Rule) : KvN (runL l) := by
  unfold runL
  have : ∀ (l : List Rule) (kv : KV), KvN kv → KvN (l.foldl setL kv) := by
    intro l
    induction l with
    | nil => intro kv h; exact h
    | cons r t ih => intro kv h; exact ih _ (h.set r)
  exact this l [] (fun x hx => by cases hx)
theorem ask_self {kv : KV} (H : KvN kv) (a : T) : askV kv a a = if nameB a = true then 1 else 0 := by
  rw [ask_last]
  by_cases h : nameB a = true
  · rw [if_pos ⟨rfl, h⟩, if_pos h]
  · rw [if_neg (fun q => h q.2), if_neg h]
    unfold lastI
    rw [mget_none (fun hm => ?_)]
    · rfl
    · obtain ⟨x, hx, e⟩ := List.mem_map.1 hm
      have := H x hx
      rw [e] at this
      exact h this
structure SelfRel (l : List Rule) (w : World) (p : Nat) (F : Nat → Prop) (k : Nat) (wr : World) : Prop where
  tb : Tb wr p (runL (l.take k)) F
  be : Below w.heap.size w wr
set_option maxRecDepth 100000 in
set_option maxHeartbeats 8000000 in
theorem policySelf_any {l : List Rule} {a : T} {A : Option Addr} {c : Nat} {w : World} (hr : RdB w w.heap.size 3 l.length A (rows ruleC l)) (hl : l.length ≤ maxLen) (hs : ∀ r ∈ l, RuleS r) (ha : a.length ≤ 99999990) :
    Calls Tryd.prog 18 #[.slice A l.length c, .string (str a)] w (TruePost w) := by
  have HA := Lib.hid awake20
  have HR := Lib.hid hr
  have HS := Lib.hid hs
  have HNA := Lib.hid (rname_any ha)
  have HNW := Lib.hid (pnew_any w)
  have HASK : Hid (∀ {w : World} {p : Nat} {kv : KV} {F : Nat → Prop}, Tb w p kv F → Calls Tryd.prog 55 #[.pointer (some ⟨p, 0, none⟩), .string (str a), .string (str a)] w (PAskPost (askV kv a a) w)) := Lib.hid (fun H => pask_any ha H)
  have HST : Hid (∀ x W, Calls Tryd.prog 47 #[.int .i64 x] W fun e w' => e = .returned (startV x) ∧ W = w') := Lib.hid pstart_any
  unfold maxLen at hl
  clear hr hs ha
  go_enter Tryd.func18, Tryd.ntmps18
  by_cases h2 : (200 : Int) < l.length
  · go_wp2_with fail
    refine (HA.out _).mono ?_
    rintro e w1 ⟨rfl, hb⟩
    have HX := Lib.hid hb
    clear hb
    go_wp2
    go_ret
    exact ⟨rfl, HX.out⟩
  · have hl2 : l.length ≤ 200 := by omega
    go_wp2_with fail
    refine (HNW.out).mono ?_
    rintro e w1 ⟨p, F, rfl, hT, hb, hF⟩
    have HF := Lib.hid hF
    have H0 : Hid (SelfRel l w p F 0 w1) := Lib.hid ⟨hT, hb⟩
    clear hT hb hF h2
    go_wp2
    go_loopw [6] (fun i wr => ∃ k : Nat, k ≤ l.length ∧ i = .int .i64 k ∧ SelfRel l w p F k wr) (fun i _ => l.length - (intOf i).toNat)
    case atStart => exact ⟨0, Nat.zero_le _, rfl, H0.out⟩
    case round =>
      obtain ⟨k, hk, rfl, hR⟩ := hrel
      obtain ⟨hT, hB⟩ := hR
      have HT := Lib.hid hT
      have HB := Lib.hid hB
      by_cases hlt : k < l.length
      · obtain ⟨gb, off, hA, hgb, z0, z1, z2⟩ := rul_at (HR.out.below HB.out) hlt
        subst hA
        have HSET := Lib.hid (pset_any (HS.out l[k] (List.getElem_mem hlt)) HT.out)
        have HNX : Hid (∀ W, Tb W p (setL (runL (l.take k)) l[k]) F → Fr F wr W → SelfRel l w p F (k + 1) W) := Lib.hid (fun W h1 h2 =>
          ⟨by rw [runL_succ hlt]; exact h1, HB.out.trans (h2.to_below HB.out.size HF.out)⟩)
        have x0 : (0 : Int) ≤ k := by omega
        have x1 : (k : Int) < l.length := by omega
        generalize hkv : runL (l.take k) = kv at *
        generalize hrk : l[k] = r at *
        clear hT hB hkv hrk
        unfold PSetPost at HSET
        generalize setL kv r = KV1 at *
        generalize setE kv r = E at *
        go_wp2_with fail
        refine (HSET.out).mono ?_
        rintro e w2 ⟨rfl, hT2, hf2⟩
        have HE := Lib.hid (HNX.out w2 hT2 hf2)
        clear hT2 hf2
        go_wp2
        go_roundw
        case rel => exact ⟨k + 1, by omega, by go_num, HE.out⟩
        case measure => simp [intOf] <;> omega
      · obtain rfl : k = l.length := by omega
        have HV := Lib.hid (ask_self (runN (l.take l.length)) a)
        generalize runL (l.take l.length) = kv at *
        have HAS : Hid (∀ W, Below wr.heap.size wr W → Calls Tryd.prog 55 #[.pointer (some ⟨p, 0, none⟩), .string (str a), .string (str a)] W (PAskPost (askV kv a a) W)) := Lib.hid (fun W hW => HASK.out (HT.out.below hW))
        unfold PAskPost at HAS
        unfold BoolPost at HNA
        clear hT hB HASK
        rw [HV.out] at HAS
        clear HV
        generalize nameB a = N at *
        cases N with
        | true =>
          rw [if_pos rfl] at HAS
          have HST := Lib.hid (HST.out 1)
          rw [show startV 1 = .tuple #[.int .i64 1, .bool true] from rfl] at HST
          go_wp2_with fail
          refine (HAS.out _ (Below.refl _ _)).mono ?_
          rintro e w2 ⟨rfl, hb2⟩
          have HX2 := Lib.hid hb2
          clear hb2
          go_wp2_with fail
          refine (HST.out _).mono ?_
          rintro e w9 ⟨rfl, rfl⟩
          go_wp2_with fail
          refine (HNA.out _).mono ?_
          rintro e w3 ⟨rfl, hb3⟩
          have HX3 := Lib.hid (thenB HX2.out hb3)
          clear hb3
          go_wp2_with fail
          refine (HAS.out _ HX3.out).mono ?_
          rintro e w4 ⟨rfl, hb4⟩
          have HX4 := Lib.hid (thenB (thenB HB.out HX3.out) hb4)
          clear hb4
          go_wp2_with fail
          refine (HA.out _).mono ?_
          rintro e w5 ⟨rfl, hb5⟩
          have HX5 := Lib.hid (thenB HX4.out hb5)
          clear hb5
          go_wp2
          go_ret
          exact ⟨rfl, HX5.out⟩
        | false =>
          rw [if_neg (by decide)] at HAS
          have HST := Lib.hid (HST.out 0)
          rw [show startV 0 = .tuple #[.int .i64 0, .bool true] from rfl] at HST
          go_wp2_with fail
          refine (HAS.out _ (Below.refl _ _)).mono ?_
          rintro e w2 ⟨rfl, hb2⟩
          have HX2 := Lib.hid hb2
          clear hb2
          go_wp2_with fail
          refine (HST.out _).mono ?_
          rintro e w9 ⟨rfl, rfl⟩
          go_wp2_with fail
          refine (HNA.out _).mono ?_
          rintro e w3 ⟨rfl, hb3⟩
          have HX3 := Lib.hid (thenB HX2.out hb3)
          clear hb3
          go_wp2_with fail
          refine (HAS.out _ HX3.out).mono ?_
          rintro e w4 ⟨rfl, hb4⟩
          have HX4 := Lib.hid (thenB (thenB HB.out HX3.out) hb4)
          clear hb4
          go_wp2_with fail
          refine (HA.out _).mono ?_
          rintro e w5 ⟨rfl, hb5⟩
          have HX5 := Lib.hid (thenB HX4.out hb5)
          clear hb5
          go_wp2
          go_ret
          exact ⟨rfl, HX5.out⟩
end Go.Proofs.YtpnchfigehgkgaaDoor
namespace Go.Proofs.YtpnchfigehgkgaaDoor
set_option linter.unusedSimpArgs false
set_option linter.unusedVariables false
open Go.RowKit
def NoP (w : World) (v : Value) : Prop := v = .pointer none ∨ ∃ p, v = .pointer (some ⟨p, 0, none⟩) ∧ Blk w p 77 #[.map none]
theorem NoP.below {w w' : World} {v : Value} (h : NoP w v) (hb : Below w.heap.size w w') : NoP w' v := by
  rcases h with h | ⟨p, h, hB⟩
  · exact .inl h
  · exact .inr ⟨p, h, hB.fr (Fr.of_below (F := fun _ => False) hb) (fun h => h)⟩
theorem pmade_no {w : World} {v : Value} (h : NoP w v) : Calls Tryd.prog 90 #[v] w fun e w' => e = .returned (.bool false) ∧ w = w' := by
  rcases h with rfl | ⟨p, rfl, hB⟩
  · exact pmade_nil w
  · exact pmade_zero hB
def PNo (v : Value) (w : World) (e : Ending) (w' : World) : Prop := e = .returned v ∧ Below w.heap.size w w'
theorem pset_no {w : World} {v : Value} (h : NoP w v) (k1 k2 : ByteArray) (n : Int) : Calls Tryd.prog 53 #[v, .agg #[.string k1, .string k2, .int .i64 n]] w (PNo (.int .i64 3) w) := by
  have hm := Lib.hid (pmade_no (h.below ((Below.refl _ _).alloc (Nat.le_refl _) (.cells #[.string k1, .string k2, .int .i64 n] 68))))
  go_enter Tryd.func53, Tryd.ntmps53
  go_wp2_with fail
  refine (hm.out).mono ?_
  rintro e w' ⟨rfl, rfl⟩
  go_wp2
  go_ret
  exact ⟨rfl, (Below.refl _ _).alloc (Nat.le_refl _) _⟩
theorem pask_no {w : World} {v : Value} (h : NoP w v) (k1 k2 : ByteArray) : Calls Tryd.prog 55 #[v, .string k1, .string k2] w fun e w' => e = .returned (.int .i64 0) ∧ w = w' := by
  have hm := Lib.hid (pmade_no h)
  go_enter Tryd.func55, Tryd.ntmps55
  go_wp2_with fail
  refine (hm.out).mono ?_
  rintro e w' ⟨rfl, rfl⟩
  go_wp2
  go_ret
  exact ⟨rfl, rfl⟩
theorem pall_no {w : World} {v : Value} (h : NoP w v) : Calls Tryd.prog 56 #[v] w fun e w' => e = .returned (.slice none 0 0) ∧ w = w' := by
  have hm := Lib.hid (pmade_no h)
  go_enter Tryd.func56, Tryd.ntmps56
  go_wp2_with fail
  refine (hm.out).mono ?_
  rintro e w' ⟨rfl, rfl⟩
  go_wp2
  go_ret
  exact ⟨rfl, rfl⟩
def PNobRel (w : World) (ab lb zb : Nat) (k1 k2 : ByteArray) (n : Int) (t : Value) (wr : World) : Prop :=
  ∃ j : Nat, j ≤ 2 ∧ t = .int .i64 j ∧ Blk wr ab 68 #[.string k1, .string k2, .int .i64 n] ∧ Blk wr zb 77 #[.map none] ∧ Blk wr lb 64 #[.pointer none, .pointer (some ⟨zb, 0, none⟩)] ∧ Below w.heap.size w wr
set_option maxRecDepth 100000 in
set_option maxHeartbeats 4000000 in
theorem policyNobody_any (k1 k2 : ByteArray) (n : Int) (w : World) : Calls Tryd.prog 20 #[.agg #[.string k1, .string k2, .int .i64 n]] w (TruePost w) := by
  have HST : Hid (PNobRel w w.heap.size (w.heap.size + 1 + 1) (w.heap.size + 1) k1 k2 n (.int .i64 0) (((w.alloc (.cells #[.string k1, .string k2, .int .i64 n] 68)).alloc (.cells #[.map none] 77)).alloc (.cells #[.pointer none, .pointer (some ⟨w.heap.size + 1, 0, none⟩)] 64))) := Lib.hid
    ⟨0, by omega, rfl, ((Blk.new w _ _).alloc _).alloc _, (Blk.new' (w.alloc _) _ _ (by simp)).alloc _, Blk.new' ((w.alloc _).alloc _) _ _ (by simp), (((Below.refl _ _).alloc (Nat.le_refl _) _).alloc (by simp) _).alloc (by simp; omega) _⟩
  have HAW := Lib.hid awake20
  go_enter Tryd.func20, Tryd.ntmps20
  go_wp2_with fail
  go_loopg [9] 2 (fun k t wr => PNobRel w w.heap.size (w.heap.size + 1 + 1) (w.heap.size + 1) k1 k2 n t wr ∧ ∃ j : Nat, t = .int .i64 j ∧ j + k = 2)
  case atStart => exact ⟨HST.out, 0, rfl, rfl⟩
  case round =>
    obtain ⟨⟨j, hj, rfl, ha, hz, hB, hbw⟩, j', hj1, hj2⟩ := hrel
    obtain rfl : j = j' := by injection hj1 with _ h; omega
    have hbs := hbw.size
    by_cases hlt : j < 2
    · have hv : ∃ v, wr.cell? ⟨w.heap.size + 1 + 1, j, none⟩ = some v ∧ NoP wr v := by
        rw [hB.cell]
        match j, hlt with
        | 0, _ => exact ⟨_, rfl, .inl rfl⟩
        | 1, _ => exact ⟨_, rfl, .inr ⟨_, rfl, hz⟩⟩
      obtain ⟨v, hc, hno⟩ := hv
      have HZ := Lib.hid hz
      have HA := Lib.hid ha
      have HB := Lib.hid hB
      have HW := Lib.hid hbw
      have HN := Lib.hid hno
      have a0 := ha.cell 0
      have a1 := ha.cell 1
      have a2 := ha.cell 2
      clear hz hB hbw hno ha
      go_wp2_with fail
      refine (pset_no HN.out _ _ _).mono ?_
      rintro e w1 ⟨rfl, hb1⟩
      have HB1 := Lib.hid hb1
      have hN2 := Lib.hid (HN.out.below hb1)
      have hA2 := Lib.hid (HA.out.fr (Fr.of_below (F := fun _ => False) hb1) (fun h => h))
      have b0 := hA2.out.cell 0
      have b1 := hA2.out.cell 1
      clear hb1 a0 a1 a2
      go_wp2_with fail
      refine (pask_no hN2.out _ _).mono ?_
      rintro e w2 ⟨rfl, rfl⟩
      go_wp2_with fail
      refine (pall_no hN2.out).mono ?_
      rintro e w2 ⟨rfl, rfl⟩
      have HP : Hid (PNobRel w w.heap.size (w.heap.size + 1 + 1) (w.heap.size + 1) k1 k2 n (.int .i64 ((j + 1 : Nat) : Int)) w1) := Lib.hid (by
        have hf := Fr.of_below (F := fun _ => False) HB1.out
        exact ⟨j + 1, by omega, rfl, HA.out.fr hf (fun h => h), HZ.out.fr hf (fun h => h), HB.out.fr hf (fun h => h), HW.out.trans (HB1.out.mono hbs)⟩)
      go_wp2
      go_roundg (1 - j)
      case measure => omega
      case rel => exact ⟨HP.out, j + 1, by go_num, by omega⟩
    · have HW := Lib.hid hbw
      clear hz hB hbw ha
      go_wp2_with fail
      refine (HAW.out _).mono ?_
      rintro e w1 ⟨rfl, hb⟩
      have HX := Lib.hid (thenB HW.out hb)
      clear hb
      go_wp2
      go_ret
      exact ⟨rfl, HX.out⟩
end Go.Proofs.YtpnchfigehgkgaaDoor
namespace Go.Proofs.YtpnchfigehgkgaaDoor
set_option linter.unusedSimpArgs false
set_option linter.unusedVariables false
set_option maxRecDepth 100000
open Go.ChangeShapes Go.WideShapes Go.ChangeAt Go.RowKit Go.Deep
section
variable {H : Type} {enc : TypeId × Value → H} {W : World}
def BulkLe (d : DataW H) : Prop := Rows.uptoBulk d ≤ 1048576
theorem bulk_mem : ∀ {l : List (DataW H)} {d : DataW H}, d ∈ l → Rows.uptoBulk d ≤ Rows.uptoBulkAll l
  | a :: r, d, h => by
    simp only [Rows.uptoBulkAll]
    rcases List.mem_cons.1 h with rfl | h
    · omega
    · have := bulk_mem h; omega
theorem bulk_arg {ds : List (DataW H)} (hk : Rows.uptoSmall H ds = true) {d : DataW H} (h : d ∈ ds) : BulkLe d := by
  have h1 := of_decide_eq_true hk
  exact Nat.le_trans (bulk_mem h) h1
theorem bulk_str {bytes : List UInt8} (h : BulkLe (H := H) (.lit (.string bytes))) : bytes.length ≤ 1048576 := by
  unfold BulkLe at h
  simp only [Rows.uptoBulk] at h
  omega
theorem bulk_part {parts : List (DataW H)} (h : BulkLe (.agg parts)) {j : Nat} {d : DataW H} (hd : parts[j]? = some d) : BulkLe d := by
  unfold BulkLe at h ⊢
  simp only [Rows.uptoBulk] at h
  have := bulk_mem (List.mem_of_getElem? hd)
  omega
theorem bulk_elem {elems spare : List (DataW H)} (h : BulkLe (.slice elems spare)) {d : DataW H} (hd : d ∈ elems) : BulkLe d := by
  unfold BulkLe at h ⊢
  simp only [Rows.uptoBulk] at h
  have := bulk_mem hd
  omega
theorem trod_strB {t : TypeId} {n : Nat} {sp : Nat → Bool} {hd : Bool} {u : Value} {d : DataW H} {p : List MemPlace} (hu : Tryd.prog.underlying t = some .string) (h : DataW.trod enc Tryd.prog W 0 sp hd n t [u] = some (d, p)) (hr : BulkLe d) : ∃ s : T, u = .string (str s) ∧ s.length ≤ 1048576 := by
  obtain ⟨s, hz, hx, _⟩ := DataW.trod_string hu h
  injection hz with hz _
  injection hx with hx _
  rw [hx] at hr
  exact ⟨s.data.toList, hz, bulk_str hr⟩
theorem oneRule : ∃ fs, Tryd.prog.underlying 68 = some (.struct fs) ∧ fs.size = 3 ∧ oneCellFields Tryd.prog fs = true ∧ Tryd.prog.cellsOf 68 = 3 ∧ (fs[0]?).map (·.type) = some 9 ∧ (fs[1]?).map (·.type) = some 9 ∧ (fs[2]?).map (·.type) = some 3 := ⟨_, Tryd.underlying68, by kernel_rfl, by kernel_rfl, by kernel_rfl, by kernel_rfl, by kernel_rfl, by kernel_rfl⟩
theorem trod_rule {n : Nat} {sp : Nat → Bool} {hd : Bool} {cs : List Value} {d : DataW H} {p : List MemPlace} (h : DataW.trod enc Tryd.prog W 0 sp hd n 68 cs = some (d, p)) (hr : BulkLe d) : ∃ q : Rule, cs = ruleC q ∧ RuleS q := by
  obtain ⟨fs, hs, hsz, hone, hC, t0, t1, t2⟩ := oneRule
  obtain ⟨hl, parts, hd, hpl, hf⟩ := fld_one hs hone (by rw [hC, hsz]) h
  simp only at hd
  subst hd
  have g : ∀ j, j < 3 → ∃ f, fs[j]? = some f := fun j hj => ⟨_, Array.getElem?_eq_getElem (by omega)⟩
  obtain ⟨f0, e0⟩ := g 0 (by omega)
  obtain ⟨f1, e1⟩ := g 1 (by omega)
  obtain ⟨f2, e2⟩ := g 2 (by omega)
  rw [e0] at t0
  rw [e1] at t1
  rw [e2] at t2
  simp only [Option.map_some, Option.some.injEq] at t0 t1 t2
  obtain ⟨u0, d0, p0, m0, c0, q0, h0⟩ := hf 0 f0 e0
  obtain ⟨u1, d1, p1, m1, c1, q1, h1⟩ := hf 1 f1 e1
  obtain ⟨u2, d2, p2, m2, c2, q2, h2⟩ := hf 2 f2 e2
  have r0 := bulk_part hr q0
  have r1 := bulk_part hr q1
  rw [t0] at h0
  rw [t1] at h1
  rw [t2] at h2
  obtain ⟨s0, rfl, l0⟩ := trod_strB Tryd.underlying9 h0 r0
  obtain ⟨s1, rfl, l1⟩ := trod_strB Tryd.underlying9 h1 r1
  obtain ⟨z, rfl, hz⟩ := fld_int Tryd.underlying3 h2
  refine ⟨⟨s0, s1, z⟩, ?_, Nat.le_trans l0 (by decide), Nat.le_trans l1 (by decide)⟩
  match cs, hl, c0, c1, c2 with
  | [x, y, z], _, c0, c1, c2 =>
    simp only [List.getElem?_cons_zero, List.getElem?_cons_succ, Option.some.injEq] at c0 c1 c2
    subst c0; subst c1; subst c2
    rfl
  | [], hl, _, _, _ => simp at hl; omega
  | [_], hl, _, _, _ => simp at hl; omega
  | [_, _], hl, _, _, _ => simp at hl; omega
  | _ :: _ :: _ :: _ :: _, hl, _, _, _ => simp at hl; omega
/-- a slice of rules -/
theorem arg_rules {base : Nat} {v : Value} {d : DataW H} {p : List MemPlace} (hv : Value.okWide Tryd.prog W .any base 63 v) (h0 : DataW.Trod enc Tryd.prog W 0 (fun _ => true) true 63 v d p) (hr : BulkLe d) :
    ∃ (l : List Rule) (A : Option Addr) (c : Nat), v = .slice A l.length c ∧ RdB W W.heap.size 3 l.length A (rows ruleC l) ∧ l.length ≤ maxLen ∧ ∀ q ∈ l, RuleS q := by
  obtain ⟨a0, len0, cap0, rfl⟩ := okWide_slice Tryd.underlying63 hv
  obtain ⟨fuel, h⟩ := h0
  rcases open_slice Tryd.underlying63 h with ⟨hcs, _⟩ | ⟨a, len, cap, m, k, D, Pl, hcs, _, hl, hm, hmm, hx, hi⟩
  · simp only [Value.cells] at hcs
    injection hcs with hcs _
    rw [hcs]
    exact ⟨[], none, 0, rfl, ⟨rfl, fun h => absurd h (by simp)⟩, by simp, by simp⟩
  · simp only [Value.cells] at hcs
    injection hcs with hcs _
    rw [hcs]
    have hml : len ≤ m := by rw [hmm]; split <;> omega
    injection hx with hx _
    subst hx
    have hC : Tryd.prog.cellsOf 68 = 3 := by kernel_rfl
    have hq : ∀ i, i < len → ∃ q : Rule, RuleS q ∧ ∀ j x, (ruleC q)[j]? = some x → W.cell? ((a.add (i * 3)).add j) = some x := fun i hil => by
      obtain ⟨cs', hc, ht'⟩ := hi i (by omega)
      rw [hC] at hc
      obtain ⟨q, hcq, hqs⟩ := trod_rule ht' (bulk_elem hr (List.mem_map.2 ⟨i, List.mem_range.2 hil, rfl⟩))
      obtain ⟨_, hcl, hat⟩ := World.cells?_some hc
      refine ⟨q, hqs, fun j x hj => ?_⟩
      have hj3 : j < 3 := by
        rw [← hcq] at hj
        have := (List.getElem?_eq_some_iff.1 hj).1
        omega
      rw [hat j hj3, hcq]
      exact hj
    have hcho : ∃ l : List Rule, l.length = len ∧ ∀ i, ∀ hil : i < l.length, RuleS l[i] ∧ ∀ j x, (ruleC l[i])[j]? = some x → W.cell? ((a.add (i * 3)).add j) = some x := by
      have := Classical.axiomOfChoice (r := fun (i : Fin len) (q : Rule) => RuleS q ∧ ∀ j x, (ruleC q)[j]? = some x → W.cell? ((a.add (i.val * 3)).add j) = some x) (fun i => hq i.val i.isLt)
      obtain ⟨f, hf⟩ := this
      refine ⟨List.ofFn f, by simp, fun i hil => ?_⟩
      simp only [List.getElem_ofFn]
      exact hf ⟨i, by simpa using hil⟩
    obtain ⟨l, hll, hlc⟩ := hcho
    refine ⟨l, some a, cap, by rw [hll], ?_, by omega, fun q hqm => ?_⟩
    · refine ⟨rows_len ruleC_len l, fun hn => ?_⟩
      obtain ⟨ea, hlt⟩ := cell_addr ((hlc 0 hn).2 0 _ rfl)
      have e00 : (a.add (0 * 3)).add 0 = a := by unfold Addr.add; simp
      rw [e00] at ea hlt
      refine ⟨a.block, a.off, by rw [← ea], hlt, fun j x hj => ?_⟩
      have hj3 : j < l.length * 3 := by
        have := (List.getElem?_eq_some_iff.1 hj).1
        rw [rows_len ruleC_len] at this
        exact this
      have hi : j / 3 < l.length := by omega
      have hr := rows_at ruleC_len hi (j := j % 3) (by omega)
      rw [show j / 3 * 3 + j % 3 = j by omega, hj] at hr
      have := (hlc (j / 3) hi).2 (j % 3) x hr.symm
      rw [← this]
      congr 1
      rw [ea]
      unfold Addr.add
      by_cases e1 : j / 3 * 3 = 0 <;> by_cases e2 : j % 3 = 0 <;> simp [e1, e2] <;> omega
    · obtain ⟨i, hi, rfl⟩ := List.getElem_of_mem hqm
      exact (hlc i hi).1
/-- a rule by value -/
theorem arg_rule {base : Nat} {v : Value} {d : DataW H} {ps : List MemPlace} (hv : Value.okWide Tryd.prog W .any base 68 v) (h : DataW.Trod enc Tryd.prog W 0 (fun _ => true) true 68 v d ps) :
    ∃ (k1 k2 : ByteArray) (n : Int), v = .agg #[.string k1, .string k2, .int .i64 n] := by
  obtain ⟨l, rfl, hl, hf⟩ := arg_agg Tryd.underlying68 (by kernel_rfl) (by kernel_rfl) hv h
  match l, hl with
  | [c0, c1, c2], _ =>
    obtain ⟨u0, e0, f0⟩ := hf 0 _ rfl
    obtain ⟨u1, e1, f1⟩ := hf 1 _ rfl
    obtain ⟨u2, e2, f2⟩ := hf 2 _ rfl
    injection e0 with e0
    injection e1 with e1
    injection e2 with e2
    subst e0 e1 e2
    obtain ⟨z0, rfl⟩ := f0.str Tryd.underlying9
    obtain ⟨z1, rfl⟩ := f1.str Tryd.underlying9
    obtain ⟨z2, rfl⟩ := f2.int Tryd.underlying3
    exact ⟨z0, z1, z2, rfl⟩
end
end Go.Proofs.YtpnchfigehgkgaaDoor
