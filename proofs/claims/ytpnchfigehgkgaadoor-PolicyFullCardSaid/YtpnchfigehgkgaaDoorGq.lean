/- Chapter 20 in plain Lean: the document's list of rules, and the map of them. Chapter 20: the order of rules: cmp.Compare, cmp.Or, the closure that All hands to slices.SortFunc. Chapter 20: the table of rules: All. Chapter 20: PolicyFull. -/
import Derived.Test.YtpnchfigehgkgaaDoorGp
import Derived.Sort.Walk0
import Derived.Shelf.SlSortCmp.NoneTotal
import Derived.Test.YtpnchfigehgkgaaDoorGa
import Derived.Test.YtpnchfigehgkgaaDoorSh2
import Derived.Sort.OwnSortedInts
namespace Go.Proofs.YtpnchfigehgkgaaDoor
set_option linter.unusedSimpArgs false
set_option linter.unusedVariables false
open Go.RowKit
def ltR (a b : Rule) : Prop := a.who < b.who ∨ a.who = b.who ∧ a.watcher < b.watcher
instance (a b : Rule) : Decidable (ltR a b) := inferInstanceAs (Decidable (_ ∨ _))
theorem tlt_irr (a : T) : ¬ a < a := List.lt_irrefl a
theorem tlt_trans {a b c : T} (h : a < b) (k : b < c) : a < c := List.lt_trans h k
theorem tlt_tri (a b : T) : a < b ∨ a = b ∨ b < a := by
  by_cases h : a < b
  · exact .inl h
  · by_cases k : b < a
    · exact .inr (.inr k)
    · exact .inr (.inl (List.le_antisymm (List.not_lt.1 k) (List.not_lt.1 h)))
theorem ltR_irr (a : Rule) : ¬ ltR a a := by
  rintro (h | ⟨_, h⟩)
  · exact tlt_irr _ h
  · exact tlt_irr _ h
theorem ltR_trans {a b c : Rule} (h : ltR a b) (k : ltR b c) : ltR a c := by
  rcases h with h | ⟨e, h⟩ <;> rcases k with k | ⟨f, k⟩
  · exact .inl (tlt_trans h k)
  · exact .inl (f ▸ h)
  · exact .inl (e ▸ k)
  · exact .inr ⟨e.trans f, tlt_trans h k⟩
theorem ltR_key {a b : Rule} (h : ltR a b) : keyR a ≠ keyR b := by
  intro e
  have h1 : str a.who = str b.who := congrArg Prod.fst e
  have h2 : str a.watcher = str b.watcher := congrArg Prod.snd e
  have e1 := str_inj h1
  have e2 := str_inj h2
  rcases h with h | ⟨_, h⟩
  · rw [e1] at h; exact tlt_irr _ h
  · rw [e2] at h; exact tlt_irr _ h
theorem ltR_tri {a b : Rule} (h : keyR a ≠ keyR b) : ltR a b ∨ ltR b a := by
  rcases tlt_tri a.who b.who with q | q | q
  · exact .inl (.inl q)
  · rcases tlt_tri a.watcher b.watcher with k | k | k
    · exact .inl (.inr ⟨q, k⟩)
    · exact absurd (by unfold keyR; rw [q, k]) h
    · exact .inr (.inr ⟨q.symm, k⟩)
  · exact .inr (.inl q)
def pairs (l : List Rule) : KV := l.map fun r => (keyR r, .int .i64 r.what)
def restR (l : List Rule) (r : Rule) : List Rule := l.filter fun x => decide (keyR x ≠ keyR r)
def insR (l : List Rule) (r : Rule) : List Rule := l.takeWhile (fun x => decide (ltR x r)) ++ r :: l.dropWhile (fun x => decide (ltR x r))
def rSetRE (l : List Rule) (r : Rule) : Int := if chkR r ≠ 0 then 1 else if r.what = 0 then 0 else if (restR l r).length = l.length ∧ 500 ≤ l.length then 5 else 0
def rSetRL (l : List Rule) (r : Rule) : List Rule := if chkR r ≠ 0 then l else if r.what = 0 then restR l r else if (restR l r).length = l.length ∧ 500 ≤ l.length then l else insR (restR l r) r
def rAskR (l : List Rule) (a b : T) : Int := if a = b ∧ nameB a = true then 1 else match l.find? (fun x => decide (x.who = a ∧ x.watcher = b)) with
  | some x => x.what
  | none => 0
/-- the list stands for the map -/
structure Stands (kv : KV) (l : List Rule) : Prop where
  so : l.Pairwise ltR
  pm : kv.Perm (pairs l)
theorem Stands.nil : Stands [] [] := ⟨List.Pairwise.nil, List.Perm.refl _⟩
theorem so_nd {l : List Rule} (h : l.Pairwise ltR) : ((pairs l).map (·.1)).Nodup := by
  unfold pairs
  rw [List.map_map, List.nodup_iff_pairwise_ne, List.pairwise_map]
  exact h.imp fun h => ltR_key h
theorem mget_perm {k : PK} {a b : KV} (ha : (a.map (·.1)).Nodup) (h : a.Perm b) : mget k a = mget k b := by
  have hb : (b.map (·.1)).Nodup := ((h.map (·.1)).nodup_iff).1 ha
  cases hg : mget k b with
  | some v => exact mget_of_mem ha (h.mem_iff.2 (mget_mem hg))
  | none => exact mget_none fun hm => mget_none' hg (((h.map (·.1)).mem_iff).1 hm)
theorem mdel_filter {k : PK} : ∀ {l : KV}, (l.map (·.1)).Nodup → mdel k l = l.filter fun x => decide (x.1 ≠ k)
  | [], _ => rfl
  | y :: r, hn => by
    rw [List.map_cons, List.nodup_cons] at hn
    unfold mdel
    by_cases h : y.1 = k
    · rw [if_pos h, List.filter_cons_of_neg (by simp [h])]
      symm
      rw [List.filter_eq_self]
      intro x hx
      have : x.1 ≠ k := fun e => hn.1 (by rw [h, ← e]; exact List.mem_map.2 ⟨x, hx, rfl⟩)
      simpa using this
    · rw [if_neg h, List.filter_cons_of_pos (by simpa using h), mdel_filter hn.2]
theorem mput_perm {k : PK} {v : Value} {l : KV} : (mput k v l).Perm ((k, v) :: mdel k l) := by
  induction l with
  | nil => exact List.Perm.refl _
  | cons y r ih =>
    unfold mput mdel
    by_cases h : y.1 = k
    · rw [if_pos h, if_pos h]
    · rw [if_neg h, if_neg h]
      exact (ih.cons y).trans (List.Perm.swap _ _ _)
theorem pairs_rest {l : List Rule} (h : l.Pairwise ltR) (r : Rule) : mdel (keyR r) (pairs l) = pairs (restR l r) := by
  rw [mdel_filter (so_nd h)]
  unfold pairs restR
  rw [List.filter_map]
  rfl
theorem ins_perm_ (l : List Rule) (r : Rule) : (insR l r).Perm (r :: l) := by
  unfold insR
  refine List.perm_middle.trans ?_
  rw [List.takeWhile_append_dropWhile]
theorem drop_above {l : List Rule} (h : l.Pairwise ltR) {r : Rule} (hk : ∀ x ∈ l, keyR x ≠ keyR r) : ∀ x ∈ l.dropWhile (fun x => decide (ltR x r)), ltR r x := by
  induction l with
  | nil => simp
  | cons y t ih =>
    rw [List.pairwise_cons] at h
    by_cases hy : ltR y r
    · rw [List.dropWhile_cons_of_pos (by simpa using hy)]
      exact ih h.2 fun x hx => hk x (List.mem_cons_of_mem _ hx)
    · rw [List.dropWhile_cons_of_neg (by simpa using hy)]
      have hyr : ltR r y := (ltR_tri (hk y List.mem_cons_self)).resolve_left hy
      intro x hx
      rcases List.mem_cons.1 hx with e | e
      · rw [e]; exact hyr
      · exact ltR_trans hyr (h.1 x e)
theorem take_below (l : List Rule) (r : Rule) : ∀ x ∈ l.takeWhile (fun x => decide (ltR x r)), ltR x r := by
  intro x hx
  induction l with
  | nil => simp at hx
  | cons y t ih =>
    by_cases h : ltR y r
    · rw [List.takeWhile_cons_of_pos (by simpa using h)] at hx
      rcases List.mem_cons.1 hx with e | e
      · rw [e]; exact h
      · exact ih e
    · rw [List.takeWhile_cons_of_neg (by simpa using h)] at hx
      simp at hx
theorem ins_so {l : List Rule} (h : l.Pairwise ltR) {r : Rule} (hk : ∀ x ∈ l, keyR x ≠ keyR r) : (insR l r).Pairwise ltR := by
  have hd := drop_above h hk
  unfold insR
  rw [List.pairwise_append]
  refine ⟨h.sublist (List.takeWhile_sublist _), ?_, fun a ha b hb => ?_⟩
  · rw [List.pairwise_cons]
    exact ⟨hd, h.sublist (List.dropWhile_sublist _)⟩
  · have h1 := take_below l r a ha
    rcases List.mem_cons.1 hb with e | e
    · rw [e]; exact h1
    · exact ltR_trans h1 (hd b e)
theorem rest_key {l : List Rule} {r : Rule} : ∀ x ∈ restR l r, keyR x ≠ keyR r := by
  intro x hx
  have := (List.mem_filter.1 hx).2
  simpa using this
theorem rest_len {l : List Rule} (h : l.Pairwise ltR) (r : Rule) : (restR l r).length = l.length ↔ mget (keyR r) (pairs l) = none := by
  unfold restR
  rw [List.length_filter_eq_length_iff]
  constructor
  · intro hh
    refine mget_none fun hm => ?_
    obtain ⟨y, hy, he⟩ := List.mem_map.1 hm
    obtain ⟨x, hx, rfl⟩ := List.mem_map.1 hy
    have := hh x hx
    simp at this
    exact this he
  · intro hg x hx
    have := mget_none' hg
    simp only [decide_eq_true_eq]
    exact fun e => this (List.mem_map.2 ⟨(keyR x, .int .i64 x.what), List.mem_map.2 ⟨x, hx, rfl⟩, e⟩)
theorem Stands.set {kv : KV} {l : List Rule} (H : Stands kv l) (r : Rule) : Stands (setL kv r) (rSetRL l r) ∧ setE kv r = rSetRE l r := by
  have hnd := so_nd H.so
  have hkd : (kv.map (·.1)).Nodup := ((H.pm.map (·.1)).nodup_iff).2 hnd
  have hg := mget_perm (k := keyR r) hkd H.pm
  have hl : kv.length = l.length := by have := H.pm.length_eq; unfold pairs at this; simpa using this
  have hrest : (mdel (keyR r) kv).Perm (pairs (restR l r)) := by
    rw [← pairs_rest H.so, mdel_filter hkd, mdel_filter hnd]
    exact H.pm.filter _
  have hso : (restR l r).Pairwise ltR := H.so.filter _
  unfold setL setE rSetRL rSetRE
  have hiff : (mget (keyR r) kv = none ∧ 500 ≤ kv.length) ↔ ((restR l r).length = l.length ∧ 500 ≤ l.length) := by rw [hg, hl, rest_len H.so r]
  by_cases h : chkR r ≠ 0
  · rw [if_pos h, if_pos h, if_pos h, if_pos h]
    exact ⟨H, rfl⟩
  · rw [if_neg h, if_neg h, if_neg h, if_neg h]
    by_cases h0 : r.what = 0
    · rw [if_pos h0, if_pos h0, if_pos h0, if_pos h0]
      exact ⟨⟨hso, hrest⟩, rfl⟩
    · rw [if_neg h0, if_neg h0, if_neg h0, if_neg h0]
      by_cases hf : mget (keyR r) kv = none ∧ 500 ≤ kv.length
      · have hf' := hiff.1 hf
        rw [if_pos hf, if_pos hf, if_pos hf', if_pos hf']
        exact ⟨H, rfl⟩
      · have hf' := fun q => hf (hiff.2 q)
        rw [if_neg hf, if_neg hf, if_neg hf', if_neg hf']
        refine ⟨⟨ins_so hso rest_key, ?_⟩, rfl⟩
        refine mput_perm.trans ((hrest.cons _).trans ?_)
        have := (ins_perm_ (restR l r) r).map fun r => (keyR r, Value.int .i64 r.what)
        exact this.symm
def unR (x : PK × Value) : Rule := ⟨x.1.1.data.toList, x.1.2.data.toList, intV (some x.2)⟩
theorem unR_pairs (l : List Rule) : (pairs l).map unR = l := by
  unfold pairs
  rw [List.map_map]
  conv => rhs; rw [← List.map_id l]
  rfl
theorem Stands.ask {kv : KV} {l : List Rule} (H : Stands kv l) (a b : T) : askV kv a b = rAskR l a b := by
  have hnd := so_nd H.so
  have hkd : (kv.map (·.1)).Nodup := ((H.pm.map (·.1)).nodup_iff).2 hnd
  unfold askV rAskR
  rw [mget_perm hkd H.pm]
  split
  · rfl
  · clear hnd hkd H
    induction l with
    | nil => rfl
    | cons x r ih =>
      unfold pairs at *
      rw [List.map_cons]
      unfold mget
      by_cases h : x.who = a ∧ x.watcher = b
      · rw [List.find?_cons_of_pos (by simpa using h), if_pos (by unfold keyR; rw [h.1, h.2])]
        rfl
      · rw [List.find?_cons_of_neg (by simpa using h), if_neg (fun e => h ⟨str_inj (congrArg Prod.fst e), str_inj (congrArg Prod.snd e)⟩)]
        exact ih
/-- a sorted permutation of what the map holds is the list -/
theorem Stands.sorted {kv : KV} {l d : List Rule} (H : Stands kv l) (hp : (pairs d).Perm kv) (hs : d.Pairwise fun a b => ¬ ltR b a) : d = l := by
  have hpl : d.Perm l := by
    have h := (hp.trans H.pm).map unR
    rw [unR_pairs, unR_pairs] at h
    exact h
  refine hpl.eq_of_pairwise (le := fun a b => ¬ ltR b a) (fun a b ha hb h1 h2 => ?_) hs (H.so.imp fun h k => ltR_irr _ (ltR_trans h k))
  by_cases e : keyR a = keyR b
  · have hd := so_nd H.so
    have ha' := hpl.mem_iff.1 ha
    rcases List.getElem_of_mem ha' with ⟨i, hi, rfl⟩
    rcases List.getElem_of_mem hb with ⟨j, hj, rfl⟩
    have hpw := List.pairwise_iff_getElem.1 H.so
    rcases Nat.lt_trichotomy i j with q | q | q
    · exact absurd e (ltR_key (hpw i j hi hj q))
    · subst q; rfl
    · exact absurd e.symm (ltR_key (hpw j i hj hi q))
  · rcases ltR_tri e with q | q
    · exact absurd q h2
    · exact absurd q h1
end Go.Proofs.YtpnchfigehgkgaaDoor
namespace Go.Proofs.YtpnchfigehgkgaaDoor
set_option linter.unusedSimpArgs false
set_option linter.unusedVariables false
open Go.RowKit Go.Shelf Go.Lib Go.Sort
def cmpI (a b : T) : Int := if a < b then -1 else if b < a then 1 else 0
theorem bl_str (a b : T) : Op.bytesLess (str a).toList (str b).toList = decide (a < b) := by
  rw [bytesLess_eq, Lib.toList_data, Lib.toList_data]; rfl
theorem nan_any (a : T) (w : World) : Calls Tryd.prog 115 #[.string (str a)] w fun e w' => e = .returned (.bool false) ∧ w = w' := by
  have q : ((str a).toList != (str a).toList) = false := by simp
  have q1 : ((str a).toList == (str a).toList) = true := beq_self_eq_true _
  go_enter Tryd.func115, Tryd.ntmps115
  go_wp2
  go_ret
  exact ⟨rfl, rfl⟩
theorem cmp_any (a b : T) (w : World) : Calls Tryd.prog 96 #[.string (str a), .string (str b)] w fun e w' => e = .returned (.int .i64 (cmpI a b)) ∧ w = w' := by
  have hl := bl_str a b
  have HN := Lib.hid (nan_any a)
  have HM := Lib.hid (nan_any b)
  rcases tlt_tri a b with h | h | h
  · have hv : cmpI a b = -1 := by unfold cmpI; rw [if_pos h]
    rw [hv]
    rw [decide_eq_true h] at hl
    clear hv h
    go_enter Tryd.func96, Tryd.ntmps96
    go_wp2_with fail
    refine (HN.out _).mono ?_
    rintro e w1 ⟨rfl, rfl⟩
    go_wp2_with fail
    refine (HM.out _).mono ?_
    rintro e w1 ⟨rfl, rfl⟩
    go_wp2
    go_ret
    exact ⟨rfl, rfl⟩
  · subst h
    have hv : cmpI a a = 0 := by unfold cmpI; rw [if_neg (tlt_irr a), if_neg (tlt_irr a)]
    rw [hv]
    rw [decide_eq_false (tlt_irr a)] at hl
    have q1 : ((str a).toList == (str a).toList) = true := beq_self_eq_true _
    clear hv
    go_enter Tryd.func96, Tryd.ntmps96
    go_wp2_with fail
    refine (HN.out _).mono ?_
    rintro e w1 ⟨rfl, rfl⟩
    go_wp2_with fail
    refine (HM.out _).mono ?_
    rintro e w1 ⟨rfl, rfl⟩
    go_wp2
    go_ret
    exact ⟨rfl, rfl⟩
  · have hn : ¬ a < b := fun k => tlt_irr _ (tlt_trans k h)
    have hv : cmpI a b = 1 := by unfold cmpI; rw [if_neg hn, if_pos h]
    rw [hv]
    rw [decide_eq_false hn] at hl
    have hne : a ≠ b := fun e => tlt_irr _ (e ▸ h)
    have q1 := str_neb hne
    have q2 := str_ne hne
    clear hv h hn hne
    go_enter Tryd.func96, Tryd.ntmps96
    go_wp2_with fail
    refine (HN.out _).mono ?_
    rintro e w1 ⟨rfl, rfl⟩
    go_wp2_with fail
    refine (HM.out _).mono ?_
    rintro e w1 ⟨rfl, rfl⟩
    go_wp2
    go_ret
    exact ⟨rfl, rfl⟩
def orI (x y : Int) : Int := if x = 0 then y else x
theorem or_any {x y : Int} {w : World} {g : Nat} (h : Blk w g 3 #[.int .i64 x, .int .i64 y]) : Calls Tryd.prog 95 #[.slice (some ⟨g, 0, none⟩) 2 2] w fun e w' => e = .returned (.int .i64 (orI x y)) ∧ w = w' := by
  have c0 := h.cell 0
  have c1 := h.cell 1
  have HZ : Hid (orI x y = x ∨ x = 0) := Lib.hid (by unfold orI; by_cases q : x = 0 <;> simp [q])
  have HX : Hid (x ≠ 0 → orI x y = x) := Lib.hid (fun q => by unfold orI; rw [if_neg q])
  have HY : Hid (x = 0 → orI x y = y) := Lib.hid (fun q => by unfold orI; rw [if_pos q])
  generalize orI x y = R at *
  clear h
  go_enter Tryd.func95, Tryd.ntmps95
  go_wp2
  go_loopg [8] 2 (fun k t wr => wr = w ∧ ∃ j : Nat, t = .int .i64 j ∧ j + k = 2 ∧ (1 ≤ j → x = 0) ∧ (2 ≤ j → y = 0))
  case atStart => exact ⟨rfl, 0, rfl, rfl, by omega, by omega⟩
  case round =>
    obtain ⟨rfl, j, rfl, hj, h1, h2⟩ := hrel
    by_cases j0 : j = 0
    · subst j0
      by_cases hx : x = 0
      · have HR := Lib.hid (HY.out hx)
        rw [hx] at c0
        go_wp2
        go_roundg 1
        case measure => omega
        case rel => exact ⟨rfl, 1, by go_num, rfl, fun _ => hx, by omega⟩
      · have HR := Lib.hid (HX.out hx)
        have q : (x != 0) = true := by simpa using hx
        clear hx
        go_wp2
        go_ret
        exact ⟨ret_int HR.out.symm, rfl⟩
    · by_cases j1 : j = 1
      · subst j1
        have hx := h1 (by omega)
        have HR := Lib.hid (HY.out hx)
        by_cases hy : y = 0
        · rw [hy] at c1
          go_wp2
          go_roundg 0
          case measure => omega
          case rel => exact ⟨rfl, 2, by go_num, rfl, fun _ => hx, fun _ => hy⟩
        · have q : (y != 0) = true := by simpa using hy
          clear hy hx h1 h2
          go_wp2
          go_ret
          exact ⟨ret_int HR.out.symm, rfl⟩
      · obtain rfl : j = 2 := by omega
        have hx := h1 (by omega)
        have hy := h2 (by omega)
        have HR := Lib.hid ((HY.out hx).trans hy)
        clear hx hy h1 h2
        go_wp2
        go_ret
        exact ⟨ret_int HR.out.symm, rfl⟩
def cmpR (a b : Rule) : Int := orI (cmpI a.who b.who) (cmpI a.watcher b.watcher)
instance : Inhabited Rule := ⟨⟨[], [], 0⟩⟩
theorem cmpI_lt {a b : T} (h : a < b) : cmpI a b = -1 := by unfold cmpI; rw [if_pos h]
theorem cmpI_eq (a : T) : cmpI a a = 0 := by unfold cmpI; rw [if_neg (tlt_irr a), if_neg (tlt_irr a)]
theorem cmpI_gt {a b : T} (h : b < a) : cmpI a b = 1 := by
  have hn : ¬ a < b := fun k => tlt_irr _ (tlt_trans k h)
  unfold cmpI; rw [if_neg hn, if_pos h]
theorem ltOf_cmpR (a b : Rule) : ltOf cmpR a b = decide (ltR a b) := by
  obtain ⟨a1, a2, a3⟩ := a
  obtain ⟨b1, b2, b3⟩ := b
  unfold ltOf cmpR orI ltR
  simp only
  rcases tlt_tri a1 b1 with h | h | h
  · rw [cmpI_lt h]; simp [h]
  · subst h
    rw [cmpI_eq]
    rcases tlt_tri a2 b2 with k | k | k
    · rw [cmpI_lt k]; simp [k]
    · subst k; rw [cmpI_eq]; simp [tlt_irr]
    · have hn : ¬ a2 < b2 := fun q => tlt_irr _ (tlt_trans k q)
      rw [cmpI_gt k]; simp [tlt_irr, hn]
  · have hn : ¬ a1 < b1 := fun q => tlt_irr _ (tlt_trans h q)
    have hne : a1 ≠ b1 := fun e => by subst e; exact tlt_irr _ h
    rw [cmpI_gt h]; simp [hn, hne]
theorem ltR_of_key {a b c : Rule} (e : keyR a = keyR b) (h : ltR a c) : ltR b c := by
  have e1 : a.who = b.who := str_inj (congrArg Prod.fst e)
  have e2 : a.watcher = b.watcher := str_inj (congrArg Prod.snd e)
  unfold ltR at h ⊢
  rw [← e1, ← e2]; exact h
theorem swoR : SWO (ltOf cmpR) where
  irrefl x := by rw [ltOf_cmpR]; exact decide_eq_false (ltR_irr x)
  trans x y z h1 h2 := by rw [ltOf_cmpR] at *; exact decide_eq_true (ltR_trans (of_decide_eq_true h1) (of_decide_eq_true h2))
  ntrans x y z h1 h2 := by
    rw [ltOf_cmpR] at *
    refine decide_eq_false fun h => ?_
    have h1 := of_decide_eq_false h1
    have h2 := of_decide_eq_false h2
    by_cases e : keyR x = keyR y
    · exact h2 (ltR_of_key e h)
    · rcases ltR_tri e with q | q
      · exact h1 q
      · exact h2 (ltR_trans q h)
set_option maxRecDepth 100000 in
set_option maxHeartbeats 4000000 in
theorem clos_any (a b : Rule) (W : World) : Calls Tryd.prog 94 #[.agg #[.string (str a.who), .string (str a.watcher), .int .i64 a.what], .agg #[.string (str b.who), .string (str b.watcher), .int .i64 b.what]] W fun e w' => e = .returned (.int .i64 (cmpR a b)) ∧ ∃ q os', w' = grow (W.drewN q) os' := by
  have H1 : Hid (∀ w, Calls Tryd.prog 96 #[.string (str a.who), .string (str b.who)] w fun e w' => e = .returned (.int .i64 (cmpI a.who b.who)) ∧ w = w') := Lib.hid (cmp_any a.who b.who)
  have H2 : Hid (∀ w, Calls Tryd.prog 96 #[.string (str a.watcher), .string (str b.watcher)] w fun e w' => e = .returned (.int .i64 (cmpI a.watcher b.watcher)) ∧ w = w') := Lib.hid (cmp_any a.watcher b.watcher)
  unfold cmpR
  generalize cmpI a.who b.who = X at *
  generalize cmpI a.watcher b.watcher = Y at *
  have HO : Hid (∀ (w : World) (g : Nat), Blk w g 3 #[.int .i64 X, .int .i64 Y] → Calls Tryd.prog 95 #[.slice (some ⟨g, 0, none⟩) 2 2] w (fun e w' => e = .returned (.int .i64 (orI X Y)) ∧ w = w')) := Lib.hid (fun w g h => or_any h)
  generalize orI X Y = Z at *
  obtain ⟨w0, hw0⟩ : ∃ w0, (W.alloc (.cells #[.string (str a.who), .string (str a.watcher), .int .i64 a.what] 68)).alloc (.cells #[.string (str b.who), .string (str b.watcher), .int .i64 b.what] 68) = w0 := ⟨_, rfl⟩
  have b1 : Blk w0 W.heap.size 68 #[.string (str a.who), .string (str a.watcher), .int .i64 a.what] := hw0 ▸ (Blk.new W _ _).alloc _
  have b2 : Blk w0 (W.heap.size + 1) 68 #[.string (str b.who), .string (str b.watcher), .int .i64 b.what] := hw0 ▸ Blk.new' (W.alloc _) _ _ (by simp)
  have HC : Hid (∀ w, Below w0.heap.size w0 w → w.cell? ⟨W.heap.size, 0, none⟩ = some (.string (str a.who)) ∧ w.cell? ⟨W.heap.size, 1, none⟩ = some (.string (str a.watcher)) ∧ w.cell? ⟨W.heap.size + 1, 0, none⟩ = some (.string (str b.who)) ∧ w.cell? ⟨W.heap.size + 1, 1, none⟩ = some (.string (str b.watcher))) := Lib.hid (fun w h => by
    have f := Fr.of_below (F := fun _ => False) h
    exact ⟨(b1.fr f (fun h => h)).cell 0, (b1.fr f (fun h => h)).cell 1, (b2.fr f (fun h => h)).cell 0, (b2.fr f (fun h => h)).cell 1⟩)
  have HB1 : Hid (Below w0.heap.size w0 w0) := Lib.hid (Below.refl _ _)
  have HW0 := Lib.hid hw0
  obtain ⟨c0, c1, c2, c3⟩ := HC.out w0 (Below.refl _ _)
  clear b1 b2 hw0
  go_enter Tryd.func94, Tryd.ntmps94
  go_wp2_with fail
  rw [HW0.out]
  go_region_held3 (fun w' => w'.cell? ⟨W.heap.size, 0, none⟩ = some (.string (str a.who)) ∧ w'.cell? ⟨W.heap.size, 1, none⟩ = some (.string (str a.watcher)) ∧ w'.cell? ⟨W.heap.size + 1, 0, none⟩ = some (.string (str b.who)) ∧ w'.cell? ⟨W.heap.size + 1, 1, none⟩ = some (.string (str b.watcher)))
    (first | exact HC.out _ (below_drewN HB1.out 1) | exact HC.out _ HB1.out | exact HC.out _ ((below_drewN HB1.out 1).alloc (Nat.le_refl _) _))
    (first | (go_at_call 96; first | ((with_reducible refine (H1.out _).mono ?_); rintro e w1 ⟨rfl, rfl⟩) | ((with_reducible refine (H2.out _).mono ?_); rintro e w1 ⟨rfl, rfl⟩)) | (go_at_call 95; refine (HO.out _ _ ((Blk.new w0 _ _).drewN 1)).mono ?_; rintro e w1 ⟨rfl, rfl⟩))
  all_goals
    go_wp2
    go_ret
    exact ⟨rfl, 1, #[.cells #[.string (str a.who), .string (str a.watcher), .int .i64 a.what] 68] ++ #[.cells #[.string (str b.who), .string (str b.watcher), .int .i64 b.what] 68] ++ #[.cells #[.int .i64 X, .int .i64 Y] 3], by rw [← HW0.out]; simp only [alloc_eq_grow, grow_grow]; rfl⟩
end Go.Proofs.YtpnchfigehgkgaaDoor
namespace Go.Proofs.YtpnchfigehgkgaaDoor
set_option linter.unusedSimpArgs false
set_option linter.unusedVariables false
open Go.RowKit Go.Shelf Go.Lib Go.Sort
theorem own_ty' {w : World} {base : Nat} {e : TypeId} {size n : Nat} {v : Value} {xs : List Value} (h : w.ownsRow base e size v n xs) {g : Nat} (hg : v.ownBlock = some g) : ∃ cs, w.heap[g]? = some (.cells cs e (0, 0)) := by
  rcases h.2 with ⟨rfl, _⟩ | ⟨g', cap, cur, rfl, _, hh, _⟩
  · cases hg
  · have : g' = g := by simpa [Value.ownBlock] using hg
    subst this
    exact ⟨cur, hh⟩
theorem e68i : ElemInfo Tryd.prog 68 3 40 (.agg #[.string ⟨#[]⟩, .string ⟨#[]⟩, .int .i64 0]) := ElemInfo.mk' (by kernel_rfl)
abbrev KVf (x : PK × Value) : Value × Value := (pkKey x.1, x.2)
def rv (d : List Rule) : List (Value × Value) := (pairs d).map KVf
def PAllPost (w : World) (kv : KV) (e : Ending) (w' : World) : Prop := ∃ v d, e = .returned v ∧ w'.ownsRow w.heap.size 68 3 v d.length (rows ruleC d) ∧ (pairs d).Perm kv ∧ d.Pairwise (fun a b => ¬ ltR b a) ∧ Below w.heap.size w w'
structure AllRel (w : World) (g rb : Nat) (kv : KV) (v : Value) (wr : World) (left : List (Value × Value)) (d : List Rule) : Prop where
  rng : Rng wr g rb left
  pm : (left ++ rv d).Perm (kv.map KVf)
  own : wr.ownsRow w.heap.size 68 3 v d.length (rows ruleC d)
  be : Below w.heap.size w wr
theorem rv_snoc (d : List Rule) (r : Rule) : rv (d ++ [r]) = rv d ++ [(.agg #[.string (str r.who), .string (str r.watcher)], .int .i64 r.what)] := by
  unfold rv pairs
  rw [List.map_append, List.map_append]
  rfl
theorem KvP.shape {kv : KV} (H : KvP kv) {left : List (Value × Value)} {d : List Rule} (h : (left ++ rv d).Perm (kv.map KVf)) : ∀ x ∈ left, ∃ (k : PK) (n : Int), x = (.agg #[.string k.1, .string k.2], .int .i64 n) := by
  intro x hx
  have hm := h.mem_iff.1 (List.mem_append_left _ hx)
  obtain ⟨y, hy, rfl⟩ := List.mem_map.1 hm
  obtain ⟨n, hn, _⟩ := H.val y hy
  exact ⟨y.1, n, by rw [← hn]; rfl⟩
theorem rv_len {kv : KV} {left : List (Value × Value)} {d : List Rule} (h : (left ++ rv d).Perm (kv.map KVf)) : left.length + d.length = kv.length := by
  have := h.length_eq
  unfold rv pairs at this
  simpa using this
theorem kvf_un (x : PK × Value) : (fun y : Value × Value => ((match y.1 with | .agg #[.string a, .string b] => (a, b) | _ => (⟨#[]⟩, ⟨#[]⟩)), y.2)) (KVf x) = x := rfl
theorem rv_pairs {kv : KV} {d : List Rule} (h : (rv d).Perm (kv.map KVf)) : (pairs d).Perm kv := by
  have h2 := h.map (fun y : Value × Value => ((match y.1 with | .agg #[.string a, .string b] => (a, b) | _ => (⟨#[]⟩, ⟨#[]⟩)), y.2))
  unfold rv at h2
  rw [List.map_map, List.map_map] at h2
  have e : ((fun y : Value × Value => ((match y.1 with | .agg #[.string a, .string b] => (a, b) | _ => (⟨#[]⟩, ⟨#[]⟩)), y.2)) ∘ KVf) = id := funext fun x => kvf_un x
  rw [e, List.map_id, List.map_id] at h2
  exact h2
/-- slices.SortFunc at a row of rules of the call's own -/
theorem ruleC_len' (r : Rule) : (ruleC r).length = 3 := rfl
def SortRPost (w : World) (base : Nat) (v : Value) (d : List Rule) (e : Ending) (w' : World) : Prop :=
  ∃ d', e = .returned (.tuple #[]) ∧ d'.length = d.length ∧ w'.ownsRow base 68 3 v d.length (rows ruleC d') ∧ d'.Perm d ∧ d'.Pairwise (fun a b => ¬ ltR b a) ∧ w.grownBy w' v.ownBlock
theorem flat_rows {α : Type} [Inhabited α] {f : α → List Value} {sz : Nat} (hf : ∀ a, (f a).length = sz) (hz : 0 < sz) (l : List α) : flatK f sz l.toArray = (rows f l).toArray := by
  have hl := rows_len hf l
  refine Array.ext (by simp [hl]) fun t h1 h2 => ?_
  have ht : t < l.length * sz := by simpa using h1
  have hi : t / sz < l.length := (Nat.div_lt_iff_lt_mul hz).2 ht
  have hj : t % sz < sz := Nat.mod_lt _ hz
  have hr := rows_at hf hi hj
  rw [Nat.div_add_mod' t sz] at hr
  have e1 : (rows f l)[t]? = some (rows f l)[t] := List.getElem?_eq_getElem (by rw [hl]; exact ht)
  have e2 : (f l[t / sz])[t % sz]? = some ((f l[t / sz])[t % sz]'(by rw [hf]; exact hj)) := List.getElem?_eq_getElem _
  rw [e1, e2] at hr
  injection hr with hr
  have g := get_flatK f sz l.toArray t (by simpa using ht)
  rw [getElem!_pos _ t h1] at g
  rw [g]
  have d1 : l.toArray[t / sz]! = l[t / sz] := by rw [getElem!_pos _ _ (by simpa using hi)]; simp
  rw [d1, getElem!_pos _ _ (by rw [hf]; exact hj)]
  simpa using hr.symm
theorem take_put (cur F : Array Value) (h : F.size ≤ cur.size) : (putCells id 0 F cur).toList.take F.size = F.toList := by
  apply List.ext_getElem?
  intro j
  by_cases hj : j < F.size
  · rw [List.getElem?_take_of_lt hj, Array.getElem?_toList, Array.getElem?_toList]
    simp [putCells, hj, show j < cur.size by omega]
  · rw [List.getElem?_take_eq_none (by omega), List.getElem?_eq_none (by simp; omega)]
theorem sort_rules {w : World} {base : Nat} {v : Value} {d : List Rule} (h : w.ownsRow base 68 3 v d.length (rows ruleC d)) (hz : d.length ≤ 1000000) :
    Calls Tryd.prog 93 #[v, .func (.func 94) #[] #[]] w (SortRPost w base v d) := by
  have hl := rows_len ruleC_len' d
  rcases h.2 with ⟨rfl, h0⟩ | ⟨g, cap, cur, rfl, hg, hb, h1, h2, h3, h4⟩
  · have hz : d = [] := List.eq_nil_of_length_eq_zero h0
    subst hz
    refine (Tryd.slices_SortFunc_none (α := Rule) none 0 _ w).mono ?_
    rintro e w' ⟨rfl, rfl⟩
    exact ⟨[], rfl, rfl, by simpa using h, List.Perm.refl _, List.Pairwise.nil, World.grownBy.refl _ _⟩
  · have hgl : g < w.heap.size := Blk.lt (t := 68) hb
    have eg : ∀ args w, (callFunc 94 args).run Tryd.prog w = .ok (.enter 94 args) w := enters_of Tryd.func94 (by kernel_rfl) rfl
    have hH : HoldsK ruleC 3 w g 0 d.toArray := by
      unfold HoldsK
      rw [flat_rows ruleC_len' (by omega)]
      intro j hj
      have hj' : j < (rows ruleC d).length := by simpa using hj
      refine ⟨?_, by simp [World.frozen?, hb]⟩
      have q : (cur.toList.take (d.length * 3))[j]? = (rows ruleC d)[j]? := by rw [h4]
      rw [List.getElem?_take_of_lt (by omega)] at q
      rw [cell_of_row w g (0 + j) cur 68 (0, 0) hb, Nat.zero_add, ← Array.getElem?_toList, q]
      simp [hj']
    have hcmp : CmpLays Tryd.prog 94 #[] ruleC 3 cmpR g 0 d.toArray.size w := fun _ _ _ _ x y => clos_any x y _
    refine (Tryd.slices_SortFunc 3 Tryd.isAgg68 Tryd.sizeOf68 ruleC (fun _ => rfl) (fun x v hv => by simp [ruleC] at hv; rcases hv with rfl | rfl | rfl <;> rfl) cmpR swoR 94 #[] g 0 cap d.toArray w eg hcmp hH hgl (by simp; omega)).mono ?_
    rintro e w' ⟨rfl, d', n, os, hp, hs, rfl⟩
    have hsz : d'.size = d.length := by have := hp.1; simpa using this
    have e0 : flatK ruleC 3 d' = (rows ruleC d'.toList).toArray := by
      have := flat_rows (f := ruleC) ruleC_len' (by omega) d'.toList
      simpa using this
    refine ⟨d'.toList, rfl, by simpa using hsz, ?_, ?_, ?_, ?_⟩
    · have hh : (grow (putRow id (Sort.ahead w n) g 0 (rows ruleC d'.toList).toArray) os).heap[g]? = some (.cells (putCells id 0 (rows ruleC d'.toList).toArray cur) 68 (0, 0)) := by
        rw [heap_grow_old _ _ (by simpa using hgl)]
        simp [putRow, mapBlock, onCells, Sort.ahead, Array.getElem?_modify, hb]
      have hl' : (rows ruleC d'.toList).length = d.length * 3 := by rw [rows_len ruleC_len' d'.toList]; simp [hsz]
      unfold sortWorldK putRowK
      rw [e0]
      refine ⟨by rw [hl'], .inr ⟨g, cap, _, rfl, hg, hh, h1, h2, by simp [putCells, h3], ?_⟩⟩
      have tp := take_put cur (rows ruleC d'.toList).toArray (by simp [hl', h3]; omega)
      simp only [List.size_toArray, hl'] at tp
      exact tp
    · have := hp.2.2
      have e1 : d'.extract 0 d.toArray.size = d' := by rw [show d.toArray.size = d'.size by simp [hsz]]; exact Array.extract_size
      have e2 : d.toArray.extract 0 d.toArray.size = d.toArray := Array.extract_size
      rw [e1, e2] at this
      simpa using this
    · rw [List.pairwise_iff_getElem]
      intro i j hi hj hij
      have hi' : i < d'.size := by simpa using hi
      have hj' : j < d'.size := by simpa using hj
      have := hs i j (Nat.zero_le _) hij (by simpa [← hsz] using hj')
      rw [ltOf_cmpR, getElem!_pos _ i hi', getElem!_pos _ j hj'] at this
      simpa using of_decide_eq_false this
    · unfold sortWorldK putRowK
      refine ⟨rfl, rfl, rfl, by simp, fun k hk hne => ?_⟩
      rw [heap_grow_old _ _ (by simpa using hk)]
      have : g ≠ k := fun e => hne (by rw [e]; rfl)
      simp [putRow, mapBlock, Sort.ahead, Array.getElem?_modify, this]
theorem AllRel.fin {w wr w2 : World} {g rb : Nat} {kv : KV} {v : Value} {d d' : List Rule} (h : AllRel w g rb kv v wr [] d) (hl' : d'.length = d.length) (ho' : w2.ownsRow w.heap.size 68 3 v d.length (rows ruleC d')) (hp' : d'.Perm d) (hso : d'.Pairwise (fun a b => ¬ ltR b a)) (hg' : wr.grownBy w2 v.ownBlock) : PAllPost w kv (.returned v) w2 := by
  refine ⟨v, d', rfl, by rw [hl']; exact ho', ?_, hso, h.be.grown hg' h.be.size (fun k hk => (h.own.lt k hk).1)⟩
  have h1 := rv_pairs (by simpa using h.pm)
  exact (hp'.map _).trans h1
theorem own_not {w : World} {base : Nat} {e : TypeId} {size n : Nat} {v : Value} {xs : List Value} (h : w.ownsRow base e size v n xs) {b r : Nat} {left : List (Value × Value)} (hr : Rng w b r left) : ∀ k, v.ownBlock = some k → k ≠ b ∧ k ≠ r := fun k hk => by
  obtain ⟨cs, hc⟩ := own_ty' h hk
  exact hr.notCells hc
theorem AllRel.own2 {w wr w2 : World} {g : Nat} {kv : KV} {v : Value} {left : List (Value × Value)} {d : List Rule} (h : AllRel w g w.heap.size kv v wr left d) (hf : Fr (fun j => j = w.heap.size) wr w2) : w2.ownsRow w.heap.size 68 3 v d.length (rows ruleC d) :=
  own_fr h.own hf (fun k hk => (own_not h.own h.rng k hk).2)
theorem AllRel.step {w wr w2 w4 : World} {g : Nat} {kv : KV} {v v4 : Value} {left left2 : List (Value × Value)} {d : List Rule} {k1 k2 : ByteArray} {n : Int} {o : Obj} (h : AllRel w g w.heap.size kv v wr left d) (hp : ((.agg #[.string k1, .string k2], .int .i64 n) :: left2).Perm left) (hr : Rng w2 g w.heap.size left2) (hf : Fr (fun j => j = w.heap.size) wr w2)
    (ho : w4.ownsRow w.heap.size 68 3 v4 (d.length + 1) (rows ruleC d ++ [.string k1, .string k2, .int .i64 n])) (hgr : (w2.alloc o).grownBy w4 v.ownBlock) : AllRel w g w.heap.size kv v4 w4 left2 (d ++ [⟨k1.data.toList, k2.data.toList, n⟩]) := by
  have ho2 := h.own2 hf
  have hn := own_not ho2 hr
  have f1 : Fr (fun k => v.ownBlock = some k) w2 w4 := ((Fr.refl (fun k => v.ownBlock = some k) w2).alloc o).trans (G := fun k => v.ownBlock = some k) (Fr.of_grown hgr fun k e => e) (fun k hk e => e)
  refine ⟨hr.fr f1 (fun e => (hn _ e).1 rfl) (fun e => (hn _ e).2 rfl), ?_, ?_, ?_⟩
  · rw [rv_snoc]
    refine List.Perm.trans ?_ h.pm
    have e : ((Value.agg #[.string (str k1.data.toList), .string (str k2.data.toList)]), Value.int .i64 n) = ((Value.agg #[.string k1, .string k2]), Value.int .i64 n) := rfl
    show (left2 ++ (rv d ++ [((Value.agg #[.string (str k1.data.toList), .string (str k2.data.toList)]), Value.int .i64 n)])).Perm _
    rw [e, ← List.append_assoc]
    refine List.perm_append_comm.trans ?_
    exact (hp.append_right (rv d))
  · rw [rows_snoc, List.length_append]
    exact ho
  · refine h.be.trans ((hf.to_below h.be.size (fun k e => by omega)).trans (f1.to_below (Nat.le_trans h.be.size hf.size) (fun k e => (ho2.lt k e).1)))
set_option maxRecDepth 100000 in
set_option maxHeartbeats 4000000 in
theorem pall_any {w : World} {p : Nat} {kv : KV} {F : Nat → Prop} (H : Tb w p kv F) : Calls Tryd.prog 56 #[.pointer (some ⟨p, 0, none⟩)] w (PAllPost w kv) := by
  obtain ⟨g, ht, hm, hF, hP, hB⟩ := H
  have HMD : Hid (Calls Tryd.prog 90 #[.pointer (some ⟨p, 0, none⟩)] w fun e w' => e = .returned (.bool true) ∧ w = w') := Lib.hid (pmade_any ht)
  have HP := Lib.hid hP
  have HLT := Lib.hid hm.lt
  have hc := ht.cell 0
  have HL := Lib.hid hP.len
  clear ht hF hP
  go_enter Tryd.func56, Tryd.ntmps56
  go_wp2_with fail
  refine (HMD.out).mono ?_
  rintro e w9 ⟨rfl, rfl⟩
  go_wp2_with (first | (at_range; refine wpList_range_is rfl _ 75 rfl _ _ Tryd.underlying75 rfl hB hm ?_; intro w1 hr1 hf1 hs1) | go_in)
  try go_frame
  have H0 : Hid (AllRel w g w.heap.size kv (.slice none 0 0) w1 (kv.map KVf) []) := Lib.hid ⟨hr1, by simp [rv, pairs], ⟨rfl, .inl ⟨rfl, rfl⟩⟩, hf1.to_below (Nat.le_refl _) (fun _ h => h.elim)⟩
  clear hr1 hf1 hs1 hm hB hc
  go_loopw [3] (fun v wr => ∃ left d, AllRel w g w.heap.size kv v wr left d) (fun _ wr => wr.rangeLeft g w.heap.size)
  case atStart => exact ⟨_, _, H0.out⟩
  case round =>
    obtain ⟨left, d, hR⟩ := hrel
    have HR := Lib.hid hR
    have hrg := hR.rng
    have hsh := HP.out.shape hR.pm
    clear hR
    go_wp2_with (first | (at_next; refine wpList_next_is rfl _ rfl (fun k : PK => .agg #[.string k.1, .string k.2]) (fun n : Int => .int .i64 n) rfl hrg hsh ?_ ?_) | go_in)
    · intro h0
      subst h0
      have hlen := rv_len HR.out.pm
      have HS := Lib.hid (sort_rules HR.out.own (by have := HL.out; simp at hlen; omega))
      clear hrg hsh
      go_wp2_with fail
      refine (HS.out).mono ?_
      rintro e w2 ⟨d', rfl, hl', ho', hp', hso, hg'⟩
      have HFIN := Lib.hid (HR.out.fin hl' ho' hp' hso hg')
      clear hl' ho' hp' hso hg'
      go_wp2
      go_ret
      exact HFIN.out
    · intro k1 k2 n w2 left2 hpm hrg2 hf2 hs2 hen
      have HO2 := Lib.hid (HR.out.own2 hf2)
      have HST : Hid (∀ o v4 w4, w4.ownsRow w.heap.size 68 3 v4 (d.length + 1) (rows ruleC d ++ [.string k1, .string k2, .int .i64 n]) → (w2.alloc o).grownBy w4 _ → AllRel w g w.heap.size kv v4 w4 left2 (d ++ [⟨k1.data.toList, k2.data.toList, n⟩])) := Lib.hid (fun o v4 w4 a b => HR.out.step hpm hrg2 hf2 a b)
      have HLE := Lib.hid (Nat.le_trans HR.out.be.size hf2.size)
      have hlen := rv_len HR.out.pm
      have hd : d.length ≤ 500 := by have := HL.out; omega
      have hl1 : left2.length < left.length := by have := hpm.length_eq; simp at this; omega
      have HLL := Lib.hid hl1
      have HLF := Lib.hid hrg.left_eq
      clear hs2 hrg hsh hpm hf2 hlen hl1 hrg2
      go_wp2_with (at_builtin; (refine wpList_app1' rfl (.tmp 19) (.tmp 26) 63 rfl w.heap.size 68 3 40 _ Tryd.underlying63 e68i rfl (by omega) _ _ _ rfl (HO2.out.alloc _) [.string k1, .string k2, .int .i64 n] _ rfl (by first | (simp; done) | rfl) rfl (by intro u hu; simp at hu; rcases hu with rfl | rfl | rfl <;> rfl) (by unfold maxLen; omega) (by omega) (by have := HLE.out; simp; omega) ?_); intro v4 w4 hown4 hb4 hg4 hat4)
      have HZ := Lib.hid (HST.out _ v4 w4 hown4 hg4)
      clear hown4 hb4 hg4 hat4
      go_roundw
      case rel => exact ⟨_, _, HZ.out⟩
      case measure =>
        have e1 := HZ.out.rng.left_eq
        have e2 := HLF.out
        have e3 := HLL.out
        omega
end Go.Proofs.YtpnchfigehgkgaaDoor
namespace Go.Proofs.YtpnchfigehgkgaaDoor
set_option linter.unusedSimpArgs false
set_option linter.unusedVariables false
open Go.RowKit
def wB1 (i : Nat) : UInt8 := UInt8.ofNat (97 + i % 26)
def wB2 (i : Nat) : UInt8 := UInt8.ofNat (97 + i / 26 % 26)
def wT (i : Nat) : T := [wB1 i, wB2 i, 64, 120]
def fr (i : Nat) : Rule := ⟨aT, wT i, 2⟩
def fullE (i : Nat) : PK × Value := ((str aT, str (wT i)), .int .i64 2)
def fullL (k : Nat) : KV := (List.range (min k 500)).map fullE
theorem wT_name : ∀ i, i < 520 → nameB (wT i) = true := by
  have h : (List.range 520).all (fun i => nameB (wT i)) = true := by decide +kernel
  intro i hi
  exact List.all_eq_true.1 h i (List.mem_range.2 hi)
theorem wT_inj : ∀ i, i < 520 → ∀ j, j < 520 → wT i = wT j → i = j := by
  intro i hi j hj h
  unfold wT at h
  simp only [List.cons.injEq, and_true] at h
  obtain ⟨h1, h2⟩ := h
  unfold wB1 at h1
  unfold wB2 at h2
  have e1 := congrArg UInt8.toNat h1
  have e2 := congrArg UInt8.toNat h2
  simp only [UInt8.toNat_ofNat'] at e1 e2
  omega
theorem full_none {k : Nat} (h : k < 520) : mget (keyR (fr k)) (fullL k) = none := by
  refine mget_none fun hm => ?_
  unfold fullL at hm
  rw [List.map_map] at hm
  obtain ⟨i, hi, e⟩ := List.mem_map.1 hm
  have hik := List.mem_range.1 hi
  have e2 : str (wT i) = str (wT k) := congrArg Prod.snd e
  have := wT_inj i (by omega) k h (str_inj e2)
  omega
theorem full_len (k : Nat) : (fullL k).length = min k 500 := by unfold fullL; simp
theorem fr_chk {k : Nat} (h : k < 520) : chkR (fr k) = 0 := chk_ok.2 ⟨nameA, wT_name k h, by show (0 : Int) ≤ 2; decide, by show (2 : Int) ≤ 2; decide⟩
theorem full_step {k : Nat} (h : k < 520) : setE (fullL k) (fr k) = (if k < 500 then 0 else 5) ∧ setL (fullL k) (fr k) = fullL (k + 1) := by
  have hl := full_len k
  by_cases hk : k < 500
  · have hp := set_put (kv := fullL k) (fr_chk h) (by show (2 : Int) ≠ 0; decide) (fun q => by have := q.2; omega)
    rw [if_pos hk]
    refine ⟨hp.1, ?_⟩
    rw [hp.2, mput_new _ (mget_none' (full_none h))]
    unfold fullL
    rw [show min (k + 1) 500 = min k 500 + 1 by omega, List.range_succ, List.map_append, show min k 500 = k by omega]
    rfl
  · have hp := set_full (kv := fullL k) (fr_chk h) (by show (2 : Int) ≠ 0; decide) ⟨full_none h, by omega⟩
    rw [if_neg hk]
    refine ⟨hp.1, ?_⟩
    rw [hp.2]
    unfold fullL
    rw [show min (k + 1) 500 = min k 500 by omega]
def r1 : Rule := ⟨aT, wT 0, 1⟩
def r2 : Rule := ⟨aT, wT 0, 0⟩
def zT : T := [122, 64, 98]
def r3 : Rule := ⟨zT, wT 0, 1⟩
theorem nameZ : nameB zT = true := by decide +kernel
theorem full_zero {k : Nat} (h : 1 ≤ k) : mget (keyR r1) (fullL k) = some (.int .i64 2) := by
  unfold fullL
  obtain ⟨q, hq⟩ : ∃ q, min k 500 = q + 1 := ⟨min k 500 - 1, by omega⟩
  rw [hq, List.range_succ_eq_map, List.map_cons]
  unfold mget
  rw [if_pos (show (fullE 0).1 = keyR r1 from rfl)]
  rfl
theorem f_r1 {k : Nat} (h : 1 ≤ k) : setE (fullL k) r1 = 0 ∧ setL (fullL k) r1 = mput (keyR r1) (.int .i64 1) (fullL k) :=
  set_put (chk_ok.2 ⟨nameA, wT_name 0 (by omega), by show (0 : Int) ≤ 1; decide, by show (1 : Int) ≤ 2; decide⟩) (by show (1 : Int) ≠ 0; decide) (fun q => by rw [full_zero h] at q; cases q.1)
theorem f_ask {k : Nat} (h : 1 ≤ k) : askV (setL (fullL k) r1) aT (wT 0) = 1 := by
  rw [(f_r1 h).2]
  unfold askV
  rw [if_neg (fun q => absurd q.1 (by decide))]
  have : mget (str aT, str (wT 0)) (mput (keyR r1) (.int .i64 1) (fullL k)) = some (.int .i64 1) := by rw [mget_put]; rfl
  rw [this]
  rfl
theorem f_r2 {k : Nat} (h : 1 ≤ k) : setE (setL (fullL k) r1) r2 = 0 ∧ setL (setL (fullL k) r1) r2 = mdel (keyR r1) (setL (fullL k) r1) :=
  set_del (chk_ok.2 ⟨nameA, wT_name 0 (by omega), by show (0 : Int) ≤ 0; decide, by show (0 : Int) ≤ 2; decide⟩) rfl
theorem r3_chk : chkR r3 = 0 := chk_ok.2 ⟨nameZ, wT_name 0 (by omega), by show (0 : Int) ≤ 1; decide, by show (1 : Int) ≤ 2; decide⟩
theorem f_len {k : Nat} (h : 1 ≤ k) : (setL (setL (fullL k) r1) r2).length < 500 := by
  rw [(f_r2 h).2, (f_r1 h).2]
  have h1 := (mdel_perm (k := keyR r1) (v := .int .i64 1) (l := mput (keyR r1) (.int .i64 1) (fullL k)) (by rw [mget_put, if_pos rfl])).length_eq
  rw [mput_len, full_zero h, full_len] at h1
  simp at h1
  omega
theorem f_r3 {k : Nat} (h : 1 ≤ k) : setE (setL (setL (fullL k) r1) r2) r3 = 0 := by
  have hl := f_len h
  generalize setL (setL (fullL k) r1) r2 = kv at *
  exact (set_put (kv := kv) r3_chk (by show (1 : Int) ≠ 0; decide) (fun q => by have := q.2; omega)).1
theorem wT_conv (k : Nat) (w : World) : (convert 49 9 (.slice (some ⟨w.heap.size, 0, none⟩) 2 2)).run Tryd.prog (w.alloc (.cells #[.int .u8 (97 + (k : Int) % 26), .int .u8 (97 + (k : Int) / 26 % 26)] 5)) = .ok (.string (str [wB1 k, wB2 k])) (w.alloc (.cells #[.int .u8 (97 + (k : Int) % 26), .int .u8 (97 + (k : Int) / 26 % 26)] 5)) := by
  refine run_string_own (w := w.alloc _) 49 9 5 Tryd.underlying49 Tryd.underlying5 Tryd.underlying9 (base := w.heap.size) (n := 2) ?_
  have e1 : B (wB1 k) = .int .u8 (97 + (k : Int) % 26) := by
    unfold B wB1; rw [UInt8.toNat_ofNat']; congr 1; omega
  have e2 : B (wB2 k) = .int .u8 (97 + (k : Int) / 26 % 26) := by
    unfold B wB2; rw [UInt8.toNat_ofNat']; congr 1; omega
  refine ⟨by simp, .inr ⟨w.heap.size, 2, #[.int .u8 (97 + (k : Int) % 26), .int .u8 (97 + (k : Int) / 26 % 26)], rfl, Nat.le_refl _, heap_alloc_new w _, by omega, by unfold maxLen; omega, by simp, ?_⟩⟩
  simp [e1, e2]
structure FullRel (w : World) (p : Nat) (F : Nat → Prop) (k : Nat) (wr : World) : Prop where
  tb : Tb wr p (fullL k) F
  be : Below w.heap.size w wr
set_option maxRecDepth 100000 in
set_option maxHeartbeats 8000000 in
theorem policyFull_any (n : Nat) (hn : n ≤ 65535) (w : World) : Calls Tryd.prog 19 #[.int .u16 n] w (TruePost w) := by
  have HA := Lib.hid awake20
  have HNW := Lib.hid (pnew_any w)
  obtain ⟨m, hm⟩ : ∃ m : Nat, 495 + n % 10 = m := ⟨_, rfl⟩
  have hm1 : 495 ≤ m := by omega
  have hm2 : m ≤ 504 := by omega
  have em : (495 : Int) + (n : Int) % 10 = (m : Int) := by omega
  go_enter Tryd.func19, Tryd.ntmps19
  go_wp2_with fail
  refine (HNW.out).mono ?_
  rintro e w1 ⟨p, F, rfl, hT, hb, hF⟩
  have HF := Lib.hid hF
  have H0 : Hid (FullRel w p F 0 w1) := Lib.hid ⟨hT, hb⟩
  clear hT hb hF hn
  go_wp2
  go_loopw [5] (fun i wr => ∃ k : Nat, k ≤ m ∧ i = .int .i64 k ∧ FullRel w p F k wr) (fun i _ => m - (intOf i).toNat)
  case atStart => exact ⟨0, Nat.zero_le _, rfl, H0.out⟩
  case round =>
    obtain ⟨k, hk, rfl, hR⟩ := hrel
    obtain ⟨hT, hB⟩ := hR
    have HT := Lib.hid hT
    have HB := Lib.hid hB
    clear hT hB hm em
    by_cases hlt : k < m
    · have x0 : (0 : Int) ≤ k := by omega
      have x1 : (k : Int) < m := by omega
      have hcv := wT_conv k wr
      have had := fun W => add_str [wB1 k, wB2 k] [64, 120] (by simp) W
      have had' : ∀ W, (Op.stringOp .add (str [wB1 k, wB2 k]) ⟨#[64, 120]⟩).run Tryd.prog W = .ok (.string (str (wT k))) W := had
      have hst := full_step (k := k) (by omega)
      have HSET : Hid (∀ W, Tb W p (fullL k) F → Calls Tryd.prog 53 #[.pointer (some ⟨p, 0, none⟩), .agg #[.string ⟨#[97, 64, 98]⟩, .string (str (wT k)), .int .i64 2]] W (fun e w' => e = .returned (.int .i64 (if k < 500 then 0 else 5)) ∧ Tb w' p (fullL (k + 1)) F ∧ Fr F W w')) := Lib.hid (fun W h => by
        have h2 := pset_any (r := fr k) ⟨by show aT.length ≤ _; decide, by show (wT k).length ≤ _; simp [wT]⟩ h
        unfold PSetPost at h2
        rw [hst.1, hst.2] at h2
        exact h2)
      have HT2 : Hid (∀ o, Tb (wr.alloc o) p (fullL k) F) := Lib.hid (fun o => HT.out.below ((Below.refl _ _).alloc (Nat.le_refl _) _))
      have HEND : Hid (∀ o w', Tb w' p (fullL (k + 1)) F → Fr F (wr.alloc o) w' → FullRel w p F (k + 1) w') := Lib.hid (fun o w' h1 h2 => by
        have hb := HB.out.alloc HB.out.size o
        exact ⟨h1, hb.trans (h2.to_below hb.size HF.out)⟩)
      clear had hst
      generalize wT k = WT at *
      generalize str [wB1 k, wB2 k] = W2 at *
      by_cases hk5 : k < 500
      · have x2 : (k : Int) < 500 := by omega
        rw [if_pos hk5] at HSET
        go_wp2_with fail
        refine (HSET.out _ (HT2.out _)).mono ?_
        rintro e w2 ⟨rfl, hT2, hf2⟩
        have HE := Lib.hid (HEND.out _ w2 hT2 hf2)
        clear hT2 hf2
        go_wp2
        go_roundw
        case rel => exact ⟨k + 1, by omega, by go_num, HE.out⟩
        case measure => simp [intOf] <;> omega
      · have x2 : ¬ (k : Int) < 500 := by omega
        rw [if_neg hk5] at HSET
        go_wp2_with fail
        refine (HSET.out _ (HT2.out _)).mono ?_
        rintro e w2 ⟨rfl, hT2, hf2⟩
        have HE := Lib.hid (HEND.out _ w2 hT2 hf2)
        clear hT2 hf2
        go_wp2
        go_roundw
        case rel => exact ⟨k + 1, by omega, by go_num, HE.out⟩
        case measure => simp [intOf] <;> omega
    · obtain rfl : k = m := by omega
      have HALL := Lib.hid (pall_any HT.out)
      have h1k : 1 ≤ k := by omega
      have e1 := f_r1 h1k
      have e2 := f_r2 h1k
      have e3 := f_r3 h1k
      have ea := f_ask h1k
      have HS1 : Hid (∀ W, Tb W p (fullL k) F → Calls Tryd.prog 53 #[.pointer (some ⟨p, 0, none⟩), .agg #[.string ⟨#[97, 64, 98]⟩, .string ⟨#[97, 97, 64, 120]⟩, .int .i64 1]] W (fun e w' => e = .returned (.int .i64 0) ∧ Tb w' p (setL (fullL k) r1) F ∧ Fr F W w')) := Lib.hid (fun W h => by
        have h2 := pset_any (r := r1) ⟨by decide, by decide⟩ h
        unfold PSetPost at h2
        rw [e1.1] at h2
        exact h2)
      have HAK : Hid (∀ W, Tb W p (setL (fullL k) r1) F → Calls Tryd.prog 55 #[.pointer (some ⟨p, 0, none⟩), .string ⟨#[97, 64, 98]⟩, .string ⟨#[97, 97, 64, 120]⟩] W (fun e w' => e = .returned (.int .i64 1) ∧ Below W.heap.size W w')) := Lib.hid (fun W h => by
        have h2 := pask_any (a := aT) (b := wT 0) (by decide) h
        unfold PAskPost at h2
        rw [ea] at h2
        exact h2)
      have HS2 : Hid (∀ W, Tb W p (setL (fullL k) r1) F → Calls Tryd.prog 53 #[.pointer (some ⟨p, 0, none⟩), .agg #[.string ⟨#[97, 64, 98]⟩, .string ⟨#[97, 97, 64, 120]⟩, .int .i64 0]] W (fun e w' => e = .returned (.int .i64 0) ∧ Tb w' p (setL (setL (fullL k) r1) r2) F ∧ Fr F W w')) := Lib.hid (fun W h => by
        have h2 := pset_any (r := r2) ⟨by decide, by decide⟩ h
        unfold PSetPost at h2
        rw [e2.1] at h2
        exact h2)
      have HS3 : Hid (∀ W, Tb W p (setL (setL (fullL k) r1) r2) F → Calls Tryd.prog 53 #[.pointer (some ⟨p, 0, none⟩), .agg #[.string ⟨#[122, 64, 98]⟩, .string ⟨#[97, 97, 64, 120]⟩, .int .i64 1]] W (fun e w' => e = .returned (.int .i64 0) ∧ Fr F W w')) := Lib.hid (fun W h => by
        have h2 := pset_any (r := r3) ⟨by decide, by decide⟩ h
        unfold PSetPost at h2
        rw [e3] at h2
        exact h2.mono fun _ _ q => ⟨q.1, q.2.2⟩)
      have HLN := Lib.hid (full_len k)
      generalize setL (setL (fullL k) r1) r2 = K2 at *
      generalize setL (fullL k) r1 = K1 at *
      generalize fullL k = K0 at *
      clear e1 e2 e3 ea
      go_wp2_with fail
      refine (HALL.out).mono ?_
      rintro e w2 ⟨v, d, rfl, ho, hp, hs, hb2⟩
      have hdl : d.length = min k 500 := by
        have := hp.length_eq
        unfold pairs at this
        rw [List.length_map, HLN.out] at this
        exact this
      obtain ⟨ga, ca, rfl⟩ := own_pos ho (by omega)
      have HB2 := Lib.hid (HB.out.trans (hb2.mono HB.out.size))
      have HT2 := Lib.hid (HT.out.below hb2)
      clear ho hp hs hb2
      generalize d.length = q at *
      go_wp2_with fail
      refine (HS1.out _ HT2.out).mono ?_
      rintro e w3 ⟨rfl, hT3, hf3⟩
      have HB3 := Lib.hid (HB2.out.trans (hf3.to_below HB2.out.size HF.out))
      have HT3 := Lib.hid hT3
      clear hT3 hf3
      go_wp2_with fail
      refine (HAK.out _ HT3.out).mono ?_
      rintro e w4 ⟨rfl, hb4⟩
      have HB4 := Lib.hid (thenB HB3.out hb4)
      have HT4 := Lib.hid (HT3.out.below hb4)
      clear hb4
      go_wp2_with fail
      refine (HS2.out _ HT4.out).mono ?_
      rintro e w5 ⟨rfl, hT5, hf5⟩
      have HB5 := Lib.hid (HB4.out.trans (hf5.to_below HB4.out.size HF.out))
      have HT5 := Lib.hid hT5
      clear hT5 hf5
      go_wp2_with fail
      refine (HS3.out _ HT5.out).mono ?_
      rintro e w6 ⟨rfl, hf6⟩
      have HB6 := Lib.hid (HB5.out.trans (hf6.to_below HB5.out.size HF.out))
      clear hf6
      go_wp2_with fail
      refine (HA.out _).mono ?_
      rintro e w7 ⟨rfl, hb7⟩
      have HB7 := Lib.hid (thenB HB6.out hb7)
      clear hb7
      go_wp2
      go_ret
      exact ⟨rfl, HB7.out⟩
end Go.Proofs.YtpnchfigehgkgaaDoor
