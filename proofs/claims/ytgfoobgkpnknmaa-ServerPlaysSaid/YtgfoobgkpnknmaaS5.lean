/- The server's Expire: what its loop keeps, in plain Lean; slices.Sort on a row of the call's own. -/
import Derived.Test.YtgfoobgkpnknmaaS4
import Derived.Test.YtgfoobgkpnknmaaSh
import Derived.Sort.OwnSortedInts
namespace Go.Proofs.Ytgfoobgkpnknmaa
set_option linter.unusedSimpArgs false
set_option linter.unusedVariables false
open Go.RowKit
theorem filter_perm {α : Type} {f : α → Int} : ∀ {l : List α} {x : α}, (l.map f).Nodup → x ∈ l → l.Perm (x :: l.filter fun y => decide (f y ≠ f x))
  | [], x, _, h => by cases h
  | a :: r, x, hn, h => by
    rw [List.map_cons, List.nodup_cons] at hn
    rcases List.mem_cons.1 h with e | e
    · subst e
      have : (x :: r).filter (fun y => decide (f y ≠ f x)) = r := by
        rw [List.filter_cons_of_neg (by simp), List.filter_eq_self]
        intro y hy
        exact decide_eq_true fun q => hn.1 (q ▸ List.mem_map.2 ⟨y, hy, rfl⟩)
      rw [this]
    · have hne : f a ≠ f x := fun q => hn.1 (q ▸ List.mem_map.2 ⟨x, e, rfl⟩)
      rw [List.filter_cons_of_pos (by simp [hne])]
      exact ((filter_perm hn.2 e).cons a).trans (List.Perm.swap _ _ _)
/-- the wheel's list is parted by the tick -/
theorem due_filter {l : List TM} (hs : l.Pairwise ah) (now : Int) : rDueA l now = l.filter (fun t => decide (t.1 ≤ now)) ∧ rDueB l now = l.filter (fun t => decide (now < t.1)) := by
  induction l with
  | nil => exact ⟨rfl, rfl⟩
  | cons t r ih =>
    rw [List.pairwise_cons] at hs
    have ih := ih hs.2
    unfold rDueA rDueB at *
    by_cases h : t.1 ≤ now
    · rw [List.takeWhile_cons_of_pos (by simpa using h), List.dropWhile_cons_of_pos (by simpa using h), List.filter_cons_of_pos (by simpa using h), List.filter_cons_of_neg (by simp; omega), ih.1, ih.2]
      exact ⟨rfl, rfl⟩
    · have hr : ∀ s ∈ r, now < s.1 := fun s hs' => by have := hs.1 s hs'; unfold ah at this; omega
      rw [List.takeWhile_cons_of_neg (by simpa using h), List.dropWhile_cons_of_neg (by simpa using h), List.filter_cons_of_neg (by simpa using h), List.filter_cons_of_pos (by simp; omega)]
      constructor
      · rw [List.filter_eq_nil_iff.2 (fun s hs' => by have := hr s hs'; simp; omega)]
      · rw [List.filter_eq_self.2 (fun s hs' => by have := hr s hs'; simp; omega)]
section
variable {most last : Int} {cs : List SC} {l : List TM}
theorem due_ids (H : SvQ most last cs l) (hs : l.Pairwise ah) (now : Int) : ((rDueA l now).map (·.2)).Perm (sGone now cs) := by
  rw [(due_filter hs now).1]
  have h := ((H.lp.filter fun t => decide (t.1 ≤ now)).map (·.2))
  refine h.trans (List.Perm.of_eq ?_)
  unfold sGone
  rw [List.filter_map, List.map_map]
  rfl
theorem due_sorted (H : SvQ most last cs l) (hs : l.Pairwise ah) (now : Int) : (((rDueA l now).map (·.2)).mergeSort fun x y => decide (x ≤ y)) = sGone now cs := by
  refine sorted_is (rises_gone H.p.ids now) ?_ ((List.mergeSort_perm _ _).trans (due_ids H hs now))
  have := List.pairwise_mergeSort (le := fun x y : Int => decide (x ≤ y)) (fun a b c h1 h2 => by simp at *; omega) (fun a b => by simp; omega) ((rDueA l now).map (·.2))
  exact this.imp fun h => by simpa using h
theorem SvQ.keep (H : SvQ most last cs l) (hs : l.Pairwise ah) (now : Int) : SvQ most last (sKeep now cs) (rDueB l now) where
  p := H.p.keep now
  lp := by
    rw [(due_filter hs now).2]
    refine (H.lp.filter fun t => decide (now < t.1)).trans (List.Perm.of_eq ?_)
    unfold sKeep
    rw [List.filter_map]
    rfl
  each := fun c hc => H.each c (List.mem_filter.1 hc).1
  most := H.most
  last := H.last
/-- those that are left behind j deletions -/
def xsJ (xs : List XS) (D : List TM) (j : Nat) : List XS := xs.filter fun x => decide (x.2.id ∉ (D.take j).map (·.2))
theorem xsJ_zero (xs : List XS) (D : List TM) : xsJ xs D 0 = xs := by
  unfold xsJ
  rw [List.filter_eq_self]
  intro x _
  simp
theorem xsJ_succ (xs : List XS) (D : List TM) {j : Nat} (hj : j < D.length) : xsJ xs D (j + 1) = (xsJ xs D j).filter fun x => decide (x.2.id ≠ D[j].2) := by
  unfold xsJ
  rw [List.filter_filter, List.take_succ_eq_append_getElem hj]
  refine List.filter_congr fun x _ => ?_
  rw [List.map_append, Bool.eq_iff_iff]
  simp [and_comm]
theorem xsJ_at {xs : List XS} (H : SvQ most last (xs.map (·.2)) l) (now : Int) {j : Nat} (hj : j < (rDueA l now).length) :
    ∃ (i : Nat) (x : XS), (xsJ xs (rDueA l now) j)[i]? = some x ∧ x.2.id = (rDueA l now)[j].2 ∧ x ∈ xsJ xs (rDueA l now) j ∧ x ∈ xs := by
  have hm : (rDueA l now)[j] ∈ l := (List.takeWhile_sublist _).subset (List.getElem_mem hj)
  have hm2 := H.lp.mem_iff.1 hm
  rw [List.map_map] at hm2
  obtain ⟨x, hx, e⟩ := List.mem_map.1 hm2
  have e2 : x.2.id = (rDueA l now)[j].2 := by rw [← e]; rfl
  have hin : x ∈ xsJ xs (rDueA l now) j := by
    refine List.mem_filter.2 ⟨hx, decide_eq_true fun q => ?_⟩
    have hn : ((rDueA l now).map (·.2)).Nodup := H.nodup_l.sublist ((List.takeWhile_sublist _).map _)
    rw [List.map_take, List.mem_take_iff_getElem] at q
    obtain ⟨k, hk, ek⟩ := q
    have hk' : k < j := by omega
    have := List.pairwise_iff_getElem.1 hn k j (by simp at hk ⊢; omega) (by simpa using hj) hk'
    apply this
    rw [ek, e2]
    simp
  obtain ⟨i, hi⟩ := List.getElem?_of_mem hin
  exact ⟨i, x, hi, e2, hin, hx⟩
theorem xsJ_end {xs : List XS} (H : SvQ most last (xs.map (·.2)) l) (hs : l.Pairwise ah) (now : Int) : (xsJ xs (rDueA l now) (rDueA l now).length).map (·.2) = sKeep now (xs.map (·.2)) := by
  unfold xsJ sKeep
  rw [List.take_length, List.filter_map]
  congr 1
  refine List.filter_congr fun x hx => ?_
  rw [Bool.eq_iff_iff, decide_eq_true_iff, (due_ids H hs now).mem_iff]
  simp only [Function.comp_apply, decide_eq_true_eq]
  have hxc : x.2 ∈ xs.map (·.2) := List.mem_map.2 ⟨x, hx, rfl⟩
  unfold sGone
  constructor
  · intro h
    refine Int.not_le.1 fun q => h (List.mem_map.2 ⟨x.2, List.mem_filter.2 ⟨hxc, by simpa using q⟩, rfl⟩)
  · intro h q
    obtain ⟨c, hc, e⟩ := List.mem_map.1 q
    obtain ⟨hc1, hc2⟩ := List.mem_filter.1 hc
    obtain ⟨i, hi⟩ := List.getElem?_of_mem hc1
    obtain ⟨k, hk⟩ := List.getElem?_of_mem hxc
    have h1 := place_of H.p.ids hi
    have h2 := place_of H.p.ids hk
    rw [e, h2] at h1
    injection h1 with h1
    injection h1 with _ h1
    have : c.over ≤ now := by simpa using hc2
    rw [← h1] at this
    omega
end
section
variable {w w1 w2 w3 : World} {p bn bc pw : Nat} {most last : Int} {xs : List XS} {l : List TM} {F FW : Nat → Prop} {kn : List (SK × Value)} {kc : List (Int × Value)}
/-- one that is due is taken out of both maps -/
theorem SvI.drop (H : SvI w p most last xs l F bn bc pw kn kc FW) (hnd : ((xs.map (·.2)).map (·.id)).Nodup) {i : Nat} {x : XS} (hx : xs[i]? = some x) (hgn : mget x.2.key kn = some (.int .i64 x.2.id)) (hgc : mget x.2.id kc = some (ptr x.1))
    (h2 : MapIs w2 bn skKey (mdel x.2.key kn)) (f2 : Fr (fun k => k = bn) w w2) (h3 : MapIs w3 bc intKey (mdel x.2.id kc)) (f3 : Fr (fun k => k = bc) w2 w3) :
    SvI w3 p most last (xs.filter fun y => decide (y.2.id ≠ x.2.id)) l (SF p bn bc (xs.filter fun y => decide (y.2.id ≠ x.2.id)) FW) bn bc pw (mdel x.2.key kn) (mdel x.2.id kc) FW ∧ Fr (fun k => k = bn ∨ k = bc) w w3 := by
  have hmem := List.mem_of_getElem? hx
  have hnd' : (xs.map fun y => y.2.id).Nodup := by rw [List.map_map] at hnd; exact hnd
  have hpm := filter_perm (f := fun y : XS => y.2.id) hnd' hmem
  have hsub : (xs.filter fun y => decide (y.2.id ≠ x.2.id)).Sublist xs := List.filter_sublist
  have pbn : p ≠ bn := (H.nm.ne H.top).symm
  have pbc : p ≠ bc := (H.cm.ne H.top).symm
  have hits : ∀ y ∈ xs, Blk w3 y.1 158 (scell y.2) := fun y hy => by
    obtain ⟨j, hj⟩ := List.getElem?_of_mem hy
    exact ((H.its j y hj).fr f2 (H.nm.ne (H.its j y hj)).symm).fr f3 (H.cm.ne (H.its j y hj)).symm
  refine ⟨⟨(H.top.fr f2 pbn).fr f3 pbc, h2.fr f3 H.dn, h3, (H.wh.fr f2 (fun k hk e => H.fn (e ▸ hk))).fr f3 (fun k hk e => H.fc (e ▸ hk)),
    fun j y hy => hits y (hsub.subset (List.mem_of_getElem? hy)), H.nd.sublist (hsub.map _), ?_, ?_, H.dn, H.fn, H.fc, fun k => Iff.rfl⟩, ?_⟩
  · exact List.Perm.cons_inv ((mdel_perm hgn).trans (H.pn.trans (hpm.map fun x => (x.2.key, Value.int .i64 x.2.id))))
  · exact List.Perm.cons_inv ((mdel_perm hgc).trans (H.pc.trans (hpm.map fun x => (x.2.id, ptr x.1))))
  · exact (f2.mono fun k _ q => Or.inl q).trans f3 fun k _ q => Or.inr q
end
/-- slices.Sort on a row of the call's own -/
def SortPost (w : World) (base : Nat) (v : Value) (zs : List Int) (e : Ending) (w' : World) : Prop :=
  e = .returned (.tuple #[]) ∧ w'.ownsRow base 3 1 v zs.length ((zs.mergeSort fun x y => decide (x ≤ y)).map (.int .i64)) ∧ w.grownBy w' v.ownBlock
theorem sort_own {w : World} {base : Nat} {v : Value} {zs : List Int} (h : w.ownsRow base 3 1 v zs.length (zs.map (.int .i64))) (hz : zs.length ≤ 1000000) : Calls Try.prog 70 #[v] w (SortPost w base v zs) := by
  rcases h.2 with ⟨rfl, h0⟩ | ⟨g, cap, cur, rfl, hg, hb, h1, h2, h3, h4⟩
  · have hz : zs = [] := List.eq_nil_of_length_eq_zero h0
    subst hz
    refine (Try.slices_Sort_int_none none 0 w).mono ?_
    rintro e w' ⟨rfl, rfl⟩
    exact ⟨rfl, by simpa using h, World.grownBy.refl _ _⟩
  · have hgl : g < w.heap.size := Blk.lt (t := 3) hb
    rw [Nat.mul_one] at h4
    refine (Try.slices_Sort_int g 0 cap zs w (holds_of_blockI hb h4) hgl (by omega)).mono ?_
    rintro e w' ⟨rfl, n, os, rfl⟩
    exact ⟨rfl, ownsRow_sortedI (by simp) hg hb h1 h2 h3, grownBy_sortedI _⟩
theorem own_ty {w : World} {base : Nat} {e : TypeId} {size n : Nat} {v : Value} {xs : List Value} (h : w.ownsRow base e size v n xs) {g : Nat} (hg : v.ownBlock = some g) : ∃ cs, w.heap[g]? = some (.cells cs e (0, 0)) := by
  rcases h.2 with ⟨rfl, _⟩ | ⟨g', cap, cur, rfl, _, hh, _⟩
  · cases hg
  · have : g' = g := by simpa [Value.ownBlock] using hg
    subst this
    exact ⟨cur, hh⟩
end Go.Proofs.Ytgfoobgkpnknmaa
