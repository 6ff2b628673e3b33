/- The wheel as an object: what it keeps, and New, made, Len, When, Next. -/
import Derived.Test.YtgfoobgkpnknmaaW5
import Derived.Test.YtgfoobgkpnknmaaM3
import Derived.StillTailTactics
namespace Go.Proofs.Ytgfoobgkpnknmaa
open Go.RowKit
def WF (p bm : Nat) (hv : Value) (xs : List X) (k : Nat) : Prop := k = p ∨ k = bm ∨ Foot hv xs k
/-- block p is a wheel that keeps the timers l, in order; its memory is F -/
structure WhI (w : World) (p : Nat) (l : List TM) (F : Nat → Prop) (bm : Nat) (hv : Value) (xs : List X) (kvs : List (Int × Value)) : Prop where
  hp : Hp w p bm hv xs
  hh : heap xs xs.length
  mp : MapIs w bm intKey kvs
  kp : kvs.Perm (xs.map fun x => (x.2.2, ptr x.1))
  lp : l.Perm (xs.map (·.2))
  nd : (l.map (·.2)).Nodup
  so : l.Pairwise ah
  le : l.length ≤ 4096
  ff : ∀ k, F k ↔ WF p bm hv xs k
def Wh (w : World) (p : Nat) (l : List TM) (F : Nat → Prop) : Prop := ∃ bm hv xs kvs, WhI w p l F bm hv xs kvs
def Ext (F F' : Nat → Prop) (w : World) : Prop := ∀ k, F' k → F k ∨ w.heap.size ≤ k
section
variable {w w' : World} {p bm : Nat} {l : List TM} {F G : Nat → Prop} {hv : Value} {xs : List X} {kvs : List (Int × Value)}
theorem WhI.bmp (H : WhI w p l F bm hv xs kvs) : bm ≠ p := H.mp.ne H.hp.top
theorem WhI.bmf (H : WhI w p l F bm hv xs kvs) : ¬ Foot hv xs bm := by
  rintro (e | e)
  · rcases H.hp.row.2 with ⟨e', _⟩ | ⟨gb, cap, cur, e', _, hb, _⟩
    · rw [e'] at e; cases e
    · rw [e'] at e
      have : gb = bm := by simpa [Value.ownBlock] using e
      subst this
      exact H.mp.ne (t := 130) hb rfl
  · obtain ⟨x, hx, rfl⟩ := List.mem_map.1 e
    obtain ⟨i, hi⟩ := List.getElem?_of_mem hx
    exact H.mp.ne (H.hp.its i x hi) rfl
theorem WhI.drewN (H : WhI w p l F bm hv xs kvs) (n : Nat) : WhI (w.drewN n) p l F bm hv xs kvs := ⟨H.hp.drewN n, H.hh, H.mp.drewN n, H.kp, H.lp, H.nd, H.so, H.le, H.ff⟩
theorem WhI.fr (H : WhI w p l F bm hv xs kvs) (hf : Fr G w w') (hd : ∀ k, F k → ¬ G k) : WhI w' p l F bm hv xs kvs :=
  ⟨H.hp.fr hf (hd p ((H.ff p).2 (.inl rfl))) (fun k hk => hd k ((H.ff k).2 (.inr (.inr hk)))), H.hh, H.mp.fr hf (hd bm ((H.ff bm).2 (.inr (.inl rfl)))), H.kp, H.lp, H.nd, H.so, H.le, H.ff⟩
theorem Wh.fr (H : Wh w p l F) (hf : Fr G w w') (hd : ∀ k, F k → ¬ G k) : Wh w' p l F := by
  obtain ⟨bm, hv, xs, kvs, H⟩ := H
  exact ⟨bm, hv, xs, kvs, H.fr hf hd⟩
theorem WhI.lt (H : WhI w p l F bm hv xs kvs) {k : Nat} (hk : F k) : k < w.heap.size := by
  rcases (H.ff k).1 hk with rfl | rfl | hk | hk
  · exact H.hp.top.lt
  · exact H.mp.lt
  · exact (H.hp.row.lt k hk).2
  · obtain ⟨x, hx, rfl⟩ := List.mem_map.1 hk
    obtain ⟨i, hi⟩ := List.getElem?_of_mem hx
    exact (H.hp.its i x hi).lt
theorem Wh.lt (H : Wh w p l F) {k : Nat} (hk : F k) : k < w.heap.size := by
  obtain ⟨bm, hv, xs, kvs, H⟩ := H
  exact H.lt hk
theorem Wh.below (H : Wh w p l F) (hb : Below w.heap.size w w') : Wh w' p l F := H.fr (Fr.of_below (F := fun _ => False) hb) (fun _ _ h => h)
theorem WhI.len (H : WhI w p l F bm hv xs kvs) : xs.length = l.length := by have := H.lp.length_eq; simpa using this.symm
theorem WhI.keys (H : WhI w p l F bm hv xs kvs) : (kvs.map (·.1)).Nodup := by
  have h1 : (kvs.map (·.1)).Perm (l.map (·.2)) := by
    have := (H.kp.map (·.1)).trans ((H.lp.map (·.2)).symm.trans (List.Perm.refl _) |> fun h => by simpa [Function.comp_def] using h)
    simpa [Function.comp_def] using this
  exact (h1.nodup_iff).2 H.nd
/-- what the map says of a name -/
theorem WhI.found (H : WhI w p l F bm hv xs kvs) {i : Nat} {x : X} (hx : xs[i]? = some x) : mget x.2.2 kvs = some (ptr x.1) :=
  mget_of_mem H.keys (H.kp.mem_iff.2 (List.mem_map.2 ⟨x, List.mem_of_getElem? hx, rfl⟩))
theorem WhI.get (H : WhI w p l F bm hv xs kvs) (id : Int) : (mget id kvs = none ∧ id ∉ l.map (·.2)) ∨ ∃ (i : Nat) (x : X), xs[i]? = some x ∧ x.2.2 = id ∧ mget id kvs = some (ptr x.1) := by
  cases h : mget id kvs with
  | none =>
    refine .inl ⟨rfl, fun hm => ?_⟩
    obtain ⟨t, ht, rfl⟩ := List.mem_map.1 hm
    obtain ⟨x, hx, rfl⟩ := List.mem_map.1 (H.lp.mem_iff.1 ht)
    obtain ⟨i, hi⟩ := List.getElem?_of_mem hx
    rw [H.found hi] at h
    cases h
  | some v =>
    have := H.kp.mem_iff.1 (mget_mem h)
    obtain ⟨x, hx, e⟩ := List.mem_map.1 this
    obtain ⟨i, hi⟩ := List.getElem?_of_mem hx
    simp only [Prod.mk.injEq] at e
    exact .inr ⟨i, x, hi, e.1, by rw [← e.2]⟩
theorem WhI.get_l (H : WhI w p l F bm hv xs kvs) {i : Nat} {x : X} (hx : xs[i]? = some x) : x.2 ∈ l := H.lp.mem_iff.2 (List.mem_map.2 ⟨x, List.mem_of_getElem? hx, rfl⟩)
end
theorem zitem (w : World) : (zeroValue 130).run Try.prog w = .ok (.pointer none) w := by kernel_rfl
theorem made_any {w : World} {p bm : Nat} {hv : Value} (h : Blk w p 63 #[hv, .map (some bm)]) :
    Calls Try.prog 57 #[.pointer (some ⟨p, 0, none⟩)] w fun e w' => e = .returned (.bool true) ∧ w = w' := by
  have hc := h.cell 1
  have qT : ∀ (w : World) (r : Option Nat), (binOp .neq 61 (.map r) (.map none)).run Try.prog w = .ok (.bool (!r.isNone)) w := fun w r => run_neq_map_nil w _ _ _ r Try.underlying61
  go_enter Try.func57, Try.ntmps57
  go_wp2
  go_ret
  exact ⟨rfl, rfl⟩
theorem made_nil (w : World) : Calls Try.prog 57 #[.pointer none] w fun e w' => e = .returned (.bool false) ∧ w = w' := by
  go_enter Try.func57, Try.ntmps57
  go_wp2
  go_ret
  exact ⟨rfl, rfl⟩
theorem made_zero {w : World} {p : Nat} {hv : Value} (h : Blk w p 63 #[hv, .map none]) :
    Calls Try.prog 57 #[.pointer (some ⟨p, 0, none⟩)] w fun e w' => e = .returned (.bool false) ∧ w = w' := by
  have hc := h.cell 1
  have qT : ∀ (w : World) (r : Option Nat), (binOp .neq 61 (.map r) (.map none)).run Try.prog w = .ok (.bool (!r.isNone)) w := fun w r => run_neq_map_nil w _ _ _ r Try.underlying61
  go_enter Try.func57, Try.ntmps57
  go_wp2
  go_ret
  exact ⟨rfl, rfl⟩
def NewPost (w : World) (e : Ending) (w' : World) : Prop := ∃ p F, e = .returned (.pointer (some ⟨p, 0, none⟩)) ∧ Wh w' p [] F ∧ Below w.heap.size w w' ∧ ∀ k, F k → w.heap.size ≤ k
theorem new_any (w : World) : Calls Try.prog 27 #[] w (NewPost w) := by
  have hmm := @run_makeMap Try.prog
  have HP : NewPost w (.returned (.pointer (some ⟨w.heap.size + 1, 0, none⟩))) ((w.alloc (.map #[] 0)).alloc (.cells #[.slice none 0 0, .map (some w.heap.size)] 63)) := by
    have h1 := Blk.new (w.alloc (.map #[] 0)) 63 #[.slice none 0 0, .map (some w.heap.size)]
    have h2 := (MapIs.made (κ := Int) w intKey).fr ((Fr.refl (fun _ => False) _).alloc (.cells #[.slice none 0 0, .map (some w.heap.size)] 63)) (fun h => h)
    have hs : (w.alloc (.map #[] 0)).heap.size = w.heap.size + 1 := by simp
    rw [hs] at h1
    refine ⟨_, WF (w.heap.size + 1) w.heap.size (.slice none 0 0) [], rfl, ⟨w.heap.size, .slice none 0 0, [], [], ⟨⟨h1, ⟨rfl, .inl ⟨rfl, rfl⟩⟩, fun i x hx => by simp at hx, by simp⟩, fun k h0 hk => by simp at hk, h2, List.Perm.refl _, List.Perm.refl _, by simp, List.Pairwise.nil, by simp, fun k => Iff.rfl⟩⟩,
      ((Below.refl _ _).alloc (Nat.le_refl _) _).alloc (by simp) _, fun k hk => ?_⟩
    rcases hk with rfl | rfl | hk | hk
    · omega
    · omega
    · simp [Value.ownBlock] at hk
    · simp at hk
  go_enter Try.func27, Try.ntmps27
  go_wp2
  go_ret
  exact HP
theorem len_any {w : World} {p : Nat} {l : List TM} {F : Nat → Prop} (H : Wh w p l F) :
    Calls Try.prog 24 #[.pointer (some ⟨p, 0, none⟩)] w fun e w' => e = .returned (.int .i64 l.length) ∧ w = w' := by
  obtain ⟨bm, hv, xs, kvs, H⟩ := H
  obtain ⟨A, cap, e⟩ := H.hp.form0
  have hc := H.hp.top.cell 0
  have HL := Lib.hid H.len
  subst e
  go_enter Try.func24, Try.ntmps24
  go_wp2_with fail
  refine (made_any H.hp.top).mono ?_
  rintro e w' ⟨rfl, rfl⟩
  go_wp2
  go_ret
  exact ⟨ret_int (by rw [HL.out]), rfl⟩
end Go.Proofs.Ytgfoobgkpnknmaa
