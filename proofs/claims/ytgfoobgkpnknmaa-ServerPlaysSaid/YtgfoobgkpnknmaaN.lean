/- Slices of structs: the cells of a list of rows, one after another. -/
import Derived.Test.YtgfoobgkpnknmaaM5
namespace Go.Proofs.Ytgfoobgkpnknmaa
open Go.RowKit
def rows {α : Type} (f : α → List Value) (l : List α) : List Value := l.flatMap f
section
variable {α : Type} {f : α → List Value} {sz : Nat}
theorem rows_snoc (l : List α) (a : α) : rows f (l ++ [a]) = rows f l ++ f a := by simp [rows]
theorem rows_append (l m : List α) : rows f (l ++ m) = rows f l ++ rows f m := by simp [rows]
theorem rows_cons (a : α) (l : List α) : rows f (a :: l) = f a ++ rows f l := rfl
theorem rows_len (hf : ∀ a, (f a).length = sz) : ∀ l : List α, (rows f l).length = l.length * sz
  | [] => by simp [rows]
  | a :: l => by rw [rows_cons, List.length_append, rows_len hf l, hf, List.length_cons, Nat.add_mul]; omega
theorem rows_at (hf : ∀ a, (f a).length = sz) : ∀ {l : List α} {i : Nat} (hi : i < l.length) {j : Nat}, j < sz → (rows f l)[i * sz + j]? = (f l[i])[j]?
  | a :: l, 0, _, j, hj => by
    rw [rows_cons, Nat.zero_mul, Nat.zero_add, List.getElem?_append_left (by rw [hf]; exact hj)]; rfl
  | a :: l, i + 1, hi, j, hj => by
    have := rows_at hf (l := l) (i := i) (by simpa using hi) hj
    rw [rows_cons, List.getElem?_append_right (by rw [hf, Nat.add_mul]; omega), hf, show (i + 1) * sz + j - sz = i * sz + j by rw [Nat.add_mul]; omega, this]; rfl
theorem rows_take (hf : ∀ a, (f a).length = sz) : ∀ (l : List α) (k : Nat), rows f (l.take k) = (rows f l).take (k * sz)
  | [], k => by simp [rows]
  | a :: l, 0 => by simp [rows]
  | a :: l, k + 1 => by
    rw [List.take_succ_cons, rows_cons, rows_cons, rows_take hf l k, List.take_append, hf, show (k + 1) * sz - sz = k * sz by rw [Nat.add_mul]; omega, List.take_of_length_le (l := f a) (by rw [hf, Nat.add_mul]; omega)]
theorem rows_drop (hf : ∀ a, (f a).length = sz) : ∀ (l : List α) (k : Nat), rows f (l.drop k) = (rows f l).drop (k * sz)
  | [], k => by simp [rows]
  | a :: l, 0 => by simp [rows]
  | a :: l, k + 1 => by
    rw [List.drop_succ_cons, rows_cons, rows_drop hf l k, List.drop_append, hf, show (k + 1) * sz - sz = k * sz by rw [Nat.add_mul]; omega, List.drop_eq_nil_of_le (as := f a) (by rw [hf, Nat.add_mul]; omega), List.nil_append]
theorem rows_one (h1 : ∀ a, ∀ u ∈ f a, u.oneCell' = true) (l : List α) : ∀ u ∈ rows f l, u.oneCell' = true := by
  intro u hu
  unfold rows at hu
  rw [List.mem_flatMap] at hu
  obtain ⟨a, _, h⟩ := hu
  exact h1 a u h
theorem rd_row {w : World} {T : TypeId} {l : List α} {A : Option Addr} (hf : ∀ a, (f a).length = sz) (h : Rd w T sz l.length A (rows f l)) {i : Nat} (hi : i < l.length) :
    ∃ gb off, A = some ⟨gb, off, none⟩ ∧ gb < w.heap.size ∧ ∀ j, j < sz → w.cell? ⟨gb, off + i * sz + j, none⟩ = (f l[i])[j]? := by
  obtain ⟨gb, off, e, hlt, hc⟩ := h.at_ (by omega)
  refine ⟨gb, off, e, hlt, fun j hj => ?_⟩
  have hr := rows_at hf hi hj
  have hv : (f l[i])[j]? = some ((f l[i])[j]'(by rw [hf]; exact hj)) := List.getElem?_eq_getElem _
  rw [Nat.add_assoc, hv]
  exact hc _ _ (hr.trans hv)
theorem rd_take {w : World} {T : TypeId} {l : List α} {A : Option Addr} (hf : ∀ a, (f a).length = sz) (h : Rd w T sz l.length A (rows f l)) {k : Nat} (hk : k ≤ l.length) : Rd w T sz k A (rows f (l.take k)) := by
  rw [rows_take hf]; exact h.take hk
theorem rd_cut {w : World} {T : TypeId} {l : List α} {A : Option Addr} (hf : ∀ a, (f a).length = sz) (h : Rd w T sz l.length A (rows f l)) {k cap : Nat} (hk : k ≤ l.length) (hc : l.length ≤ cap) :
    Rd w T sz (l.length - k) (if cap = k then A else A.map (·.add (k * sz))) (rows f (l.drop k)) := by
  rw [rows_drop hf]; exact h.cut hk hc
end
end Go.Proofs.Ytgfoobgkpnknmaa
