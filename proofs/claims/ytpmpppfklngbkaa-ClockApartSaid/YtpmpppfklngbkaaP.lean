/- Plain facts on letters and tags. -/
import Derived.WalkKit
namespace Go.Proofs.Ytpmpppfklngbkaa
/-- the letters -/
def lets : List UInt8 := [97, 98, 99, 100, 101, 102, 103, 104, 105, 106, 107, 108, 109, 110, 111, 112, 113, 114, 115, 116, 117, 118, 119, 120, 121, 122, 50, 51, 52, 53, 54, 55]
def letN (n : Nat) : UInt8 := lets.getD (n % 32) 0
def sp : Nat → Nat → List UInt8
  | 0, _ => []
  | k + 1, n => letN n :: sp k (n / 32)
theorem sp_len (k : Nat) : ∀ n, (sp k n).length = k := by induction k with
  | zero => intro n; rfl
  | succ k ih => intro n; simp [sp, ih]
theorem sp_snoc (k : Nat) : ∀ n, sp (k + 1) n = sp k n ++ [letN (n / 32 ^ k)] := by
  induction k with
  | zero => intro n; simp [sp]
  | succ k ih =>
    intro n
    rw [sp, ih, sp]
    simp [Nat.div_div_eq_div_mul, Nat.pow_succ, Nat.mul_comm]
def tagL (d c : Nat) : List UInt8 := sp 13 d ++ sp 9 c
theorem letN_mod (q : Nat) : letN (q % 32) = letN q := by unfold letN; rw [Nat.mod_mod]
/-- a letter's number; 32: it is none -/
def idx (c : UInt8) : Nat := lets.idxOf c
theorem idx_le (c : UInt8) : idx c ≤ 32 := List.idxOf_le_length (l := lets)
theorem idx_let (n : Nat) : idx (letN n) = n % 32 := by
  have : ∀ r : Fin 32, idx (letN r) = r := by decide
  rw [← letN_mod]; exact this ⟨n % 32, by omega⟩
theorem let_idx (c : UInt8) (h : idx c < 32) : letN (idx c) = c := by
  unfold letN; rw [Nat.mod_eq_of_lt h]; unfold idx at h ⊢
  have hm : c ∈ lets := List.idxOf_lt_length_iff.1 h
  rw [List.getD_eq_getElem?_getD, List.getElem?_eq_getElem h]
  exact List.getElem_idxOf h
theorem let_ne (c : UInt8) (j : Nat) (h : j < idx c) : letN j ≠ c := by
  intro e
  have := idx_let j
  rw [e, Nat.mod_eq_of_lt (by have := idx_le c; omega)] at this
  omega
def val : List UInt8 → Nat
  | [] => 0
  | c :: r => (val r * 32) % 18446744073709551616 + idx c
def allL (l : List UInt8) : Bool := l.all fun c => decide (idx c < 32)
theorem val_lt (l : List UInt8) (h : allL l = true) : val l < 18446744073709551616 := by
  cases l with
  | nil => simp [val]
  | cons c r =>
    simp [allL] at h
    simp only [val]
    omega
theorem allL_sp (k : Nat) : ∀ n, allL (sp k n) = true := by
  induction k with
  | zero => intro n; rfl
  | succ k ih =>
    intro n
    have := ih (n / 32)
    simp only [allL, sp, List.all_cons, Bool.and_eq_true, decide_eq_true_eq] at this ⊢
    exact ⟨by rw [idx_let]; omega, this⟩
theorem val_sp (k : Nat) : ∀ n, n < 18446744073709551616 → n < 32 ^ k → val (sp k n) = n := by
  induction k with
  | zero => intro n _ h; simp at h; simp [sp, val, h]
  | succ k ih =>
    intro n h1 h2
    simp only [sp, val]
    rw [ih (n / 32) (by omega) (by rw [Nat.pow_succ] at h2; omega), idx_let]
    omega
/-- the sum of the document's reading -/
def sumL : List UInt8 → Nat → Nat
  | [], _ => 0
  | c :: r, i => (idx c * 2 ^ (5 * i)) % 18446744073709551616 + sumL r (i + 1)
theorem sumL_sp (k : Nat) : ∀ n i, 5 * i + 5 * k ≤ 69 → n < 32 ^ k → n * 2 ^ (5 * i) < 18446744073709551616 → sumL (sp k n) i = n * 2 ^ (5 * i) := by
  induction k with
  | zero => intro n i _ h _; simp at h; simp [sp, sumL, h]
  | succ k ih =>
    intro n i hi h2 h1
    have e : 2 ^ (5 * (i + 1)) = 32 * 2 ^ (5 * i) := by rw [show 5 * (i + 1) = 5 * i + 5 from by omega, Nat.pow_add]; omega
    have hp : 0 < 2 ^ (5 * i) := Nat.pos_of_ne_zero (by simp)
    simp only [sp, sumL]
    generalize 2 ^ (5 * i) = p at *
    have h3 : (n / 32) * (32 * p) ≤ n * p := by
      rw [← Nat.mul_assoc]
      exact Nat.mul_le_mul_right _ (by omega)
    have h4 : (n % 32) * p ≤ n * p := Nat.mul_le_mul_right _ (Nat.mod_le _ _)
    rw [ih (n / 32) (i + 1) (by omega) (by rw [Nat.pow_succ] at h2; omega) (by rw [e]; omega), idx_let, e, Nat.mod_eq_of_lt (by omega)]
    have : n * p = (32 * (n / 32) + n % 32) * p := by rw [Nat.div_add_mod]
    rw [this, Nat.add_mul, ← Nat.mul_assoc, Nat.mul_comm (n / 32) 32]
    omega
theorem sumL_snoc (l : List UInt8) (c : UInt8) : ∀ i, sumL (l ++ [c]) i = sumL l i + (idx c * 2 ^ (5 * (i + l.length))) % 18446744073709551616 := by
  induction l with
  | nil => intro i; simp [sumL]
  | cons x r ih => intro i; simp only [List.cons_append, sumL, ih, List.length_cons]; rw [show i + 1 + r.length = i + (r.length + 1) from by omega]; omega
end Go.Proofs.Ytpmpppfklngbkaa
