/- The law of a map's key that is a struct of three strings. -/
import Derived.Test.YtgfoobgkpnknmaaProg
import Derived.Test.YtgfoobgkpnknmaaM3
import Derived.DeepKeys3
import Derived.Laws.StructEq
set_option maxRecDepth 100000
namespace Go.Proofs.Ytgfoobgkpnknmaa
open Go.RowKit
abbrev SK := ByteArray × ByteArray × ByteArray
instance : DecidableEq SK := inferInstance
def skKey (k : SK) : Value := .agg #[.string k.1, .string k.2.1, .string k.2.2]
theorem skKey_inj {a b : SK} (h : skKey a = skKey b) : a = b := by
  obtain ⟨a1, a2, a3⟩ := a
  obtain ⟨b1, b2, b3⟩ := b
  simpa [skKey] using h
theorem check_sk (b : Bool) (k : SK) (W : World) : (Instr.checkKey b 10000 156 (skKey k)).run Try.prog W = .ok () W := by
  obtain ⟨k1, k2, k3⟩ := k
  kernel_rfl
theorem toList_ba (a b : ByteArray) : a.toList = b.toList ↔ b = a := by
  rw [ByteArray.toList_eq, ByteArray.toList_eq]
  obtain ⟨⟨x⟩⟩ := a
  obtain ⟨⟨y⟩⟩ := b
  simp [eq_comm]
theorem equal_sk (a b : SK) (W : World) : (Op.equal 156 (skKey a) (skKey b)).run Try.prog W = .ok (decide (b = a)) W := by
  obtain ⟨a1, a2, a3⟩ := a
  obtain ⟨b1, b2, b3⟩ := b
  show (Op.equalIn (9999 + 1) 156 (.agg #[.string a1, .string a2, .string a3]) (.agg #[.string b1, .string b2, .string b3])).run Try.prog W = _
  rw [run_equalIn_struct W 9999 156 _ _ (by kernel_rfl) (by kernel_rfl)]
  simp only [Prod.mk.injEq]
  by_cases q1 : b1 = a1 <;> by_cases q2 : b2 = a2 <;> by_cases q3 : b3 = a3 <;> simp [go_sem, toList_ba, q1, q2, q3]
theorem asking_sk (k : SK) (W : World) : ∀ (es : List MapEntry) (kvs : List (SK × Value)) (i : Nat), es.map (fun e => (e.key, e.val)) = kvs.map (fun x => (skKey x.1, x.2)) →
    (Instr.findAsking 156 (skKey k) es i).run Try.prog W = .ok (lookI k kvs i) W
  | [], [], i, _ => by simp [Instr.findAsking, lookI]
  | [], _ :: _, _, h => by simp at h
  | _ :: _, [], _, h => by simp at h
  | e :: es, x :: kvs, i, h => by
    simp only [List.map_cons, List.cons.injEq, Prod.mk.injEq] at h
    have he := equal_sk k x.1 W
    have ih := asking_sk k W es kvs (i + 1) h.2
    by_cases hx : x.1 = k
    · rw [decide_eq_true hx] at he
      rw [← hx] at he ⊢
      simp [Instr.findAsking, lookI, h.1.1, h.1.2, he]
    · rw [decide_eq_false hx] at he
      simp [Instr.findAsking, lookI, h.1.1, he, hx, ih]
theorem same_sk (k : SK) : Instr.sameBits 10000 (skKey k) (skKey k) = true := by
  obtain ⟨k1, k2, k3⟩ := k
  show Instr.sameBits (9998 + 1 + 1) _ _ = true
  simp [skKey, Instr.sameBits, ba_beq_self]
theorem skLaw : KeyLaw Try.prog 156 skKey where
  check := check_sk
  find := fun es kvs k W h => by rw [run_findKey_eq W (by kernel_rfl)]; exact asking_sk k W es kvs 0 h
  stays := same_sk
end Go.Proofs.Ytgfoobgkpnknmaa
