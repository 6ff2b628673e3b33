/- Bytes as numbers: what the walks ask of a byte. -/
import Derived.Test.YthfmekdbcoaolaaGreatDoorGy01
namespace Go.Proofs.YthfmekdbcoaolaaGreatDoor
open Go.RowKit
theorem or32 (c : UInt8) : bits .or .u8 (c.toNat : Int) 32 = ((c ||| 32).toNat : Int) := by
  have := all_u8 (p := fun c => decide (bits .or .u8 (c.toNat : Int) 32 = ((c ||| 32).toNat : Int))) (by decide +kernel) c
  simpa using this
/-- scan.Class's switch, in numbers: the byte, and the byte | 32 -/
def clsN (n m : Int) : Int :=
  if 48 ≤ n ∧ n ≤ 57 then 93 else if 97 ≤ m ∧ m ≤ 102 then 94 else if 97 ≤ m ∧ m ≤ 122 then 90 else if n = 45 ∨ n = 46 then 88 else if n = 33 ∨ n = 42 ∨ n = 95 ∨ n = 126 ∨ n = 39 then 24
  else if n = 37 ∨ n = 43 ∨ n = 96 then 8 else if n = 40 ∨ n = 41 then 16 else if n = 32 ∨ n = 9 then 32 else 0
theorem cls_N (c : UInt8) : (cls c : Int) = clsN c.toNat (c ||| 32).toNat := by
  have := all_u8 (p := fun c => decide ((cls c : Int) = clsN c.toNat (c ||| 32).toNat)) (by decide +kernel) c
  simpa using this
/-- does a class's bit stand? -/
def tstB (k : Int) (c : UInt8) : Bool := !(bits .and .i64 (cls c : Int) k == 0)
theorem tst_dig (c : UInt8) : tstB 1 c = dig c := by
  have := all_u8 (p := fun c => decide (tstB 1 c = dig c)) (by decide +kernel) c
  simpa using this
theorem tst_hex (c : UInt8) : tstB 4 c = hexB c := by
  have := all_u8 (p := fun c => decide (tstB 4 c = hexB c)) (by decide +kernel) c
  simpa using this
theorem tst_pla (c : UInt8) : tstB 16 c = pla c := by
  have := all_u8 (p := fun c => decide (tstB 16 c = pla c)) (by decide +kernel) c
  simpa using this
theorem tst_67 (c : UInt8) : tstB 67 c = hos c := by
  have := all_u8 (p := fun c => decide (tstB 67 c = hos c)) (by decide +kernel) c
  simpa using this
theorem tst_64 (c : UInt8) : tstB 64 c = hos c := by
  have := all_u8 (p := fun c => decide (tstB 64 c = hos c)) (by decide +kernel) c
  simpa using this
theorem lo_N (c : UInt8) : (lo c).toNat = if 65 ≤ c.toNat ∧ c.toNat ≤ 90 then c.toNat + 32 else c.toNat := by
  have := all_u8 (p := fun c => decide ((lo c).toNat = if 65 ≤ c.toNat ∧ c.toNat ≤ 90 then c.toNat + 32 else c.toNat)) (by decide +kernel) c
  simpa using this
end Go.Proofs.YthfmekdbcoaolaaGreatDoor
