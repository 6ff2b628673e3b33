/- Chapter 3: scan.Class. -/
import Derived.Test.YthfmekdbcoaolaaGreatDoorProg
import Derived.Test.YthfmekdbcoaolaaGreatDoorGy04
import Derived.Deep.QuietTactic
import Derived.BigQuiet
namespace Go.Proofs.YthfmekdbcoaolaaGreatDoor
set_option linter.unusedSimpArgs false
set_option linter.unusedVariables false
open Go.RowKit
set_option maxRecDepth 100000 in
set_option maxHeartbeats 2000000 in
theorem class_any (c : UInt8) (w : World) : Calls Tryz.prog 93 #[.int .u8 (c.toNat : Int)] w fun e w' => e = .returned (.int .i64 (cls c)) ∧ w = w' := by
  have ho := or32 c
  have HC := Lib.hid (cls_N c)
  have hn : (c.toNat : Int) < 256 := by have := c.toNat_lt; omega
  have hm : ((c ||| 32).toNat : Int) < 256 := by have := (c ||| 32).toNat_lt; omega
  generalize (c ||| 32).toNat = m at *
  generalize cls c = k at *
  generalize c.toNat = n at *
  go_enter Tryz.func93, Tryz.ntmps93
  go_wp2
  all_goals
    go_ret
    refine ⟨ret_int ?_, rfl⟩
    rw [HC.out]
    unfold clsN
    first | omega | (simp only [beq_iff_eq, beq_eq_false_iff_ne, ne_eq, Bool.not_eq_true, decide_eq_true_eq, decide_eq_false_iff_not] at *; omega)
end Go.Proofs.YthfmekdbcoaolaaGreatDoor
