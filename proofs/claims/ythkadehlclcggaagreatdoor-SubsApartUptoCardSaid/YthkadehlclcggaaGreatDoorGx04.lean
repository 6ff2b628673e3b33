/- Bytes as numbers: what the walks ask of a byte. Chapter 3: scan.Class. -/
import Derived.Test.YthkadehlclcggaaGreatDoorGx01
import Derived.Test.YthkadehlclcggaaGreatDoorProg
import Derived.Deep.QuietTactic
import Derived.BigQuiet
namespace Go.Proofs.YthkadehlclcggaaGreatDoor
set_option linter.unusedSimpArgs false
set_option linter.unusedVariables false
open Go.RowKit
open Go.Lib (hid)
theorem or32 (c:UInt8):bits .or .u8 (c.toNat:Int) 32=((c ||| 32).toNat:Int):=by
 have:=all_u8 (p:=fun c=>decide (bits .or .u8 (c.toNat:Int) 32=((c ||| 32).toNat:Int))) (by decide +kernel) c
 simpa using this
def clsN (n m:Int):Int :=
 if 48<=n/\n<=57 then 93 else if 97<=m/\m<=102 then 94 else if 97<=m/\m<=122 then 90 else if n=45\/n=46 then 88 else if n=33\/n=42\/n=95\/n=126\/n=39 then 24
 else if n=37\/n=43\/n=96 then 8 else if n=40\/n=41 then 16 else if n=32\/n=9 then 32 else 0
theorem cls_N (c:UInt8):(cls c:Int)=clsN c.toNat (c ||| 32).toNat:=by
 have:=all_u8 (p:=fun c=>decide ((cls c:Int)=clsN c.toNat (c ||| 32).toNat)) (by decide +kernel) c
 simpa using this
def tstB (k:Int) (c:UInt8):Bool:=!(bits .and .i64 (cls c:Int) k == 0)
theorem tst_dig (c:UInt8):tstB 1 c=dig c:=by
 have:=all_u8 (p:=fun c=>decide (tstB 1 c=dig c)) (by decide +kernel) c
 simpa using this
theorem tst_hex (c:UInt8):tstB 4 c=hexB c:=by
 have:=all_u8 (p:=fun c=>decide (tstB 4 c=hexB c)) (by decide +kernel) c
 simpa using this
theorem tst_pla (c:UInt8):tstB 16 c=pla c:=by
 have:=all_u8 (p:=fun c=>decide (tstB 16 c=pla c)) (by decide +kernel) c
 simpa using this
theorem tst_67 (c:UInt8):tstB 67 c=hos c:=by
 have:=all_u8 (p:=fun c=>decide (tstB 67 c=hos c)) (by decide +kernel) c
 simpa using this
theorem tst_64 (c:UInt8):tstB 64 c=hos c:=by
 have:=all_u8 (p:=fun c=>decide (tstB 64 c=hos c)) (by decide +kernel) c
 simpa using this
theorem lo_N (c:UInt8):(lo c).toNat=if 65<=c.toNat/\c.toNat<=90 then c.toNat+32 else c.toNat:=by
 have:=all_u8 (p:=fun c=>decide ((lo c).toNat=if 65<=c.toNat/\c.toNat<=90 then c.toNat+32 else c.toNat)) (by decide +kernel) c
 simpa using this
set_option maxRecDepth 100000 in
set_option maxHeartbeats 2000000 in
theorem class_any (c:UInt8) (w:World):Calls Tryz.prog 133 #[.int .u8 (c.toNat:Int)] w fun e w'=>e=.returned (.int .i64 (cls c))/\w=w':=by
 have ho:=or32 c
 have HC:=hid (cls_N c)
 have hn:(c.toNat:Int)<256:=by have:=c.toNat_lt;omega
 have hm:((c ||| 32).toNat:Int)<256:=by have:=(c ||| 32).toNat_lt;omega
 generalize (c ||| 32).toNat=m at *
 generalize cls c=k at *
 generalize c.toNat=n at *
 go_enter Tryz.func133,Tryz.ntmps133
 go_wp2
 all_goals
  go_ret
  refine ⟨ret_int ?_,rfl⟩
  rw [HC.out]
  unfold clsN
  first|omega|(simp only [beq_iff_eq,beq_eq_false_iff_ne,ne_eq,Bool.not_eq_true,decide_eq_true_eq,decide_eq_false_iff_not] at *;omega)
end Go.Proofs.YthkadehlclcggaaGreatDoor
