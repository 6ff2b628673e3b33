/- Chapter 19: Find. -/
import Derived.Test.YthkadehlclcggaaGreatDoorGy61
import Derived.Test.YthkadehlclcggaaGreatDoorGy55
namespace Go.Proofs.YthkadehlclcggaaGreatDoor
set_option linter.unusedSimpArgs false
set_option linter.unusedVariables false
open Go.RowKit
open Go.Lib (hid)
def findSV (L:List SubP) (r:ReqP):Value:=match findS L r with|some s=>.tuple #[.int .i64 s.number,.bool true]|none=>.tuple #[.int .i64 0,.bool false]
def NoMat (L:List SubP) (r:ReqP) (k:Nat):Prop:=(L.take k).find? (fun s=>matchB s.dlg r)=none
theorem NoMat.next {L:List SubP} {r:ReqP} {k:Nat} (h:NoMat L r k) (hk:k<L.length) (hb:matchB (L[k]).dlg r=false):NoMat L r (k+1):=by
 unfold NoMat at *
 rw [List.take_succ_eq_append_getElem hk,List.find?_append,h]
 simp [hb]
theorem NoMat.hit {L:List SubP} {r:ReqP} {k:Nat} (h:NoMat L r k) (hk:k<L.length) (hb:matchB (L[k]).dlg r=true):findSV L r=.tuple #[.int .i64 (L[k]).number,.bool true]:=by
 have e:findS L r=some L[k]:=by
  unfold findS
  have e1:L=L.take k++L[k]::L.drop (k+1):=by rw [List.getElem_cons_drop hk,List.take_append_drop]
  conv=>lhs;rw [e1]
  unfold NoMat at h
  rw [List.find?_append,h,List.find?_cons_of_pos (by exact hb)]
  rfl
 unfold findSV
 rw [e]
theorem NoMat.fin {L:List SubP} {r:ReqP} (h:NoMat L r L.length):findSV L r=.tuple #[.int .i64 0,.bool false]:=by
 unfold NoMat at h
 rw [List.take_length] at h
 unfold findSV findS
 rw [h]
end Go.Proofs.YthkadehlclcggaaGreatDoor
