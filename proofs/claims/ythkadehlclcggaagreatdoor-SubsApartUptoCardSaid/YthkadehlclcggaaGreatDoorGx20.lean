/- Chapter 3: uri.Parse. -/
import Derived.Test.YthkadehlclcggaaGreatDoorGx19
import Derived.Deep.DeepCutAuto
import Derived.Deep.CutBlock
namespace Go.Proofs.YthkadehlclcggaaGreatDoor
set_option linter.unusedSimpArgs false
set_option linter.unusedVariables false
open Go.RowKit
theorem user_some {l t:T} (h:userO l=some t):plainT users l=some t/\t≠[]/\¬64<t.length:=by
 unfold userO at h
 cases hp:plainT users l with
 | none=>rw [hp] at h;cases h
 | some x =>
   rw [hp] at h
   simp only at h
   split at h
   .cases h
   .rename_i hn
    injection h with h
    subst h
    exact ⟨rfl,fun q=>hn (.inl q),fun q=>hn (.inr q)⟩
theorem user_some_len {l t:T} (h:userO l=some t):t.length<=64:=by have:=(user_some h).2.2;omega
theorem cutV_is {s:ByteArray} {c:UInt8} {p q:T} {f:Bool} (h:cutT c s.data.toList=(p,q,f)):cutV s c=.tuple #[.string (str p),.string (str q),.bool f]:=by unfold cutV;rw [h]
end Go.Proofs.YthkadehlclcggaaGreatDoor
