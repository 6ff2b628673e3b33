/- Chapter 16: how the store's memory goes on where the wheel turns too; the ends of drop, be Chapter 16: what is asked, in memory: documents that lie below a block, sizes, lists of ac -/
import Derived.Test.YthkadehlclcggaaGreatDoorGx03
namespace Go.Proofs.YthkadehlclcggaaGreatDoor
set_option linter.unusedSimpArgs false
set_option linter.unusedVariables false
open Go.RowKit
theorem nodup_inj {α β:Type} {f:α->β}:∀ {l:List α},(l.map f).Nodup->∀ {a b:α},a∈l->b∈l->f a=f b->a=b
 | [],_,_,_,h,_,_=>by cases h
 | x::r,hn,a,b,ha,hb,e=>by
   rw [List.map_cons,List.nodup_cons] at hn
   rcases List.mem_cons.1 ha with e1|ha'
   .rcases List.mem_cons.1 hb with e2|hb'
    .rw [e1,e2]
    .exact absurd (List.mem_map.2 ⟨b,hb',by rw [<-e,e1]⟩) hn.1
   .rcases List.mem_cons.1 hb with e2|hb'
    .exact absurd (List.mem_map.2 ⟨a,ha',by rw [e,e2]⟩) hn.1
    .exact nodup_inj hn.2 ha' hb' e
def SlB (w:World) (B sz n:Nat) (v:Value) (xs:List Value):Prop:=∃ A c,v=.slice A n c/\n<=c/\c<=maxLen/\RdB w B sz n A xs
section
variable {w w':World} {B B' sz n:Nat} {v vt vn:Value} {xs:List Value}
theorem SlB.below (h:SlB w B sz n v xs) (hb:Below B w w'):SlB w' B sz n v xs:=by
 obtain ⟨A,c,e,h1,h2,h3⟩:=h
 exact ⟨A,c,e,h1,h2,h3.below hb⟩
theorem SlB.up (h:SlB w B sz n v xs) (hB:B<=B'):SlB w B' sz n v xs:=by
 obtain ⟨A,c,e,h1,h2,h3⟩:=h
 refine ⟨A,c,e,h1,h2,h3.1,fun hn=>?_⟩
 obtain ⟨gb,off,e,hlt,hc⟩:=h3.2 hn
 exact ⟨gb,off,e,by omega,hc⟩
theorem SlB.of_rdv {T:TypeId} (h:RdV w T sz n v xs):SlB w w.heap.size sz n v xs:=by
 obtain ⟨A,c,e,h1,h2,h3⟩:=h
 exact ⟨A,c,e,h1,h2,h3.1,fun hn=>h3.at_ hn⟩
end
end Go.Proofs.YthkadehlclcggaaGreatDoor
