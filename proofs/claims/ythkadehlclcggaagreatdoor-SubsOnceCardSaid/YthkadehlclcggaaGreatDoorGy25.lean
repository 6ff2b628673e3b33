/- Chapter 16: how the store's memory goes on where the wheel turns too; the ends of drop, be Chapter 16: what is asked, in memory: documents that lie below a block, sizes, lists of ac -/
import Derived.Test.YthkadehlclcggaaGreatDoorGy03
namespace Go.Proofs.YthkadehlclcggaaGreatDoor
set_option linter.unusedSimpArgs false
set_option linter.unusedVariables false
open Go.RowKit
theorem nodup_inj {α β:Type} {f:α->β}:∀ {l:List α},(l.map f).Nodup->∀ {a b:α},a∈l->b∈l->f a=f b->a=b
 | [],_,_,_,h,_,_=>by cases h
 | x::r,hn,a,b,ha,hb,e=>by
   rw [List.map_cons,List.nodup_cons] at hn
   rcases List.mem_cons.1 ha with e1|ha'
   .rcases List.mem_cons.1 hb with e2|hb'
    .rw [e1,e2]
    .exact absurd (List.mem_map.2 ⟨b,hb',by rw [<-e,e1]⟩) hn.1
   .rcases List.mem_cons.1 hb with e2|hb'
    .exact absurd (List.mem_map.2 ⟨a,ha',by rw [e,e2]⟩) hn.1
    .exact nodup_inj hn.2 ha' hb' e
def SlB (w:World) (B sz n:Nat) (v:Value) (xs:List Value):Prop:=∃ A c,v=.slice A n c/\n<=c/\c<=maxLen/\RdB w B sz n A xs
structure DocB (w:World) (B:Nat) (d:DocP) (vt vn:Value):Prop where
 t:SlB w B 5 d.tups.length vt (rows tupC d.tups)
 n:SlB w B 1 d.notes.length vn (rows noteC d.notes)
structure TupS (t:Tup):Prop where
 id:t.id.length<=140737488351232
 contact:t.contact.length<=140737488351232
 note:t.note.length<=140737488351232
 lo:-9223372036854775808<=t.prio
 hi:t.prio<=9223372036854775807
structure DocS (d:DocP):Prop where
 ent:d.ent.length<=140737488351232
 tups:∀ t∈d.tups,TupS t
 notes:∀ s∈d.notes,s.length<=140737488351232
 lt:d.tups.length<=140737488351232
 ln:d.notes.length<=140737488351232
structure AskS (a:AskP):Prop where
 who:a.who.length<=140737488351232
 mtch:a.mtch.length<=140737488351232
 tag:a.tag.length<=140737488351233
 lo:-9223372036854775808<=a.exp
 hi:a.exp<=9223372036854775807
 doc:DocS a.doc
structure ActX where
 ex:Bool
 now:Int
 ask:AskP
 vt:Value
 vn:Value
structure ActR (w:World) (B:Nat) (x:ActX):Prop where
 doc:DocB w B x.ask.doc x.vt x.vn
 s:AskS x.ask
 lo:-9223372036854775808<=x.now
 hi:x.now<=9223372036854775807
section
variable {w w':World} {B B' sz n:Nat} {v vt vn:Value} {xs:List Value} {d:DocP}
theorem SlB.below (h:SlB w B sz n v xs) (hb:Below B w w'):SlB w' B sz n v xs:=by
 obtain ⟨A,c,e,h1,h2,h3⟩:=h
 exact ⟨A,c,e,h1,h2,h3.below hb⟩
theorem SlB.up (h:SlB w B sz n v xs) (hB:B<=B'):SlB w B' sz n v xs:=by
 obtain ⟨A,c,e,h1,h2,h3⟩:=h
 refine ⟨A,c,e,h1,h2,h3.1,fun hn=>?_⟩
 obtain ⟨gb,off,e,hlt,hc⟩:=h3.2 hn
 exact ⟨gb,off,e,by omega,hc⟩
theorem SlB.of_rdv {T:TypeId} (h:RdV w T sz n v xs):SlB w w.heap.size sz n v xs:=by
 obtain ⟨A,c,e,h1,h2,h3⟩:=h
 exact ⟨A,c,e,h1,h2,h3.1,fun hn=>h3.at_ hn⟩
theorem SlB.nil (w:World) (B sz:Nat):SlB w B sz 0 (.slice none 0 0) []:=⟨none,0,rfl,Nat.le_refl _,by unfold maxLen;omega,by simp,fun h=>absurd h (by omega)⟩
theorem DocB.below (h:DocB w B d vt vn) (hb:Below B w w'):DocB w' B d vt vn:=⟨h.t.below hb,h.n.below hb⟩
theorem DocB.up (h:DocB w B d vt vn) (hB:B<=B'):DocB w B' d vt vn:=⟨h.t.up hB,h.n.up hB⟩
theorem DocB.on (h:DocB w w.heap.size d vt vn) (hb:Below w.heap.size w w'):DocB w' w'.heap.size d vt vn:=(h.below hb).up hb.size
theorem ActR.below {x:ActX} (h:ActR w B x) (hb:Below B w w'):ActR w' B x:=⟨h.doc.below hb,h.s,h.lo,h.hi⟩
end
structure RP where
 p:Pub
 vt:Value
 vn:Value
end Go.Proofs.YthkadehlclcggaaGreatDoor
