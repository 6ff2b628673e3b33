/- Chapter 19: SubsLasts. -/
import Derived.Test.YthkadehlclcggaaGreatDoorGy66
namespace Go.Proofs.YthkadehlclcggaaGreatDoor
set_option linter.unusedSimpArgs false
set_option linter.unusedVariables false
open Go.RowKit
open Go.Lib (hid)
theorem TbX.mono {X Y:Nat->Prop} {w:World} {p:Nat} {c:Conf} {last:Int} {L:List SubP} (h:TbX X w p c last L) (hXY:∀ k,Y k->X k):TbX Y w p c last L:=by
 obtain ⟨F,hs,hF⟩:=h.ex
 exact ⟨⟨F,hs,fun k hk q=>hF k hk (hXY k q)⟩,fun k hk=>h.lt k (hXY k hk)⟩
theorem TbX.loc {X:Nat->Prop} {w w':World} {p:Nat} {c:Conf} {last:Int} {L:List SubP} (h:TbX X w p c last L) (hf:Fr (fun k=>k=w.heap.size) (w.alloc (.cells sub0 39)) w'):TbX X w' p c last L/\Below w.heap.size w w' :=
 ⟨((h.own ((Below.refl _ _).alloc (Nat.le_refl _) _) (Nat.le_refl _) (by simp)).set (.inr rfl) (sub_blk0 w) (by decide) (by decide) hf).mono fun k hk=>.inl hk,below_upfr ((Below.refl _ _).alloc (Nat.le_refl _) _) (Nat.le_refl _) hf (fun k e=>by omega)⟩
theorem get_one {X:Nat->Prop} {w:World} {p:Nat} {c:Conf} {last n:Int} {S:SubP} (h:TbX X w p c last [S]) (hn:S.number=n):Calls Tryz.prog 15 #[.pointer (some ⟨p,0,none⟩),.int .i64 n] w fun e w'=>∃ v',e=.returned (.tuple #[.agg (subA S v'),.bool true])/\SubM w' S v'/\Below w.heap.size w w':=by
 refine (get_x (n:=n) h).mono ?_
 rintro e w' (⟨s,v',hs,_,rfl,hm,hb⟩|⟨hx,_⟩)
 .rw [List.mem_singleton] at hs
  subst hs
  exact ⟨v',rfl,hm,hb⟩
 .exact absurd (by rw [<-hn];simp) hx
end Go.Proofs.YthkadehlclcggaaGreatDoor
