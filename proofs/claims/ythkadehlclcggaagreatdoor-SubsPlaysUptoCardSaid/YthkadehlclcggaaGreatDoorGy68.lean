/- Chapter 19, the document's answer: Texts, Same of events, addresses, dialogs, subscription -/
import Derived.Test.YthkadehlclcggaaGreatDoorGy63
import Derived.Test.YthkadehlclcggaaGreatDoorGy52
import Derived.Test.YthkadehlclcggaaGreatDoorGy54
import Derived.Test.YthkadehlclcggaaGreatDoorGy21
import Derived.BigQuiet
import Derived.Deep.QuietTactic
import Derived.Test.YthkadehlclcggaaGreatDoorGy67
namespace Go.Proofs.YthkadehlclcggaaGreatDoor
set_option linter.unusedSimpArgs false
set_option linter.unusedVariables false
open Go.RowKit
open Go.Lib (hid)
theorem wpl_load_w {P:Program} {ops:Array Oper} {rest:List Oper} {op:Oper} {a:Act} {w:World} {Q:Exit->Act->World->Prop} (hgd:Region.wanted op (yielded ops a.tmps)=true) (ty:TypeId) (x:Operand) (ho:op.op=.load ty x)
 (g off:Nat) (hx:a.eval x=.pointer (some ⟨g,off,none⟩)) {t:TypeId} {cs:Array Value} (hk:Blk w g t cs) (xs:List Value) (hxs:(cs.toList.drop off).take xs.length=xs) (d:TypeDesc)
 (hu:P.underlying ty=some d) (hd:d.isRow=true) (hi:(P.info? ty).map (·.size)=some xs.length)
 (h:wpList P ops Q rest (a.put op.dst (.agg xs.toArray)) w):wpList P ops Q (op::rest) a w :=
 BigFrame.wpList_want hgd fun _ hK=>wp_load_mid ty x ho g off hx xs d (blk_range hk hxs) hu hd hi (hK _ _ h)
def SameT (a b:List T) (j:Nat):Prop:=a.take j=b.take j
set_option maxRecDepth 100000 in
set_option maxHeartbeats 4000000 in
theorem texts_any {a b:List T} {A1 A2:Option Addr} {c1 c2 B:Nat} {w:World} (h1:RdB w B 1 a.length A1 (rows noteC a)) (h2:RdB w B 1 b.length A2 (rows noteC b)) (l1:a.length<=maxLen) (l2:b.length<=maxLen) :
 Calls Tryz.prog 88 #[.slice A1 a.length c1,.slice A2 b.length c2] w fun e w'=>e=.returned (.bool (decide (a=b)))/\∃ n,w'=w.drewN n:=by
 unfold maxLen at l1 l2
 have H1:=hid h1
 have H2:=hid h2
 clear h1 h2
 by_cases hl:a.length=b.length
 .have HL:=hid hl
  have zl:((a.length:Int) != b.length)=false:=by rw [hl];simp
  clear hl
  go_enter Tryz.func88,Tryz.ntmps88
  go_wp2
  go_loopw [5] (fun i wr=>∃ j:Nat,j<=a.length/\i=.int .i64 j/\SameT a b j/\∃ n,wr=w.drewN n) (fun i _=>a.length-(intOf i).toNat)
  case atStart=>exact ⟨0,by omega,rfl,by simp [SameT],0,rfl⟩
  case round =>
   obtain ⟨j,hj,rfl,hS,n,rfl⟩:=hrel
   have HS:=hid hS
   clear hS
   by_cases hlt:j<a.length
   .have hlb:j<b.length:=by have:=HL.out;omega
    have x0:(0:Int)<=j:=by omega
    have x1:(j:Int)<a.length:=by omega
    have x2:(j:Int)<b.length:=by omega
    have y0:∃ gb off,A1=some ⟨gb,off,none⟩/\w.cell? ⟨gb,off+j,none⟩=some (.string (str a[j])):=by
     obtain ⟨gb,off,e,_,hc⟩:=H1.out.2 (by omega)
     refine ⟨gb,off,e,hc j _ ?_⟩
     have:=rows_at (f:=noteC) (sz:=1) (fun _=>rfl) hlt (j:=0) (by omega)
     simpa [noteC] using this
    have z0:∃ gb off,A2=some ⟨gb,off,none⟩/\w.cell? ⟨gb,off+j,none⟩=some (.string (str b[j])):=by
     obtain ⟨gb,off,e,_,hc⟩:=H2.out.2 (by omega)
     refine ⟨gb,off,e,hc j _ ?_⟩
     have:=rows_at (f:=noteC) (sz:=1) (fun _=>rfl) hlb (j:=0) (by omega)
     simpa [noteC] using this
    obtain ⟨gb,off,rfl,y0⟩:=y0
    obtain ⟨gb2,off2,rfl,z0⟩:=z0
    have heq:=strv_dec a[j] b[j]
    have HNO:Hid (a[j]≠b[j]->decide (a=b)=false):=hid (fun q=>decide_eq_false fun h=>q (by subst h;rfl))
    have HST:Hid (a[j]=b[j]->SameT a b (j+1)):=hid (fun q=>by
     have h:=HS.out
     unfold SameT at *
     rw [List.take_succ_eq_append_getElem hlt,List.take_succ_eq_append_getElem hlb,h,q])
    by_cases he:a[j]=b[j]
    .have HX:=hid (HST.out he)
     rw [decide_eq_true he] at heq
     have hne:((str a[j]).toList != (str b[j]).toList)=false:=by unfold bne;rw [heq];rfl
     have hee:(str a[j]).toList=(str b[j]).toList:=by rw [he]
     clear he
     go_wp2
     go_quiet (fail)
     go_wp2
     go_roundw
     case rel=>exact ⟨j+1,by omega,by go_num,HX.out,_,by first|rfl|exact World.drewN_drewN _ _ _⟩
     case measure=>simp [intOf] <;> omega
    .have HX:=hid (HNO.out he)
     rw [decide_eq_false he] at heq
     have hne:((str a[j]).toList != (str b[j]).toList)=true:=by unfold bne;rw [heq];rfl
     have hee:¬(str a[j]).toList=(str b[j]).toList:=fun h=>he (str_inj ((tol_eq _ _).1 h))
     clear he
     go_wp2
     go_quiet (fail)
     go_wp2
     go_ret
     exact ⟨ret_bool HX.out.symm,_,by first|rfl|exact World.drewN_drewN _ _ _⟩
   .have x1:¬(j:Int)<a.length:=by omega
    have HX:Hid (decide (a=b)=true):=hid (decide_eq_true (by
     have h:=HS.out
     unfold SameT at h
     rw [List.take_of_length_le (by omega),List.take_of_length_le (by have:=HL.out;omega)] at h
     exact h))
    go_wp2
    go_ret
    exact ⟨ret_bool HX.out.symm,n,rfl⟩
 .have HX:Hid (decide (a=b)=false):=hid (decide_eq_false fun h=>hl (by rw [h]))
  have zl:((a.length:Int) != b.length)=true:=by simp;omega
  clear hl
  go_enter Tryz.func88,Tryz.ntmps88
  go_wp2
  go_ret
  exact ⟨ret_bool HX.out.symm,0,rfl⟩
def evsB (a b:EvP):Bool:=decide (a.name=b.name)&&decide (a.params=b.params)
def adsB (a b:AddrP):Bool:=decide (a.display=b.display)&&decide (a.uri=b.uri)&&decide (a.params=b.params)
def dgsB (a b:Dlg):Bool:=decide (a.callid=b.callid)&&adsB a.loc b.loc&&adsB a.rem b.rem&&decide (a.tgt=b.tgt)&&decide (a.routes=b.routes)&&decide (a.lastIn=b.lastIn)&&decide (a.lastOut=b.lastOut)
def sbsB (a b:SubP):Bool:=decide (a.number=b.number)&&decide (a.who=b.who)&&decide (a.watcher=b.watcher)&&evsB a.ev b.ev&&decide (a.state=b.state)&&decide (a.reason=b.reason)&&decide (a.until_=b.until_)&&dgsB a.dlg b.dlg
theorem sbs_self (a:SubP):sbsB a a=true:=by simp [sbsB,dgsB,adsB,evsB]
theorem int_dec (a b:Int):((a:Int) == b)=decide (a=b):=by rw [Bool.eq_iff_iff,beq_iff_eq,decide_eq_true_iff]
theorem two_in {w:World} {T1 T2:TypeId} {c1 c2:Array Value} {w0:World} (h:(w.alloc (.cells c1 T1)).alloc (.cells c2 T2)=w0):Below w.heap.size w w0/\Blk w0 w.heap.size T1 c1/\Blk w0 (w.heap.size+1) T2 c2:=by
 subst h
 exact ⟨((Below.refl _ _).alloc (Nat.le_refl _) _).alloc (by simp) _,(Blk.new w _ _).alloc _,Blk.new' _ _ _ (by simp)⟩
end Go.Proofs.YthkadehlclcggaaGreatDoor
