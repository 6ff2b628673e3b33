/- Chapter 19, the document's answer: Texts, Same of events, addresses, dialogs, subscription Chapter 19: SubsOnce. -/
import Derived.Test.YthkadehlclcggaaGreatDoorGx63
import Derived.Test.YthkadehlclcggaaGreatDoorGx52
import Derived.Test.YthkadehlclcggaaGreatDoorGx54
import Derived.Test.YthkadehlclcggaaGreatDoorGx21
import Derived.BigQuiet
import Derived.Deep.QuietTactic
import Derived.Test.YthkadehlclcggaaGreatDoorGx66
namespace Go.Proofs.YthkadehlclcggaaGreatDoor
set_option linter.unusedSimpArgs false
set_option linter.unusedVariables false
open Go.RowKit
open Go.Lib (hid)
theorem wpl_load_w {P:Program} {ops:Array Oper} {rest:List Oper} {op:Oper} {a:Act} {w:World} {Q:Exit->Act->World->Prop} (hgd:Region.wanted op (yielded ops a.tmps)=true) (ty:TypeId) (x:Operand) (ho:op.op=.load ty x)
 (g off:Nat) (hx:a.eval x=.pointer (some ⟨g,off,none⟩)) {t:TypeId} {cs:Array Value} (hk:Blk w g t cs) (xs:List Value) (hxs:(cs.toList.drop off).take xs.length=xs) (d:TypeDesc)
 (hu:P.underlying ty=some d) (hd:d.isRow=true) (hi:(P.info? ty).map (·.size)=some xs.length)
 (h:wpList P ops Q rest (a.put op.dst (.agg xs.toArray)) w):wpList P ops Q (op::rest) a w :=
 BigFrame.wpList_want hgd fun _ hK=>wp_load_mid ty x ho g off hx xs d (blk_range hk hxs) hu hd hi (hK _ _ h)
def SameT (a b:List T) (j:Nat):Prop:=a.take j=b.take j
set_option maxRecDepth 100000 in
set_option maxHeartbeats 4000000 in
theorem texts_any {a b:List T} {A1 A2:Option Addr} {c1 c2 B:Nat} {w:World} (h1:RdB w B 1 a.length A1 (rows noteC a)) (h2:RdB w B 1 b.length A2 (rows noteC b)) (l1:a.length<=maxLen) (l2:b.length<=maxLen) :
 Calls Tryz.prog 88 #[.slice A1 a.length c1,.slice A2 b.length c2] w fun e w'=>e=.returned (.bool (decide (a=b)))/\∃ n,w'=w.drewN n:=by
 unfold maxLen at l1 l2
 have H1:=hid h1
 have H2:=hid h2
 clear h1 h2
 by_cases hl:a.length=b.length
 .have HL:=hid hl
  have zl:((a.length:Int) != b.length)=false:=by rw [hl];simp
  clear hl
  go_enter Tryz.func88,Tryz.ntmps88
  go_wp2
  go_loopw [5] (fun i wr=>∃ j:Nat,j<=a.length/\i=.int .i64 j/\SameT a b j/\∃ n,wr=w.drewN n) (fun i _=>a.length-(intOf i).toNat)
  case atStart=>exact ⟨0,by omega,rfl,by simp [SameT],0,rfl⟩
  case round =>
   obtain ⟨j,hj,rfl,hS,n,rfl⟩:=hrel
   have HS:=hid hS
   clear hS
   by_cases hlt:j<a.length
   .have hlb:j<b.length:=by have:=HL.out;omega
    have x0:(0:Int)<=j:=by omega
    have x1:(j:Int)<a.length:=by omega
    have x2:(j:Int)<b.length:=by omega
    have y0:∃ gb off,A1=some ⟨gb,off,none⟩/\w.cell? ⟨gb,off+j,none⟩=some (.string (str a[j])):=by
     obtain ⟨gb,off,e,_,hc⟩:=H1.out.2 (by omega)
     refine ⟨gb,off,e,hc j _ ?_⟩
     have:=rows_at (f:=noteC) (sz:=1) (fun _=>rfl) hlt (j:=0) (by omega)
     simpa [noteC] using this
    have z0:∃ gb off,A2=some ⟨gb,off,none⟩/\w.cell? ⟨gb,off+j,none⟩=some (.string (str b[j])):=by
     obtain ⟨gb,off,e,_,hc⟩:=H2.out.2 (by omega)
     refine ⟨gb,off,e,hc j _ ?_⟩
     have:=rows_at (f:=noteC) (sz:=1) (fun _=>rfl) hlb (j:=0) (by omega)
     simpa [noteC] using this
    obtain ⟨gb,off,rfl,y0⟩:=y0
    obtain ⟨gb2,off2,rfl,z0⟩:=z0
    have heq:=strv_dec a[j] b[j]
    have HNO:Hid (a[j]≠b[j]->decide (a=b)=false):=hid (fun q=>decide_eq_false fun h=>q (by subst h;rfl))
    have HST:Hid (a[j]=b[j]->SameT a b (j+1)):=hid (fun q=>by
     have h:=HS.out
     unfold SameT at *
     rw [List.take_succ_eq_append_getElem hlt,List.take_succ_eq_append_getElem hlb,h,q])
    by_cases he:a[j]=b[j]
    .have HX:=hid (HST.out he)
     rw [decide_eq_true he] at heq
     have hne:((str a[j]).toList != (str b[j]).toList)=false:=by unfold bne;rw [heq];rfl
     have hee:(str a[j]).toList=(str b[j]).toList:=by rw [he]
     clear he
     go_wp2
     go_quiet (fail)
     go_wp2
     go_roundw
     case rel=>exact ⟨j+1,by omega,by go_num,HX.out,_,by first|rfl|exact World.drewN_drewN _ _ _⟩
     case measure=>simp [intOf] <;> omega
    .have HX:=hid (HNO.out he)
     rw [decide_eq_false he] at heq
     have hne:((str a[j]).toList != (str b[j]).toList)=true:=by unfold bne;rw [heq];rfl
     have hee:¬(str a[j]).toList=(str b[j]).toList:=fun h=>he (str_inj ((tol_eq _ _).1 h))
     clear he
     go_wp2
     go_quiet (fail)
     go_wp2
     go_ret
     exact ⟨ret_bool HX.out.symm,_,by first|rfl|exact World.drewN_drewN _ _ _⟩
   .have x1:¬(j:Int)<a.length:=by omega
    have HX:Hid (decide (a=b)=true):=hid (decide_eq_true (by
     have h:=HS.out
     unfold SameT at h
     rw [List.take_of_length_le (by omega),List.take_of_length_le (by have:=HL.out;omega)] at h
     exact h))
    go_wp2
    go_ret
    exact ⟨ret_bool HX.out.symm,n,rfl⟩
 .have HX:Hid (decide (a=b)=false):=hid (decide_eq_false fun h=>hl (by rw [h]))
  have zl:((a.length:Int) != b.length)=true:=by simp;omega
  clear hl
  go_enter Tryz.func88,Tryz.ntmps88
  go_wp2
  go_ret
  exact ⟨ret_bool HX.out.symm,0,rfl⟩
theorem lists_at {w W:World} {a b:List Par} {A1 A2:Option Addr} {c1 c2:Nat} (ha:PrM w a (.slice A1 a.length c1)) (hb:PrM w b (.slice A2 b.length c2)) (hW:Below w.heap.size w W):Calls Tryz.prog 85 #[.slice A1 a.length c1,.slice A2 b.length c2] W fun e w'=>e=.returned (.bool (decide (a=b)))/\Below W.heap.size W w':=by
 obtain ⟨B1,d1,e1,l1,m1,r1⟩:=ha.prB
 obtain ⟨B2,d2,e2,l2,m2,r2⟩:=hb.prB
 injection e1 with e1 _ e1'
 injection e2 with e2 _ e2'
 subst e1 e1' e2 e2'
 refine (Lists_any (r1.below hW) (r2.below hW) (by omega) (by omega)).mono ?_
 rintro e w' ⟨rfl,n,rfl⟩
 exact ⟨rfl,below_drewN (Below.refl _ _) _⟩
theorem texts_at {w W:World} {a b:List T} {A1 A2:Option Addr} {c1 c2:Nat} (ha:RdV w 9 1 a.length (.slice A1 a.length c1) (rows noteC a)) (hb:RdV w 9 1 b.length (.slice A2 b.length c2) (rows noteC b)) (hW:Below w.heap.size w W):Calls Tryz.prog 88 #[.slice A1 a.length c1,.slice A2 b.length c2] W fun e w'=>e=.returned (.bool (decide (a=b)))/\Below W.heap.size W w':=by
 obtain ⟨B1,d1,e1,l1,m1,r1⟩:=SlB.of_rdv ha
 obtain ⟨B2,d2,e2,l2,m2,r2⟩:=SlB.of_rdv hb
 injection e1 with e1 _ e1'
 injection e2 with e2 _ e2'
 subst e1 e1' e2 e2'
 refine (texts_any (r1.below hW) (r2.below hW) (by omega) (by omega)).mono ?_
 rintro e w' ⟨rfl,n,rfl⟩
 exact ⟨rfl,below_drewN (Below.refl _ _) _⟩
theorem PrM.sl {w:World} {l:List Par} {v:Value} (h:PrM w l v):∃ A c,v=.slice A l.length c:=by
 obtain ⟨A,c,e,_⟩:=h
 exact ⟨A,c,e⟩
theorem rdv_sl {w:World} {T:TypeId} {sz n:Nat} {v:Value} {xs:List Value} (h:RdV w T sz n v xs):∃ A c,v=.slice A n c:=by
 obtain ⟨A,c,e,_⟩:=h
 exact ⟨A,c,e⟩
theorem lists_v {w W:World} {a b:List Par} {va vb:Value} (ha:PrM w a va) (hb:PrM w b vb) (hW:Below w.heap.size w W):Calls Tryz.prog 85 #[va,vb] W fun e w'=>e=.returned (.bool (decide (a=b)))/\Below W.heap.size W w':=by
 obtain ⟨A1,c1,rfl⟩:=ha.sl
 obtain ⟨A2,c2,rfl⟩:=hb.sl
 exact lists_at ha hb hW
theorem texts_v {w W:World} {a b:List T} {va vb:Value} (ha:RdV w 9 1 a.length va (rows noteC a)) (hb:RdV w 9 1 b.length vb (rows noteC b)) (hW:Below w.heap.size w W):Calls Tryz.prog 88 #[va,vb] W fun e w'=>e=.returned (.bool (decide (a=b)))/\Below W.heap.size W w':=by
 obtain ⟨A1,c1,rfl⟩:=rdv_sl ha
 obtain ⟨A2,c2,rfl⟩:=rdv_sl hb
 exact texts_at ha hb hW
theorem uris_v {w W:World} {a b:Uri} {vp vh up uh:Value} (h1:PrM w a.params vp) (h2:PrM w a.headers vh) (h3:PrM w b.params up) (h4:PrM w b.headers uh) (l1:a.params.length<=2000000) (l2:a.headers.length<=2000000) (l3:b.params.length<=2000000) (l4:b.headers.length<=2000000) (hW:Below w.heap.size w W) :
 Calls Tryz.prog 87 #[.agg #[.string (str a.scheme),.string (str a.user),.string (str a.host),.int .i64 a.port,vp,vh],.agg #[.string (str b.scheme),.string (str b.user),.string (str b.host),.int .i64 b.port,up,uh]] W fun e w'=>e=.returned (.bool (decide (a=b)))/\Below W.heap.size W w' :=
 Same_uri (B:=W.heap.size) (Nat.le_refl _) ⟨vp,vh,rfl,(h1.below hW).prB.prm,(h2.below hW).prB.prm⟩ ⟨up,uh,rfl,(h3.below hW).prB.prm,(h4.below hW).prB.prm⟩ (by omega) (by omega) (by omega) (by omega)
def evsB (a b:EvP):Bool:=decide (a.name=b.name)&&decide (a.params=b.params)
def adsB (a b:AddrP):Bool:=decide (a.display=b.display)&&decide (a.uri=b.uri)&&decide (a.params=b.params)
def dgsB (a b:Dlg):Bool:=decide (a.callid=b.callid)&&adsB a.loc b.loc&&adsB a.rem b.rem&&decide (a.tgt=b.tgt)&&decide (a.routes=b.routes)&&decide (a.lastIn=b.lastIn)&&decide (a.lastOut=b.lastOut)
def sbsB (a b:SubP):Bool:=decide (a.number=b.number)&&decide (a.who=b.who)&&decide (a.watcher=b.watcher)&&evsB a.ev b.ev&&decide (a.state=b.state)&&decide (a.reason=b.reason)&&decide (a.until_=b.until_)&&dgsB a.dlg b.dlg
theorem sbs_self (a:SubP):sbsB a a=true:=by simp [sbsB,dgsB,adsB,evsB]
theorem int_dec (a b:Int):((a:Int) == b)=decide (a=b):=by rw [Bool.eq_iff_iff,beq_iff_eq,decide_eq_true_iff]
theorem two_in {w:World} {T1 T2:TypeId} {c1 c2:Array Value} {w0:World} (h:(w.alloc (.cells c1 T1)).alloc (.cells c2 T2)=w0):Below w.heap.size w w0/\Blk w0 w.heap.size T1 c1/\Blk w0 (w.heap.size+1) T2 c2:=by
 subst h
 exact ⟨((Below.refl _ _).alloc (Nat.le_refl _) _).alloc (by simp) _,(Blk.new w _ _).alloc _,Blk.new' _ _ _ (by simp)⟩
set_option maxRecDepth 100000 in
set_option maxHeartbeats 8000000 in
theorem evSame_any {w:World} {a b:EvP} {va vb:Value} (ha:PrM w a.params va) (hb:PrM w b.params vb):Calls Tryz.prog 44 #[.agg (#[.string (str a.name),va]),.agg (#[.string (str b.name),vb])] w (BlPost (evsB a b) w):=by
 obtain ⟨A1,c1,rfl⟩:=ha.sl
 obtain ⟨A2,c2,rfl⟩:=hb.sl
 obtain ⟨w0,hw0⟩:∃ w0,(w.alloc (.cells (#[.string (str a.name),.slice A1 a.params.length c1]) 30)).alloc (.cells (#[.string (str b.name),.slice A2 b.params.length c2]) 30)=w0:=⟨_,rfl⟩
 obtain ⟨hb0,hk1,hk2⟩:=two_in hw0
 have HL:Hid (∀ W,Below w0.heap.size w0 W->Calls Tryz.prog 85 #[.slice A1 a.params.length c1,.slice A2 b.params.length c2] W fun e w'=>e=.returned (.bool (decide (a.params=b.params)))/\Below W.heap.size W w'):=hid (fun W hW=>lists_at ha hb (hb0.trans (hW.mono hb0.size)))
 have HB0:=hid hb0
 have HK:Hid (∀ W,Below w0.heap.size w0 W->Blk W w.heap.size 30 (#[.string (str a.name),.slice A1 a.params.length c1])/\Blk W (w.heap.size+1) 30 (#[.string (str b.name),.slice A2 b.params.length c2])):=hid (fun W hW=>⟨hk1.fr (Fr.of_below (F:=fun _=>False) hW) (fun h=>h),hk2.fr (Fr.of_below (F:=fun _=>False) hW) (fun h=>h)⟩)
 have HC:Hid (∀ W,Below w0.heap.size w0 W->W.cell? ⟨w.heap.size,0,none⟩=some (.string (str a.name))/\W.cell? ⟨w.heap.size+1,0,none⟩=some (.string (str b.name))/\W.cell? ⟨w.heap.size,1,none⟩=some (.slice A1 a.params.length c1)/\W.cell? ⟨w.heap.size+1,1,none⟩=some (.slice A2 b.params.length c2)):=hid (fun W hW=>⟨(HK.out W hW).1.cell 0,(HK.out W hW).2.cell 0,(HK.out W hW).1.cell 1,(HK.out W hW).2.cell 1⟩)
 have HRF:Hid (Below w0.heap.size w0 w0):=hid (Below.refl _ _)
 unfold BlPost evsB
 have k1:=strv_dec a.name b.name
 generalize decide (a.name=b.name)=t1 at *
 generalize decide (a.params=b.params)=t2 at *
 clear ha hb
 clear hb0 hk1 hk2
 have HW0:=hid hw0
 clear hw0
 go_enter Tryz.func44,Tryz.ntmps44
 go_upto_region 1 with (fail)
 rw [HW0.out]
 clear HW0
 obtain ⟨xa0,xb0,xa1,xb1⟩:=HC.out _ HRF.out
 cases t1 with
 | false =>
   go_wp2
   go_ret
   exact ⟨rfl,HB0.out.trans (HRF.out.mono HB0.out.size)⟩
 | true =>
   go_wp2_with fail
   refine (HL.out _ HRF.out).mono ?_
   rintro e w1 ⟨rfl,hb⟩
   have HB1:Hid (Below w0.heap.size w0 w1):=hid (HRF.out.trans (hb.mono HRF.out.size))
   clear hb xa0 xb0 xa1 xb1
   obtain ⟨xa0,xb0,xa1,xb1⟩:=HC.out _ HB1.out
   cases t2 with
   | false =>
     go_wp2
     go_ret
     exact ⟨rfl,HB0.out.trans (HB1.out.mono HB0.out.size)⟩
   | true =>
     go_wp2
     go_ret
     exact ⟨rfl,HB0.out.trans (HB1.out.mono HB0.out.size)⟩
set_option maxRecDepth 100000 in
set_option maxHeartbeats 8000000 in
theorem adrSame_any {w:World} {a b:AddrP} {vp vh va up uh ua:Value} (ha:AdM w a vp vh va) (hb:AdM w b up uh ua) (la:AdL a) (lb:AdL b):Calls Tryz.prog 86 #[.agg (addrA a vp vh va),.agg (addrA b up uh ua)] w (BlPost (adsB a b) w):=by
 obtain ⟨w0,hw0⟩:∃ w0,(w.alloc (.cells (addrA a vp vh va) 34)).alloc (.cells (addrA b up uh ua) 34)=w0:=⟨_,rfl⟩
 obtain ⟨hb0,hk1,hk2⟩:=two_in hw0
 have HL:Hid (∀ W,Below w0.heap.size w0 W->Calls Tryz.prog 85 #[va,ua] W fun e w'=>e=.returned (.bool (decide (a.params=b.params)))/\Below W.heap.size W w'):=hid (fun W hW=>lists_v ha.a hb.a (hb0.trans (hW.mono hb0.size)))
 have HU:Hid (∀ W,Below w0.heap.size w0 W->Calls Tryz.prog 87 #[.agg #[.string (str a.uri.scheme),.string (str a.uri.user),.string (str a.uri.host),.int .i64 a.uri.port,vp,vh],.agg #[.string (str b.uri.scheme),.string (str b.uri.user),.string (str b.uri.host),.int .i64 b.uri.port,up,uh]] W fun e w'=>e=.returned (.bool (decide (a.uri=b.uri)))/\Below W.heap.size W w'):=hid (fun W hW=>uris_v ha.p ha.h hb.p hb.h la.p la.h lb.p lb.h (hb0.trans (hW.mono hb0.size)))
 have HB0:=hid hb0
 have HK:Hid (∀ W,Below w0.heap.size w0 W->Blk W w.heap.size 34 (addrA a vp vh va)/\Blk W (w.heap.size+1) 34 (addrA b up uh ua)):=hid (fun W hW=>⟨hk1.fr (Fr.of_below (F:=fun _=>False) hW) (fun h=>h),hk2.fr (Fr.of_below (F:=fun _=>False) hW) (fun h=>h)⟩)
 have HC:Hid (∀ W,Below w0.heap.size w0 W->W.cell? ⟨w.heap.size,0,none⟩=some (.string (str a.display))/\W.cell? ⟨w.heap.size+1,0,none⟩=some (.string (str b.display))/\W.cell? ⟨w.heap.size,7,none⟩=some (va)/\W.cell? ⟨w.heap.size+1,7,none⟩=some (ua)):=hid (fun W hW=>⟨(HK.out W hW).1.cell 0,(HK.out W hW).2.cell 0,(HK.out W hW).1.cell 7,(HK.out W hW).2.cell 7⟩)
 have HRF:Hid (Below w0.heap.size w0 w0):=hid (Below.refl _ _)
 unfold BlPost adsB
 have k1:=strv_dec a.display b.display
 generalize decide (a.display=b.display)=t1 at *
 generalize decide (a.uri=b.uri)=t2 at *
 generalize decide (a.params=b.params)=t3 at *
 clear ha hb la lb
 clear hb0 hk1 hk2
 have HW0:=hid hw0
 clear hw0
 go_enter Tryz.func86,Tryz.ntmps86
 go_upto_region 1 with (fail)
 rw [HW0.out]
 clear HW0
 obtain ⟨xa0,xb0,xa7,xb7⟩:=HC.out _ HRF.out
 cases t1 with
 | false =>
   go_wp2
   go_ret
   exact ⟨rfl,HB0.out.trans (HRF.out.mono HB0.out.size)⟩
 | true =>
   have HKW:=hid (HK.out _ HRF.out)
   go_wp2_with (first|(refine wpl_load_w (by rfl) 32 (.tmp 11) rfl (w.heap.size) 1 rfl HKW.out.1 ([.string (str a.uri.scheme),.string (str a.uri.user),.string (str a.uri.host),.int .i64 a.uri.port,vp,vh]) rfl _ Tryz.underlying32 rfl (by kernel_rfl) ?_)|(refine wpl_load_w (by rfl) 32 (.tmp 13) rfl (w.heap.size+1) 1 rfl HKW.out.2 ([.string (str b.uri.scheme),.string (str b.uri.user),.string (str b.uri.host),.int .i64 b.uri.port,up,uh]) rfl _ Tryz.underlying32 rfl (by kernel_rfl) ?_))
   refine (HU.out _ HRF.out).mono ?_
   rintro e w1 ⟨rfl,hb⟩
   have HB1:Hid (Below w0.heap.size w0 w1):=hid (HRF.out.trans (hb.mono HRF.out.size))
   clear hb xa0 xb0 xa7 xb7 HKW
   obtain ⟨xa0,xb0,xa7,xb7⟩:=HC.out _ HB1.out
   cases t2 with
   | false =>
     go_wp2
     go_ret
     exact ⟨rfl,HB0.out.trans (HB1.out.mono HB0.out.size)⟩
   | true =>
     go_wp2_with fail
     refine (HL.out _ HB1.out).mono ?_
     rintro e w2 ⟨rfl,hb⟩
     have HB2:Hid (Below w0.heap.size w0 w2):=hid (HB1.out.trans (hb.mono HB1.out.size))
     clear hb xa0 xb0 xa7 xb7
     obtain ⟨xa0,xb0,xa7,xb7⟩:=HC.out _ HB2.out
     cases t3 with
     | false =>
       go_wp2
       go_ret
       exact ⟨rfl,HB0.out.trans (HB2.out.mono HB0.out.size)⟩
     | true =>
       go_wp2
       go_ret
       exact ⟨rfl,HB0.out.trans (HB2.out.mono HB0.out.size)⟩
set_option maxRecDepth 100000 in
set_option maxHeartbeats 8000000 in
theorem dlgSame_any {w:World} {d e:Dlg} {v u:SlV} (hd:DlgM w d v) (he:DlgM w e u) (l1:AdL d.loc) (l2:AdL d.rem) (l3:d.tgt.params.length<=2000000) (l4:d.tgt.headers.length<=2000000) (m1:AdL e.loc) (m2:AdL e.rem) (m3:e.tgt.params.length<=2000000) (m4:e.tgt.headers.length<=2000000):Calls Tryz.prog 45 #[.agg (dlgA d v),.agg (dlgA e u)] w (BlPost (dgsB d e) w):=by
 obtain ⟨w0,hw0⟩:∃ w0,(w.alloc (.cells (dlgA d v) 37)).alloc (.cells (dlgA e u) 37)=w0:=⟨_,rfl⟩
 obtain ⟨hb0,hk1,hk2⟩:=two_in hw0
 have HA1:Hid (∀ W,Below w0.heap.size w0 W->Calls Tryz.prog 86 #[.agg (addrA d.loc v.lp v.lh v.la),.agg (addrA e.loc u.lp u.lh u.la)] W fun ee w'=>ee=.returned (.bool (adsB d.loc e.loc))/\Below W.heap.size W w'):=hid (fun W hW=>adrSame_any (hd.loc.below (hb0.trans (hW.mono hb0.size))) (he.loc.below (hb0.trans (hW.mono hb0.size))) l1 m1)
 have HA2:Hid (∀ W,Below w0.heap.size w0 W->Calls Tryz.prog 86 #[.agg (addrA d.rem v.rp v.rh v.ra),.agg (addrA e.rem u.rp u.rh u.ra)] W fun ee w'=>ee=.returned (.bool (adsB d.rem e.rem))/\Below W.heap.size W w'):=hid (fun W hW=>adrSame_any (hd.rem.below (hb0.trans (hW.mono hb0.size))) (he.rem.below (hb0.trans (hW.mono hb0.size))) l2 m2)
 have HU:Hid (∀ W,Below w0.heap.size w0 W->Calls Tryz.prog 87 #[.agg #[.string (str d.tgt.scheme),.string (str d.tgt.user),.string (str d.tgt.host),.int .i64 d.tgt.port,v.tp,v.th],.agg #[.string (str e.tgt.scheme),.string (str e.tgt.user),.string (str e.tgt.host),.int .i64 e.tgt.port,u.tp,u.th]] W fun ee w'=>ee=.returned (.bool (decide (d.tgt=e.tgt)))/\Below W.heap.size W w'):=hid (fun W hW=>uris_v hd.tp hd.th he.tp he.th l3 l4 m3 m4 (hb0.trans (hW.mono hb0.size)))
 have HX:Hid (∀ W,Below w0.heap.size w0 W->Calls Tryz.prog 88 #[v.ro,u.ro] W fun ee w'=>ee=.returned (.bool (decide (d.routes=e.routes)))/\Below W.heap.size W w'):=hid (fun W hW=>texts_v hd.ro he.ro (hb0.trans (hW.mono hb0.size)))
 have HB0:=hid hb0
 have HK:Hid (∀ W,Below w0.heap.size w0 W->Blk W w.heap.size 37 (dlgA d v)/\Blk W (w.heap.size+1) 37 (dlgA e u)):=hid (fun W hW=>⟨hk1.fr (Fr.of_below (F:=fun _=>False) hW) (fun h=>h),hk2.fr (Fr.of_below (F:=fun _=>False) hW) (fun h=>h)⟩)
 have HC:Hid (∀ W,Below w0.heap.size w0 W->W.cell? ⟨w.heap.size,0,none⟩=some (.string (str d.callid))/\W.cell? ⟨w.heap.size+1,0,none⟩=some (.string (str e.callid))/\W.cell? ⟨w.heap.size,23,none⟩=some (v.ro)/\W.cell? ⟨w.heap.size+1,23,none⟩=some (u.ro)/\W.cell? ⟨w.heap.size,24,none⟩=some (.int .i64 d.lastIn)/\W.cell? ⟨w.heap.size+1,24,none⟩=some (.int .i64 e.lastIn)/\W.cell? ⟨w.heap.size,25,none⟩=some (.int .i64 d.lastOut)/\W.cell? ⟨w.heap.size+1,25,none⟩=some (.int .i64 e.lastOut)):=hid (fun W hW=>⟨(HK.out W hW).1.cell 0,(HK.out W hW).2.cell 0,(HK.out W hW).1.cell 23,(HK.out W hW).2.cell 23,(HK.out W hW).1.cell 24,(HK.out W hW).2.cell 24,(HK.out W hW).1.cell 25,(HK.out W hW).2.cell 25⟩)
 have HRF:Hid (Below w0.heap.size w0 w0):=hid (Below.refl _ _)
 unfold BlPost dgsB
 have k1:=strv_dec d.callid e.callid
 have k2:=int_dec d.lastIn e.lastIn
 have k3:=int_dec d.lastOut e.lastOut
 generalize decide (d.callid=e.callid)=t1 at *
 generalize adsB d.loc e.loc=t2 at *
 generalize adsB d.rem e.rem=t3 at *
 generalize decide (d.tgt=e.tgt)=t4 at *
 generalize decide (d.routes=e.routes)=t5 at *
 generalize decide (d.lastIn=e.lastIn)=t6 at *
 generalize decide (d.lastOut=e.lastOut)=t7 at *
 clear hd he l1 l2 l3 l4 m1 m2 m3 m4
 clear hb0 hk1 hk2
 have HW0:=hid hw0
 clear hw0
 go_enter Tryz.func45,Tryz.ntmps45
 go_upto_region 1 with (fail)
 rw [HW0.out]
 clear HW0
 obtain ⟨xa0,xb0,xa23,xb23,xa24,xb24,xa25,xb25⟩:=HC.out _ HRF.out
 cases t1 with
 | false =>
   go_wp2
   go_ret
   exact ⟨rfl,HB0.out.trans (HRF.out.mono HB0.out.size)⟩
 | true =>
   have HKW:=hid (HK.out _ HRF.out)
   go_wp2_with (first|(refine wpl_load_w (by rfl) 34 (.tmp 11) rfl (w.heap.size) 1 rfl HKW.out.1 ((addrA d.loc v.lp v.lh v.la).toList) rfl _ Tryz.underlying34 rfl (by kernel_rfl) ?_)|(refine wpl_load_w (by rfl) 34 (.tmp 13) rfl (w.heap.size+1) 1 rfl HKW.out.2 ((addrA e.loc u.lp u.lh u.la).toList) rfl _ Tryz.underlying34 rfl (by kernel_rfl) ?_))
   refine (HA1.out _ HRF.out).mono ?_
   rintro e w1 ⟨rfl,hb⟩
   have HB1:Hid (Below w0.heap.size w0 w1):=hid (HRF.out.trans (hb.mono HRF.out.size))
   clear hb xa0 xb0 xa23 xb23 xa24 xb24 xa25 xb25 HKW
   obtain ⟨xa0,xb0,xa23,xb23,xa24,xb24,xa25,xb25⟩:=HC.out _ HB1.out
   cases t2 with
   | false =>
     go_wp2
     go_ret
     exact ⟨rfl,HB0.out.trans (HB1.out.mono HB0.out.size)⟩
   | true =>
     have HKW:=hid (HK.out _ HB1.out)
     go_wp2_with (first|(refine wpl_load_w (by rfl) 34 (.tmp 18) rfl (w.heap.size) 9 rfl HKW.out.1 ((addrA d.rem v.rp v.rh v.ra).toList) rfl _ Tryz.underlying34 rfl (by kernel_rfl) ?_)|(refine wpl_load_w (by rfl) 34 (.tmp 20) rfl (w.heap.size+1) 9 rfl HKW.out.2 ((addrA e.rem u.rp u.rh u.ra).toList) rfl _ Tryz.underlying34 rfl (by kernel_rfl) ?_))
     refine (HA2.out _ HB1.out).mono ?_
     rintro e w2 ⟨rfl,hb⟩
     have HB2:Hid (Below w0.heap.size w0 w2):=hid (HB1.out.trans (hb.mono HB1.out.size))
     clear hb xa0 xb0 xa23 xb23 xa24 xb24 xa25 xb25 HKW
     obtain ⟨xa0,xb0,xa23,xb23,xa24,xb24,xa25,xb25⟩:=HC.out _ HB2.out
     cases t3 with
     | false =>
       go_wp2
       go_ret
       exact ⟨rfl,HB0.out.trans (HB2.out.mono HB0.out.size)⟩
     | true =>
       have HKW:=hid (HK.out _ HB2.out)
       go_wp2_with (first|(refine wpl_load_w (by rfl) 32 (.tmp 25) rfl (w.heap.size) 17 rfl HKW.out.1 ([.string (str d.tgt.scheme),.string (str d.tgt.user),.string (str d.tgt.host),.int .i64 d.tgt.port,v.tp,v.th]) rfl _ Tryz.underlying32 rfl (by kernel_rfl) ?_)|(refine wpl_load_w (by rfl) 32 (.tmp 27) rfl (w.heap.size+1) 17 rfl HKW.out.2 ([.string (str e.tgt.scheme),.string (str e.tgt.user),.string (str e.tgt.host),.int .i64 e.tgt.port,u.tp,u.th]) rfl _ Tryz.underlying32 rfl (by kernel_rfl) ?_))
       refine (HU.out _ HB2.out).mono ?_
       rintro e w3 ⟨rfl,hb⟩
       have HB3:Hid (Below w0.heap.size w0 w3):=hid (HB2.out.trans (hb.mono HB2.out.size))
       clear hb xa0 xb0 xa23 xb23 xa24 xb24 xa25 xb25 HKW
       obtain ⟨xa0,xb0,xa23,xb23,xa24,xb24,xa25,xb25⟩:=HC.out _ HB3.out
       cases t4 with
       | false =>
         go_wp2
         go_ret
         exact ⟨rfl,HB0.out.trans (HB3.out.mono HB0.out.size)⟩
       | true =>
         go_wp2_with fail
         refine (HX.out _ HB3.out).mono ?_
         rintro e w4 ⟨rfl,hb⟩
         have HB4:Hid (Below w0.heap.size w0 w4):=hid (HB3.out.trans (hb.mono HB3.out.size))
         clear hb xa0 xb0 xa23 xb23 xa24 xb24 xa25 xb25
         obtain ⟨xa0,xb0,xa23,xb23,xa24,xb24,xa25,xb25⟩:=HC.out _ HB4.out
         cases t5 with
         | false =>
           go_wp2
           go_ret
           exact ⟨rfl,HB0.out.trans (HB4.out.mono HB0.out.size)⟩
         | true =>
           cases t6 with
           | false =>
             go_wp2
             go_ret
             exact ⟨rfl,HB0.out.trans (HB4.out.mono HB0.out.size)⟩
           | true =>
             cases t7 with
             | false =>
               go_wp2
               go_ret
               exact ⟨rfl,HB0.out.trans (HB4.out.mono HB0.out.size)⟩
             | true =>
               go_wp2
               go_ret
               exact ⟨rfl,HB0.out.trans (HB4.out.mono HB0.out.size)⟩
set_option maxRecDepth 100000 in
set_option maxHeartbeats 8000000 in
theorem sbSame_any {w:World} {a b:SubP} {v u:SlV} (ha:SubM w a v) (hb:SubM w b u) (za:SubZ a) (zb:SubZ b):Calls Tryz.prog 16 #[.agg (subA a v),.agg (subA b u)] w (BlPost (sbsB a b) w):=by
 obtain ⟨w0,hw0⟩:∃ w0,(w.alloc (.cells (subA a v) 39)).alloc (.cells (subA b u) 39)=w0:=⟨_,rfl⟩
 obtain ⟨hb0,hk1,hk2⟩:=two_in hw0
 have HE:Hid (∀ W,Below w0.heap.size w0 W->Calls Tryz.prog 44 #[.agg #[.string (str a.ev.name),v.ev],.agg #[.string (str b.ev.name),u.ev]] W fun ee w'=>ee=.returned (.bool (evsB a.ev b.ev))/\Below W.heap.size W w'):=hid (fun W hW=>evSame_any (ha.ev.below (hb0.trans (hW.mono hb0.size))) (hb.ev.below (hb0.trans (hW.mono hb0.size))))
 have HD:Hid (∀ W,Below w0.heap.size w0 W->Calls Tryz.prog 45 #[.agg (dlgA a.dlg v),.agg (dlgA b.dlg u)] W fun ee w'=>ee=.returned (.bool (dgsB a.dlg b.dlg))/\Below W.heap.size W w'):=hid (fun W hW=>dlgSame_any (DlgM.below (⟨⟨ha.lp,ha.lh,ha.la⟩,⟨ha.rp,ha.rh,ha.ra⟩,ha.tp,ha.th,ha.ro⟩:DlgM w a.dlg v) (hb0.trans (hW.mono hb0.size))) (DlgM.below (⟨⟨hb.lp,hb.lh,hb.la⟩,⟨hb.rp,hb.rh,hb.ra⟩,hb.tp,hb.th,hb.ro⟩:DlgM w b.dlg u) (hb0.trans (hW.mono hb0.size))) ⟨za.lp,za.lh,za.la⟩ ⟨za.rp,za.rh,za.ra⟩ za.tp za.th ⟨zb.lp,zb.lh,zb.la⟩ ⟨zb.rp,zb.rh,zb.ra⟩ zb.tp zb.th)
 have HB0:=hid hb0
 have HK:Hid (∀ W,Below w0.heap.size w0 W->Blk W w.heap.size 39 (subA a v)/\Blk W (w.heap.size+1) 39 (subA b u)):=hid (fun W hW=>⟨hk1.fr (Fr.of_below (F:=fun _=>False) hW) (fun h=>h),hk2.fr (Fr.of_below (F:=fun _=>False) hW) (fun h=>h)⟩)
 have HC:Hid (∀ W,Below w0.heap.size w0 W->W.cell? ⟨w.heap.size,0,none⟩=some (.int .i64 a.number)/\W.cell? ⟨w.heap.size+1,0,none⟩=some (.int .i64 b.number)/\W.cell? ⟨w.heap.size,1,none⟩=some (.string (str a.who))/\W.cell? ⟨w.heap.size+1,1,none⟩=some (.string (str b.who))/\W.cell? ⟨w.heap.size,2,none⟩=some (.string (str a.watcher))/\W.cell? ⟨w.heap.size+1,2,none⟩=some (.string (str b.watcher))/\W.cell? ⟨w.heap.size,5,none⟩=some (.int .i64 a.state)/\W.cell? ⟨w.heap.size+1,5,none⟩=some (.int .i64 b.state)/\W.cell? ⟨w.heap.size,6,none⟩=some (.string (str a.reason))/\W.cell? ⟨w.heap.size+1,6,none⟩=some (.string (str b.reason))/\W.cell? ⟨w.heap.size,7,none⟩=some (.int .i64 a.until_)/\W.cell? ⟨w.heap.size+1,7,none⟩=some (.int .i64 b.until_)):=hid (fun W hW=>⟨(HK.out W hW).1.cell 0,(HK.out W hW).2.cell 0,(HK.out W hW).1.cell 1,(HK.out W hW).2.cell 1,(HK.out W hW).1.cell 2,(HK.out W hW).2.cell 2,(HK.out W hW).1.cell 5,(HK.out W hW).2.cell 5,(HK.out W hW).1.cell 6,(HK.out W hW).2.cell 6,(HK.out W hW).1.cell 7,(HK.out W hW).2.cell 7⟩)
 have HRF:Hid (Below w0.heap.size w0 w0):=hid (Below.refl _ _)
 unfold BlPost sbsB
 have k1:=int_dec a.number b.number
 have k2:=strv_dec a.who b.who
 have k3:=strv_dec a.watcher b.watcher
 have k4:=int_dec a.state b.state
 have k5:=strv_dec a.reason b.reason
 have k6:=int_dec a.until_ b.until_
 generalize decide (a.number=b.number)=t1 at *
 generalize decide (a.who=b.who)=t2 at *
 generalize decide (a.watcher=b.watcher)=t3 at *
 generalize evsB a.ev b.ev=t4 at *
 generalize decide (a.state=b.state)=t5 at *
 generalize decide (a.reason=b.reason)=t6 at *
 generalize decide (a.until_=b.until_)=t7 at *
 generalize dgsB a.dlg b.dlg=t8 at *
 clear ha hb za zb
 clear hb0 hk1 hk2
 have HW0:=hid hw0
 clear hw0
 go_enter Tryz.func16,Tryz.ntmps16
 go_upto_region 1 with (fail)
 rw [HW0.out]
 clear HW0
 obtain ⟨xa0,xb0,xa1,xb1,xa2,xb2,xa5,xb5,xa6,xb6,xa7,xb7⟩:=HC.out _ HRF.out
 cases t1 with
 | false =>
   go_wp2
   go_ret
   exact ⟨rfl,HB0.out.trans (HRF.out.mono HB0.out.size)⟩
 | true =>
   cases t2 with
   | false =>
     go_wp2
     go_ret
     exact ⟨rfl,HB0.out.trans (HRF.out.mono HB0.out.size)⟩
   | true =>
     cases t3 with
     | false =>
       go_wp2
       go_ret
       exact ⟨rfl,HB0.out.trans (HRF.out.mono HB0.out.size)⟩
     | true =>
       have HKW:=hid (HK.out _ HRF.out)
       go_wp2_with (first|(refine wpl_load_w (by rfl) 30 (.tmp 25) rfl (w.heap.size) 3 rfl HKW.out.1 ([.string (str a.ev.name),v.ev]) rfl _ Tryz.underlying30 rfl (by kernel_rfl) ?_)|(refine wpl_load_w (by rfl) 30 (.tmp 27) rfl (w.heap.size+1) 3 rfl HKW.out.2 ([.string (str b.ev.name),u.ev]) rfl _ Tryz.underlying30 rfl (by kernel_rfl) ?_))
       refine (HE.out _ HRF.out).mono ?_
       rintro e w1 ⟨rfl,hb⟩
       have HB1:Hid (Below w0.heap.size w0 w1):=hid (HRF.out.trans (hb.mono HRF.out.size))
       clear hb xa0 xb0 xa1 xb1 xa2 xb2 xa5 xb5 xa6 xb6 xa7 xb7 HKW
       obtain ⟨xa0,xb0,xa1,xb1,xa2,xb2,xa5,xb5,xa6,xb6,xa7,xb7⟩:=HC.out _ HB1.out
       cases t4 with
       | false =>
         go_wp2
         go_ret
         exact ⟨rfl,HB0.out.trans (HB1.out.mono HB0.out.size)⟩
       | true =>
         cases t5 with
         | false =>
           go_wp2
           go_ret
           exact ⟨rfl,HB0.out.trans (HB1.out.mono HB0.out.size)⟩
         | true =>
           cases t6 with
           | false =>
             go_wp2
             go_ret
             exact ⟨rfl,HB0.out.trans (HB1.out.mono HB0.out.size)⟩
           | true =>
             cases t7 with
             | false =>
               go_wp2
               go_ret
               exact ⟨rfl,HB0.out.trans (HB1.out.mono HB0.out.size)⟩
             | true =>
               have HKW:=hid (HK.out _ HB1.out)
               go_wp2_with (first|(refine wpl_load_w (by rfl) 37 (.tmp 53) rfl (w.heap.size) 8 rfl HKW.out.1 ((dlgA a.dlg v).toList) rfl _ Tryz.underlying37 rfl (by kernel_rfl) ?_)|(refine wpl_load_w (by rfl) 37 (.tmp 55) rfl (w.heap.size+1) 8 rfl HKW.out.2 ((dlgA b.dlg u).toList) rfl _ Tryz.underlying37 rfl (by kernel_rfl) ?_))
               refine (HD.out _ HB1.out).mono ?_
               rintro e w2 ⟨rfl,hb⟩
               have HB2:Hid (Below w0.heap.size w0 w2):=hid (HB1.out.trans (hb.mono HB1.out.size))
               clear hb xa0 xb0 xa1 xb1 xa2 xb2 xa5 xb5 xa6 xb6 xa7 xb7 HKW
               obtain ⟨xa0,xb0,xa1,xb1,xa2,xb2,xa5,xb5,xa6,xb6,xa7,xb7⟩:=HC.out _ HB2.out
               cases t8 with
               | false =>
                 go_wp2
                 go_ret
                 exact ⟨rfl,HB0.out.trans (HB2.out.mono HB0.out.size)⟩
               | true =>
                 go_wp2
                 go_ret
                 exact ⟨rfl,HB0.out.trans (HB2.out.mono HB0.out.size)⟩
theorem ReqM.fr {w w':World} {G:Nat->Prop} {r:ReqP} {v:RqV} (h:ReqM w r v) (hf:Fr G w w') (hk:KeepP G w) (ha:∀ (b:Nat) (ds:Array Value) (fr:Nat × Nat),w.heap[b]?=some (.cells ds 34 fr)->¬G b):ReqM w' r v:=by
 obtain ⟨xs,e,h1,h2⟩:=h.co
 exact ⟨h.from_.fr hf hk,h.to_.fr hf hk,h.ev.fr hf hk,⟨xs,e,h1.fr hf ha,fun x hx=>⟨(h2 x hx).1.fr hf hk,(h2 x hx).2.fr hf hk⟩⟩,h.ro.fr hf (fun b cs fr hb=>hk b cs _ fr hb (.inr rfl))⟩
theorem ReqM.below {w w':World} {r:ReqP} {v:RqV} (h:ReqM w r v) (hb:Below w.heap.size w w'):ReqM w' r v:=h.fr (Fr.of_below (F:=fun _=>False) hb) (KeepP.none w) (fun _ _ _ _ h=>h)
theorem ReqM.loc {w w':World} {r:ReqP} {v:RqV} (h:ReqM w r v) {g:Nat} {T:TypeId} {cs:Array Value} (hk:Blk w g T cs) (h1:T≠95) (h2:T≠9) (h3:T≠34) (hf:Fr (fun k=>k=g) w w'):ReqM w' r v :=
 h.fr hf (keepP_blk hk h1 h2) (fun b ds fr hb e=>by
  subst e
  unfold Blk at hk
  rw [hk] at hb
  injection hb with hb
  injection hb with _ hb
  exact h3 hb)
theorem TbTo.req {X:Nat->Prop} {w w':World} {p:Nat} {c:Conf} {last:Int} {L:List SubP} {r:ReqP} {v:RqV} (t:TbTo X p c last L w w') (h:ReqM w r v):ReqM w' r v:=by
 obtain ⟨xs,e,h1,h2⟩:=h.co
 exact ⟨t.adm h.from_,t.adm h.to_,t.prm h.ev,⟨xs,e,t.adr h1,fun x hx=>⟨t.prm (h2 x hx).1,t.prm (h2 x hx).2⟩⟩,t.txt h.ro⟩
theorem TbX.z {X:Nat->Prop} {w:World} {p:Nat} {c:Conf} {last:Int} {L:List SubP} (h:TbX X w p c last L):∀ s∈L,SubZ s:=by
 obtain ⟨F,hs,_⟩:=h.ex
 obtain ⟨_,_,_,_,_,_,_,_,Q⟩:=hs
 exact Q.z
theorem req_blk0 (W:World):Blk (W.alloc (.cells req0 45)) W.heap.size 45 req0:=Blk.new W _ _
end Go.Proofs.YthkadehlclcggaaGreatDoor
