/- Chapter 4: same.find, Value, grave; rosterref04.Place, Value, grave. Chapter 4: rosterref04.Place, Value, half. -/
import Derived.Test.YthkadehlclcggaaGreatDoorGx22
import Derived.Test.YthkadehlclcggaaGreatDoorGx02
import Derived.Deep.RegionHeld3
import Derived.Deep.QuietTactic
import Derived.BigQuiet
namespace Go.Proofs.YthkadehlclcggaaGreatDoor
set_option linter.unusedSimpArgs false
set_option linter.unusedVariables false
open Go.RowKit
open Go.Lib (hid)
def findV (o:Option Par):Value:=match o with
 | some p=>.tuple #[.agg #[.string (str p.name),.string (str p.value),.bool p.has],.bool true]
 | none=>.tuple #[.agg #[.string ⟨#[]⟩,.string ⟨#[]⟩,.bool false],.bool false]
theorem find_hit {n:T} {l:List Par} {j:Nat} (h:findP n l=findP n (l.drop j)) (hj:j<l.length) (e:low l[j].name=low n):findP n l=some l[j]:=by
 rw [h,List.drop_eq_getElem_cons hj]
 exact if_pos e
theorem find_next {n:T} {l:List Par} {j:Nat} (h:findP n l=findP n (l.drop j)) (hj:j<l.length) (e:low l[j].name≠low n):findP n l=findP n (l.drop (j+1)):=by
 rw [h,List.drop_eq_getElem_cons hj]
 exact if_neg e
theorem find_end {n:T} {l:List Par} {j:Nat} (h:findP n l=findP n (l.drop j)) (hj:j=l.length):findP n l=none:=by
 rw [h,List.drop_eq_nil_of_le (by omega)]
 rfl
theorem Blk.triple {wr:World} {g:Nat} {t:TypeId} {a0 a1 a2:Value} (h:Blk wr g t #[a0,a1,a2]) (x0 x1 x2:Value):Blk (((wr.setCell ⟨g,0,none⟩ x0).setCell ⟨g,1,none⟩ x1).setCell ⟨g,2,none⟩ x2) g t #[x0,x1,x2]:=((h.set_ 0 x0).set_ 1 x1).set_ 2 x2
theorem below_triple {B g:Nat} {w wr:World} (h:Below B w wr) (hg:B<=g) (x0 x1 x2:Value):Below B w (((wr.setCell ⟨g,0,none⟩ x0).setCell ⟨g,1,none⟩ x1).setCell ⟨g,2,none⟩ x2) :=
 ((h.setCell (p:=⟨g,0,none⟩) hg _).setCell (p:=⟨g,1,none⟩) hg _).setCell (p:=⟨g,2,none⟩) hg _
theorem triple_cells {wr:World} {g:Nat} {t:TypeId} {a0 a1 a2:Value} (h:Blk wr g t #[a0,a1,a2]) (x0 x1 x2:Value) :
 (((wr.setCell ⟨g,0,none⟩ x0).setCell ⟨g,1,none⟩ x1).setCell ⟨g,2,none⟩ x2).cell? ⟨g,0,none⟩=some x0/\(((wr.setCell ⟨g,0,none⟩ x0).setCell ⟨g,1,none⟩ x1).setCell ⟨g,2,none⟩ x2).cell? ⟨g,1,none⟩=some x1/\(((wr.setCell ⟨g,0,none⟩ x0).setCell ⟨g,1,none⟩ x1).setCell ⟨g,2,none⟩ x2).cell? ⟨g,2,none⟩=some x2 :=
 ⟨(h.triple x0 x1 x2).cell 0,(h.triple x0 x1 x2).cell 1,(h.triple x0 x1 x2).cell 2⟩
set_option maxRecDepth 100000 in
set_option maxHeartbeats 4000000 in
theorem find_any {l:List Par} {n:T} {A:Option Addr} {c B:Nat} {w:World} (hB:B<=w.heap.size) (hr:RdB w B 3 l.length A (rows parC l)) (hl:l.length<=maxLen) (hs:∀ p∈l,parS p) (hn:n.length<=140737488351232) :
 Calls Tryz.prog 116 #[.slice A l.length c,.string (str n)] w fun e w'=>e=.returned (findV (findP n l))/\Below w.heap.size w w':=by
 unfold maxLen at hl
 have HR:=hid hr
 have HS:=hid hs
 clear hr hs
 have HW0:Hid (Blk (w.alloc (.cells #[.string ⟨#[]⟩,.string ⟨#[]⟩,.bool false] 95)) w.heap.size 95 #[.string ⟨#[]⟩,.string ⟨#[]⟩,.bool false]/\Below w.heap.size w (w.alloc (.cells #[.string ⟨#[]⟩,.string ⟨#[]⟩,.bool false] 95))):=hid ⟨Blk.new w _ _,(Below.refl _ _).alloc (Nat.le_refl _) _⟩
 obtain ⟨g,hg⟩:∃ g,w.heap.size=g:=⟨_,rfl⟩
 have HG:=hid hg
 rw [hg] at HW0
 have hBg:B<=g:=by omega
 go_enter Tryz.func116,Tryz.ntmps116
 go_wp2
 go_loopw [10] (fun i wr=>∃ j:Nat,j<=l.length/\i=.int .i64 j/\findP n l=findP n (l.drop j)/\Blk wr g 95 #[.string ⟨#[]⟩,.string ⟨#[]⟩,.bool false]/\Below g w wr) (fun i _=>l.length-(intOf i).toNat)
 case atStart=>exact ⟨0,by omega,rfl,rfl,HW0.out.1,HW0.out.2⟩
 case round =>
  obtain ⟨j,hj,rfl,hF,hk,hb⟩:=hrel
  have HF:=hid hF
  have HK:=hid hk
  have HB:=hid hb
  have hlt1:=hk.lt
  by_cases hlt:j<l.length
  .have x0:(0:Int)<=j:=by omega
   have x1:(j:Int)<l.length:=by omega
   obtain ⟨gb,off,rfl,hgb,zc0,zc1,zc2⟩:=PrmB.at_ (HR.out.below (hb.mono hBg)) hlt
   have hps:=HS.out _ (List.getElem_mem hlt)
   have HEQ:Hid (sameS (str l[j].name) (str n)=decide (low l[j].name=low n)):=hid rfl
   have HHIT:=hid (fun q=>find_hit HF.out hlt q)
   have HNX:=hid (fun q=>find_next HF.out hlt q)
   have HSAME:Hid (∀ W,Calls Tryz.prog 146 #[.string (str l[j].name),.string (str n)] W (SameSPost (str l[j].name) (str n) W)):=hid (fun W=>Same_any _ _ W (by have:=hps.1;show l[j].name.length<=_;omega) (by show n.length<=_;omega))
   clear hF hk hb hps
   have HAL:Hid (∀ o m,Blk ((wr.alloc o).drewN m) g 95 #[.string ⟨#[]⟩,.string ⟨#[]⟩,.bool false]/\Below g w ((wr.alloc o).drewN m)):=hid (fun o m=>⟨(HK.out.alloc o).drewN m,below_drewN (HB.out.alloc (by omega) o) m⟩)
   go_wp2_with fail
   refine (HSAME.out _).mono ?_
   rintro e w' ⟨rfl,m,rfl⟩
   rw [HEQ.out]
   by_cases he:low l[j].name=low n
   .have HX:=hid (HHIT.out he)
    rw [decide_eq_true he]
    clear he
    generalize l[j]=p at *
    have hkd:=(HAL.out (.cells #[.string (str p.name),.string (str p.value),.bool p.has] 95) m).1
    have HZ:=hid (triple_cells hkd (.string (str p.name)) (.string (str p.value)) (.bool p.has))
    have HBZ:=hid (below_triple (HAL.out (.cells #[.string (str p.name),.string (str p.value),.bool p.has] 95) m).2 (Nat.le_refl g) (.string (str p.name)) (.string (str p.value)) (.bool p.has))
    have e0:=hkd.cell 0
    have e1:=hkd.cell 1
    have e2:=hkd.cell 2
    have f0:=hkd.frozen 0
    have f1:=hkd.frozen 1
    have f2:=hkd.frozen 2
    have hgw:wr.heap.size≠g:=by omega
    have hgw2:g≠wr.heap.size:=by omega
    clear hkd
    go_wp2
    obtain ⟨z0,z1,z2⟩:=HZ.out
    exact bodyPost_ret (v:=.tuple #[.agg #[.string (str p.name),.string (str p.value),.bool p.has],.bool true]) (by simp [results,Tryz.results116,go_sem,z0,z1,z2]) rfl ⟨by rw [HX.out];rfl,by have q:=HBZ.out;first|exact q|(rw [HG.out];exact q)⟩
   .have HX:=hid (HNX.out he)
    rw [decide_eq_false he]
    clear he
    go_wp2
    go_roundw
    case rel=>exact ⟨j+1,by omega,by go_num,HX.out,(HAL.out _ _).1,(HAL.out _ _).2⟩
    case measure=>simp [intOf] <;> omega
  .have x1:¬(j:Int)<l.length:=by omega
   have HX:=hid (find_end HF.out (by omega))
   have e0:=hk.cell 0
   have e1:=hk.cell 1
   have e2:=hk.cell 2
   have f0:=hk.frozen 0
   have f1:=hk.frozen 1
   have f2:=hk.frozen 2
   have HZ:=hid (triple_cells hk (.string ⟨#[]⟩) (.string ⟨#[]⟩) (.bool false))
   have HBZ:=hid (below_triple hb (Nat.le_refl g) (.string ⟨#[]⟩) (.string ⟨#[]⟩) (.bool false))
   clear hF hk hb
   go_wp2
   obtain ⟨z0,z1,z2⟩:=HZ.out
   exact bodyPost_ret (v:=.tuple #[.agg #[.string ⟨#[]⟩,.string ⟨#[]⟩,.bool false],.bool false]) (by simp [results,Tryz.results116,go_sem,z0,z1,z2]) rfl ⟨by rw [HX.out];rfl,by have q:=HBZ.out;first|exact q|(rw [HG.out];exact q)⟩
def valueV (o:Option Par):Value:=match o with
 | some p=>.tuple #[.string (str p.value),.bool true]
 | none=>.tuple #[.string ⟨#[]⟩,.bool false]
set_option maxHeartbeats 1000000 in
theorem Value_any {l:List Par} {n:T} {A:Option Addr} {c B:Nat} {w:World} (hB:B<=w.heap.size) (hr:RdB w B 3 l.length A (rows parC l)) (hl:l.length<=maxLen) (hs:∀ p∈l,parS p) (hn:n.length<=140737488351232) :
 Calls Tryz.prog 84 #[.slice A l.length c,.string (str n)] w fun e w'=>e=.returned (valueV (findP n l))/\Below w.heap.size w w':=by
 have HF:=hid (find_any (c:=c) hB hr hl hs hn)
 generalize findP n l=o at *
 cases o with
 | none =>
   unfold findV at HF
   go_enter Tryz.func84,Tryz.ntmps84
   go_wp2_with fail
   refine HF.out.mono ?_
   rintro e w1 ⟨rfl,hb⟩
   have HB:Hid (∀ o,Below w.heap.size w (w1.alloc o)):=hid (fun o=>hb.alloc hb.size o)
   clear hb
   go_wp2
   go_ret2
   exact ⟨rfl,HB.out _⟩
 | some p =>
   unfold findV at HF
   go_enter Tryz.func84,Tryz.ntmps84
   go_wp2_with fail
   refine HF.out.mono ?_
   rintro e w1 ⟨rfl,hb⟩
   have HB:Hid (∀ o,Below w.heap.size w (w1.alloc o)):=hid (fun o=>hb.alloc hb.size o)
   clear hb
   go_wp2
   go_ret2
   exact ⟨rfl,HB.out _⟩
def PlaceIs (n:T) (l:List Par) (z:Int):Prop:=(z=-1/\findP n l=none)\/∃ k,∃ h:k<l.length,z=(k:Int)/\findP n l=some l[k]
def PlacePost (n:T) (l:List Par) (w:World) (e:Ending) (w':World):Prop:=∃ z,e=.returned (.int .i64 z)/\PlaceIs n l z/\Below w.heap.size w w'
set_option maxRecDepth 100000 in
set_option maxHeartbeats 4000000 in
theorem Place_any {l:List Par} {n:T} {A:Option Addr} {c B:Nat} {w:World} (hB:B<=w.heap.size) (hr:RdB w B 3 l.length A (rows parC l)) (hl:l.length<=maxLen) (hs:∀ p∈l,parS p) (hn:n.length<=140737488351232) :
 Calls Tryz.prog 99 #[.slice A l.length c,.string (str n)] w (PlacePost n l w):=by
 unfold maxLen at hl
 have HR:=hid hr
 have HS:=hid hs
 clear hr hs
 go_enter Tryz.func99,Tryz.ntmps99
 go_wp2
 go_loopw [5] (fun i wr=>∃ j:Nat,j<=l.length/\i=.int .i64 j/\findP n l=findP n (l.drop j)/\Below w.heap.size w wr) (fun i _=>l.length-(intOf i).toNat)
 case atStart=>exact ⟨0,by omega,rfl,rfl,Below.refl _ _⟩
 case round =>
  obtain ⟨j,hj,rfl,hF,hb⟩:=hrel
  have HF:=hid hF
  have HB:=hid hb
  have hsz:=hb.size
  by_cases hlt:j<l.length
  .have x0:(0:Int)<=j:=by omega
   have x1:(j:Int)<l.length:=by omega
   obtain ⟨gb,off,rfl,hgb,zc0,zc1,zc2⟩:=PrmB.at_ (HR.out.below (hb.mono hB)) hlt
   have hps:=HS.out _ (List.getElem_mem hlt)
   have HEQ:Hid (sameS (str l[j].name) (str n)=decide (low l[j].name=low n)):=hid rfl
   have HHIT:=hid (fun q=>find_hit HF.out hlt q)
   have HNX:=hid (fun q=>find_next HF.out hlt q)
   have HSAME:Hid (∀ W,Calls Tryz.prog 132 #[.string (str l[j].name),.string (str n)] W (fun e w'=>e=.returned (.bool (sameS (str l[j].name) (str n)))/\Below W.heap.size W w')):=hid (fun W=>rSame_any _ _ W (by have:=hps.1;show l[j].name.length<=_;omega) (by show n.length<=_;omega))
   clear hF hb hps
   go_wp2_with fail
   refine (HSAME.out _).mono ?_
   rintro e w1 ⟨rfl,hb1⟩
   have HB1:=hid (thenB HB.out hb1)
   rw [HEQ.out]
   clear hb1
   by_cases he:low l[j].name=low n
   .have HX:=hid (HHIT.out he)
    rw [decide_eq_true he]
    clear he
    go_wp2
    go_ret
    exact ⟨_,rfl,.inr ⟨j,hlt,rfl,HX.out⟩,HB1.out⟩
   .have HX:=hid (HNX.out he)
    rw [decide_eq_false he]
    clear he
    go_wp2
    go_roundw
    case rel=>exact ⟨j+1,by omega,by go_num,HX.out,HB1.out⟩
    case measure=>simp [intOf] <;> omega
  .have x1:¬(j:Int)<l.length:=by omega
   have HX:=hid (find_end HF.out (by omega))
   clear hF hb
   go_wp2
   go_ret
   exact ⟨_,rfl,.inl ⟨rfl,HX.out⟩,HB.out⟩
set_option maxHeartbeats 2000000 in
theorem rValue_any {l:List Par} {n:T} {A:Option Addr} {c B:Nat} {w:World} (hB:B<=w.heap.size) (hr:RdB w B 3 l.length A (rows parC l)) (hl:l.length<=maxLen) (hs:∀ p∈l,parS p) (hn:n.length<=140737488351232) :
 Calls Tryz.prog 58 #[.slice A l.length c,.string (str n)] w fun e w'=>e=.returned (valueV (findP n l))/\Below w.heap.size w w':=by
 have HF:=hid (Place_any (c:=c) hB hr hl hs hn)
 have HR:=hid hr
 clear hr
 go_enter Tryz.func58,Tryz.ntmps58
 go_wp2_with fail
 refine HF.out.mono ?_
 rintro e w1 ⟨z,rfl,hz,hb⟩
 have HB:=hid hb
 rcases hz with ⟨rfl,hn⟩|⟨k,hk,rfl,hs⟩
 .have HX:=hid hn
  clear hn hb
  go_wp2
  go_ret2
  exact ⟨by rw [HX.out];rfl,HB.out⟩
 .have HX:=hid hs
  obtain ⟨gb,off,rfl,hgb,zc0,zc1,zc2⟩:=PrmB.at_ (HR.out.below (hb.mono hB)) hk
  have x0:(0:Int)<=k:=by omega
  have x1:(k:Int)<l.length:=by omega
  clear hs hb
  go_wp2
  go_ret2
  exact ⟨by rw [HX.out];rfl,HB.out⟩
end Go.Proofs.YthkadehlclcggaaGreatDoor
