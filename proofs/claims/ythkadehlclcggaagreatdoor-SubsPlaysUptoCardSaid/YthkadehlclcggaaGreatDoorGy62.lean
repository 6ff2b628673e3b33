/- Chapter 19: Find. -/
import Derived.Test.YthkadehlclcggaaGreatDoorGy61
import Derived.Test.YthkadehlclcggaaGreatDoorGy55
namespace Go.Proofs.YthkadehlclcggaaGreatDoor
set_option linter.unusedSimpArgs false
set_option linter.unusedVariables false
open Go.RowKit
open Go.Lib (hid)
def findSV (L:List SubP) (r:ReqP):Value:=match findS L r with|some s=>.tuple #[.int .i64 s.number,.bool true]|none=>.tuple #[.int .i64 0,.bool false]
def FdPost (L:List SubP) (r:ReqP) (w:World) (e:Ending) (w':World):Prop:=e=.returned (findSV L r)/\Below w.heap.size w w'
def NoMat (L:List SubP) (r:ReqP) (k:Nat):Prop:=(L.take k).find? (fun s=>matchB s.dlg r)=none
theorem NoMat.next {L:List SubP} {r:ReqP} {k:Nat} (h:NoMat L r k) (hk:k<L.length) (hb:matchB (L[k]).dlg r=false):NoMat L r (k+1):=by
 unfold NoMat at *
 rw [List.take_succ_eq_append_getElem hk,List.find?_append,h]
 simp [hb]
theorem NoMat.hit {L:List SubP} {r:ReqP} {k:Nat} (h:NoMat L r k) (hk:k<L.length) (hb:matchB (L[k]).dlg r=true):findSV L r=.tuple #[.int .i64 (L[k]).number,.bool true]:=by
 have e:findS L r=some L[k]:=by
  unfold findS
  have e1:L=L.take k++L[k]::L.drop (k+1):=by rw [List.getElem_cons_drop hk,List.take_append_drop]
  conv=>lhs;rw [e1]
  unfold NoMat at h
  rw [List.find?_append,h,List.find?_cons_of_pos (by exact hb)]
  rfl
 unfold findSV
 rw [e]
theorem NoMat.fin {L:List SubP} {r:ReqP} (h:NoMat L r L.length):findSV L r=.tuple #[.int .i64 0,.bool false]:=by
 unfold NoMat at h
 rw [List.take_length] at h
 unfold findSV findS
 rw [h]
set_option maxRecDepth 100000 in
set_option maxHeartbeats 4000000 in
theorem sfind_any {w:World} {p:Nat} {c:Conf} {last:Int} {L:List SubP} {F:Nat->Prop} (H:Sb w p c last L F) (r:ReqP) (q:RqV):Calls Tryz.prog 29 #[.pointer (some ⟨p,0,none⟩),.agg (reqA r q)] w (FdPost L r w):=by
 obtain ⟨w0,hw0⟩:∃ w0,w.alloc (.cells (reqA r q) 45)=w0:=⟨_,rfl⟩
 have hb0:Below w.heap.size w w0:=hw0▸(Below.refl _ _).alloc (Nat.le_refl _) _
 have hka:Blk w0 w.heap.size 45 (reqA r q):=hw0▸Blk.new w _ _
 have HNU:=hid (snumbers_any (H.below hb0))
 obtain ⟨xs,l,bm,pw,km,FW,rfl,H,Q⟩:=H.below hb0
 have hm:=hid (smade_any (pw:=pw) H.top)
 have HI:=hid H
 have HND:=hid (subs_idnd Q.ids)
 have HZ:=hid Q.z
 have hle:(xs.map (·.s)).length<=200:=by
  have h2:=Q.len
  have h3:=Q.subs
  omega
 have HLE:=hid hle
 have HB0:=hid hb0
 have HKA:=hid hka
 clear H Q hle hb0 hka
 go_enter Tryz.func29,Tryz.ntmps29
 go_upto_region 1 with (fail)
 try rw [hw0]
 clear hw0
 generalize hq0:Value.agg (reqA r q)=q0
 have HQ0:=hid hq0
 clear hq0
 go_wp2_with fail
 refine (hm.out).mono ?_
 rintro e w' ⟨rfl,rfl⟩
 go_wp2_with fail
 refine (HNU.out).mono ?_
 rintro e w1 ⟨nv,rfl,hown,hb1⟩
 have e1:((xs.map (·.s)).map (·.number)).length=(xs.map (·.s)).length:=by simp
 rw [e1] at hown
 obtain ⟨A,cA,rfl,hAc,hcm,hrd⟩:=RdV.of_own hown
 have HRD:=hid hrd
 have HB1:=hid hb1
 clear hown hrd hb1 e1 hAc hcm
 go_wp2_with fail
 go_loopw [14] (fun i wr=>∃ k:Nat,k<=(xs.map (·.s)).length/\i=.int .i64 k/\NoMat (xs.map (·.s)) r k/\Below w1.heap.size w1 wr) (fun i _=>(xs.map (·.s)).length-(intOf i).toNat)
 case atStart=>exact ⟨0,by omega,rfl,rfl,Below.refl _ _⟩
 case round =>
  obtain ⟨k,hk,rfl,hno,hbw⟩:=hrel
  have HNO:=hid hno
  have HBW:=hid hbw
  clear hno
  by_cases hlt:k<(xs.map (·.s)).length
  .obtain ⟨gb,off,rfl,ck⟩:=num_at HRD.out hbw hlt
   have hlx:k<xs.length:=by simpa using hlt
   have ex:(xs.map (·.s))[k]=(xs[k]).s:=by simp
   have hxx:xs[k]∈xs:=List.getElem_mem hlx
   rw [ex] at ck
   have HLN:Hid (k<=200):=hid (by have:=HLE.out;omega)
   have hl200:k<=200:=HLN.out
   have HNX:Hid (matchB (xs[k]).s.dlg r=false->NoMat (xs.map (·.s)) r (k+1)):=hid (fun h=>HNO.out.next hlt (by rw [ex];exact h))
   have HHI:Hid (matchB (xs[k]).s.dlg r=true->findSV (xs.map (·.s)) r=.tuple #[.int .i64 (xs[k]).s.number,.bool true]):=hid (fun h=>by have:=HNO.out.hit hlt (by rw [ex];exact h);rw [ex] at this;exact this)
   have HXX:=hid hxx
   have x0:(0:Int)<=k:=by omega
   have x1:(k:Int)<(xs.map (·.s)).length:=by omega
   clear hbw ex hxx
   generalize xs[k]=x at *
   have HS:Hid (∀ W,Below wr.heap.size wr W->W.cell? ⟨p,8,none⟩=some (.map (some bm))/\(Instr.lookup 82 (.map (some bm)) (.int .i64 x.s.number) false).run Tryz.prog W=.ok (.pointer (some ⟨x.b,0,none⟩)) W/\W.rangeAt x.b 8 (dlgA x.s.dlg x.v).toList/\W.rangeAt w.heap.size 0 (reqA r q).toList):=hid (fun W hW=>by
    have hi:=((HI.out.below HB1.out).below HBW.out).below hW
    exact ⟨hi.top.cell 8,hi.look HND.out HXX.out,blk_range (off:=8) (hi.its x HXX.out) rfl,blk_range (off:=0) (((HKA.out.fr (Fr.of_below (F:=fun _=>False) HB1.out) (fun h=>h)).fr (Fr.of_below (F:=fun _=>False) HBW.out) (fun h=>h)).fr (Fr.of_below (F:=fun _=>False) hW) (fun h=>h)) rfl⟩)
   have HX0:Hid (Below wr.heap.size wr wr.drew):=hid (Below.refl _ _).drew
   have HMA:Hid (∀ W,Below wr.heap.size wr W->Calls Tryz.prog 59 #[.agg (dlgA x.s.dlg x.v),.agg (reqA r q)] W (MatPost x.s.dlg r W)):=hid (fun W hW=>by
    have hi:=((HI.out.below HB1.out).below HBW.out).below hW
    have hz:=HZ.out _ (List.mem_map.2 ⟨x,HXX.out,rfl⟩)
    exact Match_any (Nat.le_refl _) (hi.sub x HXX.out).la.prB (hi.sub x HXX.out).ra.prB hz.pl hz.pr)
   rw [HQ0.out] at HMA
   obtain ⟨d0,hd0⟩:∃ d0,Value.agg (dlgA x.s.dlg x.v)=d0:=⟨_,rfl⟩
   rw [hd0] at HMA
   unfold MatPost at HMA
   have HD0:=hid hd0
   clear hd0
   go_upto_region 6 with (fail)
   clear ck
   refine wp_region_noPanic (rgn HS.out HX0.out fun hHeld=>?_)
   refine tk 0 ?_
   refine tk 1 ?_
   refine tk 2 ?_
   refine tk 3 ?_
   refine tk 4 ?_
   refine tk 5 ?_
   refine tk 6 ?_
   refine tk 7 ?_
   refine tkv 8 (d0) ?_ ?_
   .rw [<-HD0.out];exact yieldsIf_load_mid (by rfl) 37 (.tmp 25) rfl x.b 8 rfl (dlgA x.s.dlg x.v).toList _ (fun wq hSw=>hSw.2.2.1) Tryz.underlying37 rfl (by kernel_rfl)
   refine tkv 9 (q0) ?_ ?_
   .rw [<-HQ0.out];exact yieldsIf_load_mid (by rfl) 45 (.tmp 3) rfl w.heap.size 0 rfl (reqA r q).toList _ (fun wq hSw=>hSw.2.2.2) Tryz.underlying45 rfl (by kernel_rfl)
   refine rd1 10 fun K hK=>?_
   go_simp
   refine (HMA.out _ HX0.out).mono ?_
   rintro e w2 ⟨rfl,hb2⟩
   have HX1:Hid (Below wr.heap.size wr w2):=hid (thenB_ HX0.out hb2)
   clear hb2
   go_wp2_with fail
   refine bk hK (HS.out _ HX1.out) fun hHeld=>?_
   clear hK K
   refine dn9 (NoPanic.normal ?_)
   clear hHeld
   have HBE:Hid (Below w1.heap.size w1 w2):=hid (HBW.out.trans (HX1.out.mono HBW.out.size))
   clear HS HMA
   cases hmb:matchB x.s.dlg r with
   | true =>
     have HE:=hid (HHI.out hmb)
     clear hmb
     go_wp2
     go_ret2
     exact ⟨by rw [HE.out];rfl,HB0.out.trans ((HB1.out.trans (HBE.out.mono HB1.out.size)).mono HB0.out.size)⟩
   | false =>
     have HE:=hid (HNX.out hmb)
     clear hmb
     go_wp2
     go_roundw
     case rel=>exact ⟨k+1,by omega,by go_num,HE.out,HBE.out⟩
     case measure=>simp [intOf] <;> omega
  .obtain rfl:k=(xs.map (·.s)).length:=by omega
   have HE:=hid HNO.out.fin
   clear hbw
   go_wp2
   go_ret2
   exact ⟨by rw [HE.out];rfl,HB0.out.trans ((HB1.out.trans (HBW.out.mono HB1.out.size)).mono HB0.out.size)⟩
end Go.Proofs.YthkadehlclcggaaGreatDoor
