/- Chapter 19, the document's answer: Fields of no or one field, Parse at the texts of reques Chapter 19, the document's answer: Parse at the texts of request. -/
import Derived.Test.YthkadehlclcggaaGreatDoorGx63
import Derived.Test.YthkadehlclcggaaGreatDoorGx64
import Derived.Test.YthkadehlclcggaaGreatDoorGx52
import Derived.Test.YthkadehlclcggaaGreatDoorGx50
namespace Go.Proofs.YthkadehlclcggaaGreatDoor
set_option linter.unusedSimpArgs false
set_option linter.unusedVariables false
open Go.RowKit
open Go.Lib (hid)
set_option maxRecDepth 100000 in
theorem qFields_nil (A:Option Addr) (c:Nat) (w:World):Calls Tryz.prog 83 #[.slice A 0 c] w fun e w'=>e=.returned (.tuple #[.slice none 0 0,.int .i64 0])/\w=w':=by
 go_enter Tryz.func83,Tryz.ntmps83
 go_wp2_with fail
 go_loop [4,5] (fun v i=>v=.slice none 0 0/\i=.int .i64 0) (fun _ _=>0)
 case atStart=>exact ⟨rfl,rfl⟩
 case round =>
  obtain ⟨rfl,rfl⟩:=hrel
  go_wp2_with fail
  go_ret2
  exact ⟨rfl,rfl⟩
def tag1T:T:=[116,97,103,61,49]
def tag1P:Par:=⟨tagN,[49],true⟩
def Fl1Post (w:World) (e:Ending) (w':World):Prop:=∃ v,e=.returned (.tuple #[v,.int .i64 0])/\w'.ownsRow w.heap.size 95 3 v 1 (rows parC [tag1P])/\Below w.heap.size w w'
def Fl1Rel (w:World) (v i:Value) (wr:World):Prop:=(i=.int .i64 0/\v=.slice none 0 0/\wr=w)\/(i=.int .i64 1/\wr.ownsRow w.heap.size 95 3 v 1 (rows parC [tag1P])/\Below w.heap.size w wr)
theorem cut_tag1:cutV (str tag1T) 61=.tuple #[.string ⟨#[116,97,103]⟩,.string ⟨#[49]⟩,.bool true]:=rfl
theorem tag1_ok:badP [] tag1P=false:=by decide +kernel
theorem ePm95:ElemInfo Tryz.prog 95 3 40 (.agg #[.string ⟨#[]⟩,.string ⟨#[]⟩,.bool false]):=ElemInfo.mk' (by kernel_rfl)
set_option maxRecDepth 100000 in
set_option maxHeartbeats 4000000 in
theorem qFields_one {g o c:Nat} {w:World} (hc:w.cell? ⟨g,o,none⟩=some (.string (str tag1T))):Calls Tryz.prog 83 #[.slice (some ⟨g,o,none⟩) 1 c] w (Fl1Post w):=by
 have HCT:Hid (∀ W,Calls Tryz.prog 70 #[.string (str tag1T),.int .u8 61] W fun e w'=>e=.returned (.tuple #[.string ⟨#[116,97,103]⟩,.string ⟨#[49]⟩,.bool true])/\∃ n,w'=W.drewN n):=hid (fun W=>by
  have h:=rCut_any (str tag1T) 61 W (by show 5<=_;omega)
  rw [cut_tag1] at h
  exact h)
 have HT1:Hid (∀ W,Calls Tryz.prog 79 #[.string ⟨#[49]⟩] W fun e w'=>e=.returned (.string ⟨#[49]⟩)/\W=w'):=hid (fun W=>qTrim_id (m:=0) rfl (by show 1<=_;omega) (by decide) (by decide) W)
 have HT2:Hid (∀ W,Calls Tryz.prog 79 #[.string ⟨#[116,97,103]⟩] W fun e w'=>e=.returned (.string ⟨#[116,97,103]⟩)/\W=w'):=hid (fun W=>qTrim_id (m:=2) rfl (by show 3<=_;omega) (by decide) (by decide) W)
 have HWD:Hid (∀ W,Calls Tryz.prog 114 #[.string ⟨#[49]⟩] W fun e w'=>e=.returned (.bool true)/\Below W.heap.size W w'):=hid (fun W=>by
  have h:=qWord_any [49] W (by show 1<=_;omega)
  unfold BlPost at h
  rw [show wordB [49]=true from by decide +kernel] at h
  exact h)
 have HMY:Hid (∀ W,Calls Tryz.prog 115 #[.slice none 0 0,.agg #[.string ⟨#[116,97,103]⟩,.string ⟨#[49]⟩,.bool true]] W fun e w'=>e=.returned (.bool true)/\Below W.heap.size W w'):=hid (fun W=>by
  have h:=qMay_any (l:=[]) (p:=tag1P) (A:=none) (c:=0) (B:=0) (w:=W) (Nat.zero_le _) ⟨rfl,fun hn=>absurd hn (by simp)⟩ (by simp [maxLen]) (by simp) ⟨by show 3<=_;omega,by show 1<=_;omega⟩
  unfold BlPost at h
  rw [tag1_ok] at h
  exact h)
 go_enter Tryz.func83,Tryz.ntmps83
 go_wp2_with fail
 go_loopw [4,5] (fun v i wr=>Fl1Rel w v i wr) (fun _ i _=>1-(intOf i).toNat)
 case atStart=>exact .inl ⟨rfl,rfl,rfl⟩
 case round =>
  rcases hrel with ⟨rfl,rfl,rfl⟩|⟨rfl,ho,hb⟩
  .go_wp2_with fail
   refine (HCT.out _).mono ?_
   rintro e w1 ⟨rfl,n1,rfl⟩
   go_wp2_with fail
   refine (HT1.out _).mono ?_
   rintro e w2 ⟨rfl,rfl⟩
   go_wp2_with fail
   refine (HWD.out _).mono ?_
   rintro e w2 ⟨rfl,hb2⟩
   have HB2:Hid (Below wr.heap.size wr w2):=hid (thenB_ (((Fr.refl (fun _=>False) wr).drewN n1).to_below (Nat.le_refl _) (fun _ h=>h.elim)) hb2)
   clear hb2
   go_wp2_with fail
   refine (HT2.out _).mono ?_
   rintro e w3 ⟨rfl,rfl⟩
   have HBK:=hid (Blk.new w2 95 #[.string ⟨#[116,97,103]⟩,.string ⟨#[49]⟩,.bool true])
   have HBA:Hid (Below wr.heap.size wr (w2.alloc (.cells #[.string ⟨#[116,97,103]⟩,.string ⟨#[49]⟩,.bool true] 95))):=hid (HB2.out.alloc HB2.out.size _)
   go_wp2_with fail
   refine (HMY.out _).mono ?_
   rintro e w4 ⟨rfl,hb4⟩
   have hk4:=HBK.out.fr (Fr.of_below (F:=fun _=>False) hb4) (fun h=>h)
   have HB4:=hid (thenB_ HBA.out hb4)
   have HSZ4:=hid HB4.out.size
   have k0:=hk4.cell 0
   have k1:=hk4.cell 1
   have k2:=hk4.cell 2
   have HNO:Hid (w4.ownsRow wr.heap.size 95 3 (.slice none 0 0) 0 []):=hid ⟨rfl,.inl ⟨rfl,rfl⟩⟩
   clear hb4 hk4 hc
   go_wp2_with (at_builtin;go_must (refine wpList_app1' rfl (.tmp 64) (.tmp 66) 28 rfl wr.heap.size 95 3 40 _ Tryz.underlying28 ePm95 rfl (by omega) (.slice none 0 0) 0 [] rfl HNO.out [.string ⟨#[116,97,103]⟩,.string ⟨#[49]⟩,.bool true] _ rfl (by first|rfl|(simp;done)) rfl (by simp [Value.oneCell']) (by unfold maxLen;omega) (by omega) HSZ4.out ?_);intro v5 w5 hown5 hb5 hg5 hat5)
   have HX:Hid (Fl1Rel wr v5 (.int .i64 1) w5):=hid (.inr ⟨rfl,hown5,HB4.out.trans hb5⟩)
   clear hown5 hb5 hg5 hat5
   go_roundw
   case rel=>exact HX.out
   case measure=>simp [intOf]
  .have HO:=hid ho
   have HB:=hid hb
   clear ho hb
   go_wp2_with fail
   go_ret2
   exact ⟨_,rfl,HO.out,HB.out⟩
def PrsPost (a:AddrP) (w:World) (e:Ending) (w':World):Prop:=∃ vp vh va,e=.returned (.tuple #[.agg (addrA a vp vh va),.int .i64 0])/\AdM w' a vp vh va/\Below w.heap.size w w'
def uriCD:Uri:=⟨[115,105,112],[99],[100],0,[],[]⟩
def uriAB:Uri:=⟨[115,105,112],[97],[98],0,[],[]⟩
def adrCD:AddrP:=⟨[],uriCD,[tag1P]⟩
def adrAB:AddrP:=⟨[],uriAB,[]⟩
theorem prs_cd:parseE [115,105,112,58,99,64,100]=(uriCD,0):=by decide +kernel
theorem prs_ab:parseE [115,105,112,58,97,64,98]=(uriAB,0):=by decide +kernel
def txCD:ByteArray:=⟨#[60,115,105,112,58,99,64,100,62,59,116,97,103,61,49]⟩
def txAB:ByteArray:=⟨#[60,115,105,112,58,97,64,98,62]⟩
def whCD:ByteArray:=⟨#[115,105,112,58,99,64,100]⟩
def beCD:T:=[59,116,97,103,61,49]
theorem cut_cd:cutV (txCD.extract 1 15) 62=.tuple #[.string whCD,.string (str beCD),.bool true]:=rfl
theorem spl_cd:splitT 59 beCD=[[],tag1T]:=rfl
theorem pln_cd:PlnT beCD:=by unfold PlnT beCD;decide
theorem prs_cd':parseE whCD.data.toList=(uriCD,0):=prs_cd
def whAB:ByteArray:=⟨#[115,105,112,58,97,64,98]⟩
theorem cut_ab:cutV (txAB.extract 1 9) 62=.tuple #[.string whAB,.string (str []),.bool true]:=rfl
theorem spl_ab:splitT 59 []=[[]]:=rfl
theorem pln_ab:PlnT []:=by unfold PlnT;simp
theorem prs_ab':parseE whAB.data.toList=(uriAB,0):=prs_ab
theorem qDisplay_e (W:World):Calls Tryz.prog 81 #[.string ByteArray.empty] W fun e w'=>e=.returned (.tuple #[.string ⟨#[]⟩,.bool true])/\W=w':=qDisplay_nil W
set_option maxRecDepth 100000 in
set_option maxHeartbeats 4000000 in
theorem qParse_cd (w:World):Calls Tryz.prog 41 #[.string ⟨#[60,115,105,112,58,99,64,100,62,59,116,97,103,61,49]⟩] w (PrsPost adrCD w):=by
 have HT:Hid (∀ W,Calls Tryz.prog 79 #[.string ⟨#[60,115,105,112,58,99,64,100,62,59,116,97,103,61,49]⟩] W fun e w'=>e=.returned (.string txCD)/\W=w'):=hid (fun W=>qTrim_id (s:=txCD) (m:=14) rfl (by show 15<=_;omega) (by decide) (by decide) W)
 have HOP:Hid (∀ W,Calls Tryz.prog 80 #[.string txCD] W fun e w'=>e=.returned (.int .i64 0)/\W=w'):=hid (fun W=>qOpen_any (s:=txCD) (by decide) (by show 15<=_;omega) (by decide) W)
 have HDI:=hid qDisplay_e
 have HHA:Hid (∀ W,Calls Tryz.prog 73 #[.string (txCD.extract 0 15),.int .u8 62] W fun e w'=>e=.returned (.bool true)/\W=w'):=hid (fun W=>rHas_any (txCD.extract 0 15) 62 W (by show 15<=_;omega))
 have HCU:Hid (∀ W,Calls Tryz.prog 70 #[.string (txCD.extract 1 15),.int .u8 62] W fun e w'=>e=.returned (.tuple #[.string whCD,.string (str beCD),.bool true])/\∃ n,w'=W.drewN n):=hid (fun W=>by
  have h:=rCut_any (txCD.extract 1 15) 62 W (by show 14<=_;omega)
  rw [cut_cd] at h
  exact h)
 have HPA:Hid (∀ W,Calls Tryz.prog 40 #[.string whCD] W (ParseP2 (uriCD,0) W)):=hid (fun W=>by
  have h:=rParse2_any whCD W (by show 7<=_;omega)
  rw [prs_cd'] at h
  exact h)
 have HPT:Hid (∀ W,Calls Tryz.prog 82 #[.string (str beCD),.int .u8 59] W (PtPost beCD W)):=hid (fun W=>qParts_any beCD W pln_cd (by decide))
 have HTN:=hid qTrim_nil
 have hsz:txCD.size=15:=rfl
 obtain ⟨wA,hwA⟩:∃ wA,(w.alloc (.cells addr0 34)).alloc (.cells addr0 34)=wA:=⟨_,rfl⟩
 have hbA:Below w.heap.size w wA:=hwA▸((Below.refl _ _).alloc (Nat.le_refl _) _).alloc (by simp) _
 have hsA:wA.heap.size=w.heap.size+2:=hwA▸(by simp)
 have hkA:Blk wA w.heap.size 34 addr0:=hwA▸(Blk.new w _ _).alloc _
 obtain ⟨w0,hw0⟩:∃ w0,wA.alloc (.cells addr0 34)=w0:=⟨_,rfl⟩
 have hb0:Below w.heap.size w w0:=hw0▸hbA.alloc hbA.size _
 have hk0:Blk w0 w.heap.size 34 addr0:=hw0▸hkA.alloc _
 have hk2:Blk w0 (w.heap.size+2) 34 addr0:=hw0▸hsA▸Blk.new wA _ _
 have HB0:=hid hb0
 have HK0:=hid hk0
 have HK2:=hid hk2
 have HSA:=hid hsA
 clear hbA hkA hb0 hk0 hk2 hsA
 unfold addr0 at hwA hw0
 have HWA:=hid hwA
 have HW0:=hid hw0
 clear hwA hw0
 go_enter Tryz.func41,Tryz.ntmps41
 go_upto_region 2 with (fail)
 rw [HWA.out]
 go_wp2_with fail
 refine (HT.out _).mono ?_
 rintro e w1 ⟨rfl,rfl⟩
 go_upto_region 4 with (fail)
 rw [HW0.out,HSA.out]
 go_wp2_with fail
 refine (HOP.out _).mono ?_
 rintro e w1 ⟨rfl,rfl⟩
 go_wp2_with fail
 refine (HDI.out _).mono ?_
 rintro e w1 ⟨rfl,rfl⟩
 go_wp2_with fail
 refine (HHA.out _).mono ?_
 rintro e w1 ⟨rfl,rfl⟩
 have z0:w0.cell? ⟨w.heap.size+2,0,none⟩=some (.string ⟨#[]⟩):=HK2.out.cell 0
 have zf:=HK2.out.frozen 0
 go_upto_region 11 with (fail)
 have hb1:=HB0.out.setCell (p:=⟨w.heap.size+2,0,none⟩) (by show w.heap.size<=w.heap.size+2;omega) (.string ⟨#[]⟩)
 have hk1:Blk (w0.setCell ⟨w.heap.size+2,0,none⟩ (.string ⟨#[]⟩)) w.heap.size 34 addr0:=HK0.out.far (by show w.heap.size≠w.heap.size+2;omega) _
 have hk21:Blk (w0.setCell ⟨w.heap.size+2,0,none⟩ (.string ⟨#[]⟩)) (w.heap.size+2) 34 addr0:=HK2.out.set_ 0 _
 obtain ⟨w1,hw1⟩:∃ w1,w0.setCell ⟨w.heap.size+2,0,none⟩ (.string ⟨#[]⟩)=w1:=⟨_,rfl⟩
 rw [hw1] at hb1 hk1 hk21 ⊢
 clear hw1 z0 zf HB0 HK0 HK2 HWA HW0 HSA HHA HOP HDI HT
 have HB1:=hid hb1
 have HK1:=hid hk1
 have HK21:=hid hk21
 clear hb1 hk1 hk21
 go_wp2_with fail
 refine (HCU.out _).mono ?_
 rintro e w2 ⟨rfl,n1,rfl⟩
 go_wp2_with fail
 refine (HPA.out _).mono ?_
 rintro e w2 ⟨vp,vh,rfl,mp,mh,hb2⟩
 have HB2:Hid (Below w1.heap.size w1 w2):=hid (thenB_ (((Fr.refl (fun _=>False) w1).drewN n1).to_below (Nat.le_refl _) (fun _ h=>h.elim)) hb2)
 have HMP:=hid mp
 have HMH:=hid mh
 obtain ⟨A5,c5,rfl,_⟩:=mp
 obtain ⟨A6,c6,rfl,_⟩:=mh
 clear hb2
 unfold uriV
 go_upto_region 21 with (fail)
 have HKU:=hid (Blk.new w2 32 #[.string (str uriCD.scheme),.string (str uriCD.user),.string (str uriCD.host),.int .i64 uriCD.port,.slice A5 uriCD.params.length c5,.slice A6 uriCD.headers.length c6])
 have HB3:Hid (Below w1.heap.size w1 (w2.alloc (.cells #[.string (str uriCD.scheme),.string (str uriCD.user),.string (str uriCD.host),.int .i64 uriCD.port,.slice A5 uriCD.params.length c5,.slice A6 uriCD.headers.length c6] 32))):=hid (HB2.out.alloc HB2.out.size _)
 have HM3:Hid (PrM (w2.alloc (.cells #[.string (str uriCD.scheme),.string (str uriCD.user),.string (str uriCD.host),.int .i64 uriCD.port,.slice A5 uriCD.params.length c5,.slice A6 uriCD.headers.length c6] 32)) uriCD.params (.slice A5 uriCD.params.length c5)/\PrM (w2.alloc (.cells #[.string (str uriCD.scheme),.string (str uriCD.user),.string (str uriCD.host),.int .i64 uriCD.port,.slice A5 uriCD.params.length c5,.slice A6 uriCD.headers.length c6] 32)) uriCD.headers (.slice A6 uriCD.headers.length c6)):=hid ⟨HMP.out.below ((Below.refl _ _).alloc (Nat.le_refl _) _),HMH.out.below ((Below.refl _ _).alloc (Nat.le_refl _) _)⟩
 obtain ⟨w3,hw3⟩:∃ w3,w2.alloc (.cells #[.string (str uriCD.scheme),.string (str uriCD.user),.string (str uriCD.host),.int .i64 uriCD.port,.slice A5 uriCD.params.length c5,.slice A6 uriCD.headers.length c6] 32)=w3:=⟨_,rfl⟩
 rw [hw3] at HKU HB3 HM3 ⊢
 clear hw3 HMP HMH
 obtain ⟨gu,hgu⟩:∃ gu,w2.heap.size=gu:=⟨_,rfl⟩
 rw [hgu] at HKU ⊢
 clear hgu HB2
 go_wp2_with fail
 refine (HPT.out _).mono ?_
 rintro e w4 ⟨pv,rfl,hown,hb4⟩
 rw [spl_cd] at hown
 obtain ⟨gp,cp,rfl⟩:=own_pos hown (by decide)
 have hrd:=RdV.of_own hown
 obtain ⟨A9,c9,he9,hc9,_,hr9⟩:=hrd
 injection he9 with e1 e2 e3
 subst e1 e3
 obtain ⟨gb9,off9,e9,_,hcc⟩:=hr9.at_ (by decide)
 injection e9 with e9
 injection e9 with e10 e11
 subst e10 e11
 have hp0:w4.cell? ⟨gp,0,none⟩=some (.string ⟨#[]⟩):=hcc 0 _ rfl
 have HP1:Hid (w4.cell? ⟨gp,1,none⟩=some (.string (str tag1T))):=hid (hcc 1 _ rfl)
 have h2c:2<=cp:=hc9
 have h1c:¬cp=1:=by omega
 have HB4:=hid (HB3.out.trans (hb4.mono HB3.out.size))
 have HB34:=hid hb4
 clear hown hb4 hcc hr9 hc9
 simp only [List.length_cons,List.length_nil,Nat.zero_add,Nat.reduceAdd]
 go_wp2_with fail
 refine (HTN.out _).mono ?_
 rintro e w5 ⟨rfl,rfl⟩
 go_wp2_with fail
 refine (qFields_one HP1.out).mono ?_
 rintro e w5 ⟨v7,rfl,ho7,hb5⟩
 have hm7:PrM w5 adrCD.params v7:=RdV.of_own ho7
 have HM7:=hid hm7
 obtain ⟨A7,c7,rfl,_⟩:=hm7
 have HB5:Hid (Below w1.heap.size w1 w5):=hid (HB4.out.trans (hb5.mono HB4.out.size))
 have HB35:Hid (Below w3.heap.size w3 w5):=hid (HB34.out.trans (hb5.mono HB34.out.size))
 have HKU5:=hid (HKU.out.fr (Fr.of_below (F:=fun _=>False) HB35.out) (fun h=>h))
 have HKA5:=hid (HK21.out.fr (Fr.of_below (F:=fun _=>False) HB5.out) (fun h=>h))
 have HKR5:=hid (HK1.out.fr (Fr.of_below (F:=fun _=>False) HB5.out) (fun h=>h))
 have HM5:Hid (PrM w5 uriCD.params (.slice A5 uriCD.params.length c5)/\PrM w5 uriCD.headers (.slice A6 uriCD.headers.length c6)):=hid ⟨HM3.out.1.below HB35.out,HM3.out.2.below HB35.out⟩
 have HBW:Hid (Below w.heap.size w w5):=hid (HB1.out.trans (HB5.out.mono HB1.out.size))
 clear ho7 hb5 hp0 h2c h1c
 go_upto_region 28 with (first|(refine wpl_load rfl 32 (.tmp 11) rfl gu 0 rfl HKU5.out [.string (str uriCD.scheme),.string (str uriCD.user),.string (str uriCD.host),.int .i64 uriCD.port,.slice A5 uriCD.params.length c5,.slice A6 uriCD.headers.length c6] rfl _ Tryz.underlying32 rfl (by kernel_rfl) ?_)|(refine wpl_store rfl 32 (.tmp 108) (.tmp 106) rfl (w.heap.size+2) 1 rfl #[.string (str uriCD.scheme),.string (str uriCD.user),.string (str uriCD.host),.int .i64 uriCD.port,.slice A5 uriCD.params.length c5,.slice A6 uriCD.headers.length c6] rfl HKA5.out (show 1+6<=8 by omega) #[.string ⟨#[]⟩,.string (str uriCD.scheme),.string (str uriCD.user),.string (str uriCD.host),.int .i64 uriCD.port,.slice A5 uriCD.params.length c5,.slice A6 uriCD.headers.length c6,.slice none 0 0] rfl (by kernel_rfl) (by simp [Value.oneCell']) ?_;intro w6 hk6 hf6;have y7:=hk6.cell 7;have f7:=hk6.frozen 7))
 have hk7:=hk6.set_ 7 (.slice A7 adrCD.params.length c7)
 have hf7:Fr (fun k=>k=w.heap.size+2) w6 (w6.setCell ⟨w.heap.size+2,7,none⟩ (.slice A7 adrCD.params.length c7)):=(Fr.refl (fun k=>k=w.heap.size+2) w6).set (p:=⟨w.heap.size+2,7,none⟩) (fun _=>rfl) _
 have HF:=hid (hf6.trans hf7 (fun k _ e=>e))
 have HK7:Hid (Blk (w6.setCell ⟨w.heap.size+2,7,none⟩ (.slice A7 adrCD.params.length c7)) (w.heap.size+2) 34 (addrA adrCD (.slice A5 uriCD.params.length c5) (.slice A6 uriCD.headers.length c6) (.slice A7 adrCD.params.length c7))):=hid hk7
 clear y7 f7 hk6 hf6 hk7 hf7
 generalize w6.setCell ⟨w.heap.size+2,7,none⟩ (.slice A7 adrCD.params.length c7)=w7 at *
 have HKR7:=hid (HKR5.out.fr HF.out (by show ¬w.heap.size=w.heap.size+2;omega))
 go_wp2_with (first|(refine wpl_load rfl 34 (.tmp 5) rfl (w.heap.size+2) 0 rfl HK7.out (addrA adrCD (.slice A5 uriCD.params.length c5) (.slice A6 uriCD.headers.length c6) (.slice A7 adrCD.params.length c7)).toList rfl _ Tryz.underlying34 rfl (by kernel_rfl) ?_)|(refine wpl_store rfl 34 (.tmp 2) (.tmp 110) rfl w.heap.size 0 rfl (addrA adrCD (.slice A5 uriCD.params.length c5) (.slice A6 uriCD.headers.length c6) (.slice A7 adrCD.params.length c7)) rfl HKR7.out (Nat.le_refl 8) (addrA adrCD (.slice A5 uriCD.params.length c5) (.slice A6 uriCD.headers.length c6) (.slice A7 adrCD.params.length c7)) rfl (by kernel_rfl) (addrA_one rfl rfl rfl) ?_;intro w8 hk8 hf8))
 have hp5:=keepP_blk HKA5.out (by decide) (by decide)
 have hp7:=keepP_blk HKR7.out (by decide) (by decide)
 exact ret_cell2 rfl rfl rfl rfl hk8 _ Tryz.underlying34 rfl (by kernel_rfl) ⟨_,_,_,rfl,⟨(HM5.out.1.fr HF.out hp5).fr hf8 hp7,(HM5.out.2.fr HF.out hp5).fr hf8 hp7,(HM7.out.fr HF.out hp5).fr hf8 hp7⟩,below_upfr (below_upfr HBW.out (Nat.le_refl _) HF.out (fun k e=>by omega)) (Nat.le_refl _) hf8 (fun k e=>by omega)⟩
set_option maxRecDepth 100000 in
set_option maxHeartbeats 4000000 in
theorem qParse_ab (w:World):Calls Tryz.prog 41 #[.string ⟨#[60,115,105,112,58,97,64,98,62]⟩] w (PrsPost adrAB w):=by
 have HT:Hid (∀ W,Calls Tryz.prog 79 #[.string ⟨#[60,115,105,112,58,97,64,98,62]⟩] W fun e w'=>e=.returned (.string txAB)/\W=w'):=hid (fun W=>qTrim_id (s:=txAB) (m:=8) rfl (by show 9<=_;omega) (by decide) (by decide) W)
 have HOP:Hid (∀ W,Calls Tryz.prog 80 #[.string txAB] W fun e w'=>e=.returned (.int .i64 0)/\W=w'):=hid (fun W=>qOpen_any (s:=txAB) (by decide) (by show 9<=_;omega) (by decide) W)
 have HDI:=hid qDisplay_e
 have HHA:Hid (∀ W,Calls Tryz.prog 73 #[.string (txAB.extract 0 9),.int .u8 62] W fun e w'=>e=.returned (.bool true)/\W=w'):=hid (fun W=>rHas_any (txAB.extract 0 9) 62 W (by show 9<=_;omega))
 have HCU:Hid (∀ W,Calls Tryz.prog 70 #[.string (txAB.extract 1 9),.int .u8 62] W fun e w'=>e=.returned (.tuple #[.string whAB,.string (str []),.bool true])/\∃ n,w'=W.drewN n):=hid (fun W=>by
  have h:=rCut_any (txAB.extract 1 9) 62 W (by show 8<=_;omega)
  rw [cut_ab] at h
  exact h)
 have HPA:Hid (∀ W,Calls Tryz.prog 40 #[.string whAB] W (ParseP2 (uriAB,0) W)):=hid (fun W=>by
  have h:=rParse2_any whAB W (by show 7<=_;omega)
  rw [prs_ab'] at h
  exact h)
 have HPT:Hid (∀ W,Calls Tryz.prog 82 #[.string (str []),.int .u8 59] W (PtPost [] W)):=hid (fun W=>qParts_any [] W pln_ab (by decide))
 have HTN:=hid qTrim_nil
 have hsz:txAB.size=9:=rfl
 obtain ⟨wA,hwA⟩:∃ wA,(w.alloc (.cells addr0 34)).alloc (.cells addr0 34)=wA:=⟨_,rfl⟩
 have hbA:Below w.heap.size w wA:=hwA▸((Below.refl _ _).alloc (Nat.le_refl _) _).alloc (by simp) _
 have hsA:wA.heap.size=w.heap.size+2:=hwA▸(by simp)
 have hkA:Blk wA w.heap.size 34 addr0:=hwA▸(Blk.new w _ _).alloc _
 obtain ⟨w0,hw0⟩:∃ w0,wA.alloc (.cells addr0 34)=w0:=⟨_,rfl⟩
 have hb0:Below w.heap.size w w0:=hw0▸hbA.alloc hbA.size _
 have hk0:Blk w0 w.heap.size 34 addr0:=hw0▸hkA.alloc _
 have hk2:Blk w0 (w.heap.size+2) 34 addr0:=hw0▸hsA▸Blk.new wA _ _
 have HB0:=hid hb0
 have HK0:=hid hk0
 have HK2:=hid hk2
 have HSA:=hid hsA
 clear hbA hkA hb0 hk0 hk2 hsA
 unfold addr0 at hwA hw0
 have HWA:=hid hwA
 have HW0:=hid hw0
 clear hwA hw0
 go_enter Tryz.func41,Tryz.ntmps41
 go_upto_region 2 with (fail)
 rw [HWA.out]
 go_wp2_with fail
 refine (HT.out _).mono ?_
 rintro e w1 ⟨rfl,rfl⟩
 go_upto_region 4 with (fail)
 rw [HW0.out,HSA.out]
 go_wp2_with fail
 refine (HOP.out _).mono ?_
 rintro e w1 ⟨rfl,rfl⟩
 go_wp2_with fail
 refine (HDI.out _).mono ?_
 rintro e w1 ⟨rfl,rfl⟩
 go_wp2_with fail
 refine (HHA.out _).mono ?_
 rintro e w1 ⟨rfl,rfl⟩
 have z0:w0.cell? ⟨w.heap.size+2,0,none⟩=some (.string ⟨#[]⟩):=HK2.out.cell 0
 have zf:=HK2.out.frozen 0
 go_upto_region 11 with (fail)
 have hb1:=HB0.out.setCell (p:=⟨w.heap.size+2,0,none⟩) (by show w.heap.size<=w.heap.size+2;omega) (.string ⟨#[]⟩)
 have hk1:Blk (w0.setCell ⟨w.heap.size+2,0,none⟩ (.string ⟨#[]⟩)) w.heap.size 34 addr0:=HK0.out.far (by show w.heap.size≠w.heap.size+2;omega) _
 have hk21:Blk (w0.setCell ⟨w.heap.size+2,0,none⟩ (.string ⟨#[]⟩)) (w.heap.size+2) 34 addr0:=HK2.out.set_ 0 _
 obtain ⟨w1,hw1⟩:∃ w1,w0.setCell ⟨w.heap.size+2,0,none⟩ (.string ⟨#[]⟩)=w1:=⟨_,rfl⟩
 rw [hw1] at hb1 hk1 hk21 ⊢
 clear hw1 z0 zf HB0 HK0 HK2 HWA HW0 HSA HHA HOP HDI HT
 have HB1:=hid hb1
 have HK1:=hid hk1
 have HK21:=hid hk21
 clear hb1 hk1 hk21
 go_wp2_with fail
 refine (HCU.out _).mono ?_
 rintro e w2 ⟨rfl,n1,rfl⟩
 go_wp2_with fail
 refine (HPA.out _).mono ?_
 rintro e w2 ⟨vp,vh,rfl,mp,mh,hb2⟩
 have HB2:Hid (Below w1.heap.size w1 w2):=hid (thenB_ (((Fr.refl (fun _=>False) w1).drewN n1).to_below (Nat.le_refl _) (fun _ h=>h.elim)) hb2)
 have HMP:=hid mp
 have HMH:=hid mh
 obtain ⟨A5,c5,rfl,_⟩:=mp
 obtain ⟨A6,c6,rfl,_⟩:=mh
 clear hb2
 unfold uriV
 go_upto_region 21 with (fail)
 have HKU:=hid (Blk.new w2 32 #[.string (str uriAB.scheme),.string (str uriAB.user),.string (str uriAB.host),.int .i64 uriAB.port,.slice A5 uriAB.params.length c5,.slice A6 uriAB.headers.length c6])
 have HB3:Hid (Below w1.heap.size w1 (w2.alloc (.cells #[.string (str uriAB.scheme),.string (str uriAB.user),.string (str uriAB.host),.int .i64 uriAB.port,.slice A5 uriAB.params.length c5,.slice A6 uriAB.headers.length c6] 32))):=hid (HB2.out.alloc HB2.out.size _)
 have HM3:Hid (PrM (w2.alloc (.cells #[.string (str uriAB.scheme),.string (str uriAB.user),.string (str uriAB.host),.int .i64 uriAB.port,.slice A5 uriAB.params.length c5,.slice A6 uriAB.headers.length c6] 32)) uriAB.params (.slice A5 uriAB.params.length c5)/\PrM (w2.alloc (.cells #[.string (str uriAB.scheme),.string (str uriAB.user),.string (str uriAB.host),.int .i64 uriAB.port,.slice A5 uriAB.params.length c5,.slice A6 uriAB.headers.length c6] 32)) uriAB.headers (.slice A6 uriAB.headers.length c6)):=hid ⟨HMP.out.below ((Below.refl _ _).alloc (Nat.le_refl _) _),HMH.out.below ((Below.refl _ _).alloc (Nat.le_refl _) _)⟩
 obtain ⟨w3,hw3⟩:∃ w3,w2.alloc (.cells #[.string (str uriAB.scheme),.string (str uriAB.user),.string (str uriAB.host),.int .i64 uriAB.port,.slice A5 uriAB.params.length c5,.slice A6 uriAB.headers.length c6] 32)=w3:=⟨_,rfl⟩
 rw [hw3] at HKU HB3 HM3 ⊢
 clear hw3 HMP HMH
 obtain ⟨gu,hgu⟩:∃ gu,w2.heap.size=gu:=⟨_,rfl⟩
 rw [hgu] at HKU ⊢
 clear hgu HB2
 go_wp2_with fail
 refine (HPT.out _).mono ?_
 rintro e w4 ⟨pv,rfl,hown,hb4⟩
 rw [spl_ab] at hown
 obtain ⟨gp,cp,rfl⟩:=own_pos hown (by decide)
 have hrd:=RdV.of_own hown
 obtain ⟨A9,c9,he9,hc9,_,hr9⟩:=hrd
 injection he9 with e1 e2 e3
 subst e1 e3
 obtain ⟨gb9,off9,e9,_,hcc⟩:=hr9.at_ (by decide)
 injection e9 with e9
 injection e9 with e10 e11
 subst e10 e11
 have hp0:w4.cell? ⟨gp,0,none⟩=some (.string ⟨#[]⟩):=hcc 0 _ rfl
 have h1c9:1<=cp:=hc9
 have HB4:=hid (HB3.out.trans (hb4.mono HB3.out.size))
 have HB34:=hid hb4
 clear hown hb4 hcc hr9 hc9
 simp only [List.length_cons,List.length_nil,Nat.zero_add,Nat.reduceAdd]
 go_wp2_with fail
 refine (HTN.out _).mono ?_
 rintro e w5 ⟨rfl,rfl⟩
 by_cases h1c:cp=1
 all_goals
  go_wp2_with fail
  refine (qFields_nil _ _ _).mono ?_
  rintro e w5 ⟨rfl,rfl⟩
  have HM7:Hid (PrM w4 adrAB.params (.slice none 0 0)):=hid (PrM.nil _)
  have HB5:=HB4
  have HB35:=HB34
  have HKU5:=hid (HKU.out.fr (Fr.of_below (F:=fun _=>False) HB35.out) (fun h=>h))
  have HKA5:=hid (HK21.out.fr (Fr.of_below (F:=fun _=>False) HB5.out) (fun h=>h))
  have HKR5:=hid (HK1.out.fr (Fr.of_below (F:=fun _=>False) HB5.out) (fun h=>h))
  have HM5:Hid (PrM w4 uriAB.params (.slice A5 uriAB.params.length c5)/\PrM w4 uriAB.headers (.slice A6 uriAB.headers.length c6)):=hid ⟨HM3.out.1.below HB35.out,HM3.out.2.below HB35.out⟩
  have HBW:Hid (Below w.heap.size w w4):=hid (HB1.out.trans (HB5.out.mono HB1.out.size))
  clear hp0 h1c9
  go_upto_region 28 with (first|(refine wpl_load rfl 32 (.tmp 11) rfl gu 0 rfl HKU5.out [.string (str uriAB.scheme),.string (str uriAB.user),.string (str uriAB.host),.int .i64 uriAB.port,.slice A5 uriAB.params.length c5,.slice A6 uriAB.headers.length c6] rfl _ Tryz.underlying32 rfl (by kernel_rfl) ?_)|(refine wpl_store rfl 32 (.tmp 108) (.tmp 106) rfl (w.heap.size+2) 1 rfl #[.string (str uriAB.scheme),.string (str uriAB.user),.string (str uriAB.host),.int .i64 uriAB.port,.slice A5 uriAB.params.length c5,.slice A6 uriAB.headers.length c6] rfl HKA5.out (show 1+6<=8 by omega) #[.string ⟨#[]⟩,.string (str uriAB.scheme),.string (str uriAB.user),.string (str uriAB.host),.int .i64 uriAB.port,.slice A5 uriAB.params.length c5,.slice A6 uriAB.headers.length c6,.slice none 0 0] rfl (by kernel_rfl) (by simp [Value.oneCell']) ?_;intro w6 hk6 hf6;have y7:=hk6.cell 7;have f7:=hk6.frozen 7))
  have hk7:=hk6.set_ 7 (.slice none 0 0)
  have hf7:Fr (fun k=>k=w.heap.size+2) w6 (w6.setCell ⟨w.heap.size+2,7,none⟩ (.slice none 0 0)):=(Fr.refl (fun k=>k=w.heap.size+2) w6).set (p:=⟨w.heap.size+2,7,none⟩) (fun _=>rfl) _
  have HF:=hid (hf6.trans hf7 (fun k _ e=>e))
  have HK7:Hid (Blk (w6.setCell ⟨w.heap.size+2,7,none⟩ (.slice none 0 0)) (w.heap.size+2) 34 (addrA adrAB (.slice A5 uriAB.params.length c5) (.slice A6 uriAB.headers.length c6) (.slice none 0 0))):=hid hk7
  clear y7 f7 hk6 hf6 hk7 hf7
  generalize w6.setCell ⟨w.heap.size+2,7,none⟩ (.slice none 0 0)=w7 at *
  have HKR7:=hid (HKR5.out.fr HF.out (by show ¬w.heap.size=w.heap.size+2;omega))
  go_wp2_with (first|(refine wpl_load rfl 34 (.tmp 5) rfl (w.heap.size+2) 0 rfl HK7.out (addrA adrAB (.slice A5 uriAB.params.length c5) (.slice A6 uriAB.headers.length c6) (.slice none 0 0)).toList rfl _ Tryz.underlying34 rfl (by kernel_rfl) ?_)|(refine wpl_store rfl 34 (.tmp 2) (.tmp 110) rfl w.heap.size 0 rfl (addrA adrAB (.slice A5 uriAB.params.length c5) (.slice A6 uriAB.headers.length c6) (.slice none 0 0)) rfl HKR7.out (Nat.le_refl 8) (addrA adrAB (.slice A5 uriAB.params.length c5) (.slice A6 uriAB.headers.length c6) (.slice none 0 0)) rfl (by kernel_rfl) (addrA_one rfl rfl rfl) ?_;intro w8 hk8 hf8))
  have hp5:=keepP_blk HKA5.out (by decide) (by decide)
  have hp7:=keepP_blk HKR7.out (by decide) (by decide)
  exact ret_cell2 rfl rfl rfl rfl hk8 _ Tryz.underlying34 rfl (by kernel_rfl) ⟨_,_,_,rfl,⟨(HM5.out.1.fr HF.out hp5).fr hf8 hp7,(HM5.out.2.fr HF.out hp5).fr hf8 hp7,(HM7.out.fr HF.out hp5).fr hf8 hp7⟩,below_upfr (below_upfr HBW.out (Nat.le_refl _) HF.out (fun k e=>by omega)) (Nat.le_refl _) hf8 (fun k e=>by omega)⟩
end Go.Proofs.YthkadehlclcggaaGreatDoor
