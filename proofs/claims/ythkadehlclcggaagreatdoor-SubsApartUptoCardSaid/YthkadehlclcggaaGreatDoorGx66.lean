/- Chapter 19: request. Chapter 19: the table as the laws hold it. Chapter 19: the chapter's example. -/
import Derived.Test.YthkadehlclcggaaGreatDoorGx65
import Derived.Test.YthkadehlclcggaaGreatDoorGx52
import Derived.Great.Walk
import Derived.Test.YthkadehlclcggaaGreatDoorGx59
import Derived.Test.YthkadehlclcggaaGreatDoorGx61
import Derived.Test.YthkadehlclcggaaGreatDoorGx55
namespace Go.Proofs.YthkadehlclcggaaGreatDoor
set_option linter.unusedSimpArgs false
set_option linter.unusedVariables false
open Go.RowKit
open Go.Lib (hid)
def subscrN:T:=[83,85,66,83,67,82,73,66,69]
def presN:T:=[112,114,101,115,101,110,99,101]
def kAdr:AddrP:=⟨[],uriCD,[]⟩
def reqT (seq:Int) (tt:T) (exp:Int):ReqP:=⟨subscrN,noUri,[],[],adrCD,adrAB,[49],tt,[57],seq,exp,⟨presN,[]⟩,[kAdr],[],[],[],[],[]⟩
def req0:Array Value:=#[.string ⟨#[]⟩,.string ⟨#[]⟩,.string ⟨#[]⟩,.string ⟨#[]⟩,.int .i64 0,.slice none 0 0,.slice none 0 0,.string ⟨#[]⟩,.string ⟨#[]⟩,.string ⟨#[]⟩,.string ⟨#[]⟩,.string ⟨#[]⟩,.string ⟨#[]⟩,.int .i64 0,.slice none 0 0,.slice none 0 0,.slice none 0 0,.string ⟨#[]⟩,.string ⟨#[]⟩,.string ⟨#[]⟩,.string ⟨#[]⟩,.int .i64 0,.slice none 0 0,.slice none 0 0,.slice none 0 0,.string ⟨#[]⟩,.string ⟨#[]⟩,.string ⟨#[]⟩,.int .i64 0,.int .i64 0,.string ⟨#[]⟩,.slice none 0 0,.slice none 0 0,.slice none 0 0,.slice none 0 0,.string ⟨#[]⟩,.string ⟨#[]⟩,.string ⟨#[]⟩]
structure ReqM (w:World) (r:ReqP) (v:RqV):Prop where
 from_:AdM w r.from_ v.fp v.fh v.fa
 to_:AdM w r.to_ v.op v.oh v.oa
 ev:PrM w r.ev.params v.ev
 co:∃ xs:List CX,xs.map (·.a)=r.contact/\RdV w 34 8 xs.length v.co (rows cxC xs)/\∀ x∈xs,PrM w x.a.uri.params x.vp/\PrM w x.a.uri.headers x.vh
 ro:RdV w 9 1 r.routes.length v.ro (rows noteC r.routes)
theorem ReqM.reqB {w:World} {r:ReqP} {v:RqV} (h:ReqM w r v):ReqB w w.heap.size r v:=by
 obtain ⟨xs,e,h1,h2⟩:=h.co
 exact ⟨h.from_.adB,h.to_.adB,h.ev.prB,⟨xs,e,SlB.of_rdv h1,fun x hx=>⟨(h2 x hx).1.prB,(h2 x hx).2.prB⟩⟩,SlB.of_rdv h.ro⟩
def RqM (r:ReqP) (w:World) (e:Ending) (w':World):Prop:=∃ q,e=.returned (.agg (reqA r q))/\(reqA r q).all (·.oneCell')=true/\ReqM w' r q/\Below w.heap.size w w'
def RqPost (r:ReqP) (w:World) (e:Ending) (w':World):Prop:=∃ q,e=.returned (.agg (reqA r q))/\ReqB w' w'.heap.size r q/\Below w.heap.size w w'
set_option maxRecDepth 100000 in
set_option maxHeartbeats 4000000 in
theorem request_m (seq exp:Int) (tt:T) (w:World):Calls Tryz.prog 13 #[.int .i64 seq,.string (str tt),.int .i64 exp] w (RqM (reqT seq tt exp) w):=by
 have HPA:Hid (∀ W,Calls Tryz.prog 40 #[.string ⟨#[115,105,112,58,99,64,100]⟩] W (ParseP2 (uriCD,0) W)):=hid (fun W=>by
  have h:=rParse2_any whCD W (by show 7<=_;omega)
  rw [prs_cd'] at h
  exact h)
 have HP1:=hid qParse_cd
 have HP2:=hid qParse_ab
 obtain ⟨w0,hw0⟩:∃ w0,w.alloc (.cells req0 45)=w0:=⟨_,rfl⟩
 have hb0:Below w.heap.size w w0:=hw0▸(Below.refl _ _).alloc (Nat.le_refl _) _
 have hk0:Blk w0 w.heap.size 45 req0:=hw0▸Blk.new w _ _
 have HB0:=hid hb0
 have HK0:=hid hk0
 unfold req0 at hw0
 have HW0:=hid hw0
 clear hb0 hk0 hw0
 go_enter Tryz.func13,Tryz.ntmps13
 go_upto_region 1 with (fail)
 rw [HW0.out]
 go_wp2_with fail
 refine (HPA.out _).mono ?_
 rintro e w1 ⟨vp,vh,rfl,mp,mh,hb1⟩
 have HB1:=hid hb1
 have HMP:=hid mp
 have HMH:=hid mh
 obtain ⟨A5,c5,rfl,_⟩:=mp
 obtain ⟨A6,c6,rfl,_⟩:=mh
 clear hb1
 unfold uriV
 go_upto_region 2 with (fail)
 have HKU:=hid (Blk.new w1 32 #[.string (str uriCD.scheme),.string (str uriCD.user),.string (str uriCD.host),.int .i64 uriCD.port,.slice A5 uriCD.params.length c5,.slice A6 uriCD.headers.length c6])
 have HB2:Hid (Below w0.heap.size w0 (w1.alloc (.cells #[.string (str uriCD.scheme),.string (str uriCD.user),.string (str uriCD.host),.int .i64 uriCD.port,.slice A5 uriCD.params.length c5,.slice A6 uriCD.headers.length c6] 32))):=hid (HB1.out.alloc HB1.out.size _)
 have HM2:Hid (PrM (w1.alloc (.cells #[.string (str uriCD.scheme),.string (str uriCD.user),.string (str uriCD.host),.int .i64 uriCD.port,.slice A5 uriCD.params.length c5,.slice A6 uriCD.headers.length c6] 32)) uriCD.params (.slice A5 uriCD.params.length c5)/\PrM (w1.alloc (.cells #[.string (str uriCD.scheme),.string (str uriCD.user),.string (str uriCD.host),.int .i64 uriCD.port,.slice A5 uriCD.params.length c5,.slice A6 uriCD.headers.length c6] 32)) uriCD.headers (.slice A6 uriCD.headers.length c6)):=hid ⟨HMP.out.below ((Below.refl _ _).alloc (Nat.le_refl _) _),HMH.out.below ((Below.refl _ _).alloc (Nat.le_refl _) _)⟩
 obtain ⟨w2,hw2⟩:∃ w2,w1.alloc (.cells #[.string (str uriCD.scheme),.string (str uriCD.user),.string (str uriCD.host),.int .i64 uriCD.port,.slice A5 uriCD.params.length c5,.slice A6 uriCD.headers.length c6] 32)=w2:=⟨_,rfl⟩
 rw [hw2] at HKU HB2 HM2 ⊢
 clear hw2 HMP HMH
 obtain ⟨gu,hgu⟩:∃ gu,w1.heap.size=gu:=⟨_,rfl⟩
 rw [hgu] at HKU ⊢
 clear hgu HB1
 go_wp2_with fail
 refine (HP1.out _).mono ?_
 rintro e w3 ⟨vp,vh,va,rfl,m3,hb3⟩
 have HB3:=hid hb3
 have HM3:=hid m3
 have q1:=m3.p
 have q2:=m3.h
 have q3:=m3.a
 obtain ⟨B5,d5,rfl,_⟩:=q1
 obtain ⟨B6,d6,rfl,_⟩:=q2
 obtain ⟨B7,d7,rfl,_⟩:=q3
 clear hb3 m3
 unfold addrA
 go_upto_region 3 with (fail)
 have HKF:=hid (Blk.new w3 34 #[.string (str adrCD.display),.string (str adrCD.uri.scheme),.string (str adrCD.uri.user),.string (str adrCD.uri.host),.int .i64 adrCD.uri.port,.slice B5 adrCD.uri.params.length d5,.slice B6 adrCD.uri.headers.length d6,.slice B7 adrCD.params.length d7])
 have HB4:Hid (Below w2.heap.size w2 (w3.alloc (.cells #[.string (str adrCD.display),.string (str adrCD.uri.scheme),.string (str adrCD.uri.user),.string (str adrCD.uri.host),.int .i64 adrCD.uri.port,.slice B5 adrCD.uri.params.length d5,.slice B6 adrCD.uri.headers.length d6,.slice B7 adrCD.params.length d7] 34))):=hid (HB3.out.alloc HB3.out.size _)
 have HM4:Hid (AdM (w3.alloc (.cells #[.string (str adrCD.display),.string (str adrCD.uri.scheme),.string (str adrCD.uri.user),.string (str adrCD.uri.host),.int .i64 adrCD.uri.port,.slice B5 adrCD.uri.params.length d5,.slice B6 adrCD.uri.headers.length d6,.slice B7 adrCD.params.length d7] 34)) adrCD (.slice B5 adrCD.uri.params.length d5) (.slice B6 adrCD.uri.headers.length d6) (.slice B7 adrCD.params.length d7)):=hid (HM3.out.below ((Below.refl _ _).alloc (Nat.le_refl _) _))
 obtain ⟨w4,hw4⟩:∃ w4,w3.alloc (.cells #[.string (str adrCD.display),.string (str adrCD.uri.scheme),.string (str adrCD.uri.user),.string (str adrCD.uri.host),.int .i64 adrCD.uri.port,.slice B5 adrCD.uri.params.length d5,.slice B6 adrCD.uri.headers.length d6,.slice B7 adrCD.params.length d7] 34)=w4:=⟨_,rfl⟩
 rw [hw4] at HKF HB4 HM4 ⊢
 clear hw4 HM3
 obtain ⟨gf,hgf⟩:∃ gf,w3.heap.size=gf:=⟨_,rfl⟩
 rw [hgf] at HKF ⊢
 clear hgf HB3
 go_wp2_with fail
 refine (HP2.out _).mono ?_
 rintro e w5 ⟨vp,vh,va,rfl,m5,hb5⟩
 have HB5:=hid hb5
 have HM5:=hid m5
 have q1:=m5.p
 have q2:=m5.h
 have q3:=m5.a
 obtain ⟨E5,f5,rfl,_⟩:=q1
 obtain ⟨E6,f6,rfl,_⟩:=q2
 obtain ⟨E7,f7,rfl,_⟩:=q3
 clear hb5 m5
 unfold addrA
 go_upto_region 4 with (fail)
 have HKT:=hid (Blk.new w5 34 #[.string (str adrAB.display),.string (str adrAB.uri.scheme),.string (str adrAB.uri.user),.string (str adrAB.uri.host),.int .i64 adrAB.uri.port,.slice E5 adrAB.uri.params.length f5,.slice E6 adrAB.uri.headers.length f6,.slice E7 adrAB.params.length f7])
 have HB6:Hid (Below w4.heap.size w4 (w5.alloc (.cells #[.string (str adrAB.display),.string (str adrAB.uri.scheme),.string (str adrAB.uri.user),.string (str adrAB.uri.host),.int .i64 adrAB.uri.port,.slice E5 adrAB.uri.params.length f5,.slice E6 adrAB.uri.headers.length f6,.slice E7 adrAB.params.length f7] 34))):=hid (HB5.out.alloc HB5.out.size _)
 have HM6:Hid (AdM (w5.alloc (.cells #[.string (str adrAB.display),.string (str adrAB.uri.scheme),.string (str adrAB.uri.user),.string (str adrAB.uri.host),.int .i64 adrAB.uri.port,.slice E5 adrAB.uri.params.length f5,.slice E6 adrAB.uri.headers.length f6,.slice E7 adrAB.params.length f7] 34)) adrAB (.slice E5 adrAB.uri.params.length f5) (.slice E6 adrAB.uri.headers.length f6) (.slice E7 adrAB.params.length f7)):=hid (HM5.out.below ((Below.refl _ _).alloc (Nat.le_refl _) _))
 obtain ⟨w6,hw6⟩:∃ w6,w5.alloc (.cells #[.string (str adrAB.display),.string (str adrAB.uri.scheme),.string (str adrAB.uri.user),.string (str adrAB.uri.host),.int .i64 adrAB.uri.port,.slice E5 adrAB.uri.params.length f5,.slice E6 adrAB.uri.headers.length f6,.slice E7 adrAB.params.length f7] 34)=w6:=⟨_,rfl⟩
 rw [hw6] at HKT HB6 HM6 ⊢
 clear hw6 HM5
 obtain ⟨gt,hgt⟩:∃ gt,w5.heap.size=gt:=⟨_,rfl⟩
 rw [hgt] at HKT ⊢
 clear hgt HB5
 have HB26:Hid (Below w2.heap.size w2 w6):=hid (HB4.out.trans (HB6.out.mono HB4.out.size))
 have HKU6:=hid (HKU.out.fr (Fr.of_below (F:=fun _=>False) HB26.out) (fun h=>h))
 have HKF6:=hid (HKF.out.fr (Fr.of_below (F:=fun _=>False) HB6.out) (fun h=>h))
 have HB06:Hid (Below w0.heap.size w0 w6):=hid (HB2.out.trans (HB26.out.mono HB2.out.size))
 have HK06:=hid (HK0.out.fr (Fr.of_below (F:=fun _=>False) HB06.out) (fun h=>h))
 have HBW:Hid (Below w.heap.size w w6):=hid (HB0.out.trans (HB06.out.mono HB0.out.size))
 have HMF:Hid (AdM w6 adrCD (.slice B5 adrCD.uri.params.length d5) (.slice B6 adrCD.uri.headers.length d6) (.slice B7 adrCD.params.length d7)):=hid (HM4.out.below HB6.out)
 have HMU:Hid (PrM w6 uriCD.params (.slice A5 uriCD.params.length c5)/\PrM w6 uriCD.headers (.slice A6 uriCD.headers.length c6)):=hid ⟨HM2.out.1.below HB26.out,HM2.out.2.below HB26.out⟩
 clear HM4 HM2 HKU HKF HK0 HPA HP1 HP2 HW0
 obtain ⟨q,hq⟩:∃ q:RqV,⟨.slice none 0 0,.slice none 0 0,.slice B5 adrCD.uri.params.length d5,.slice B6 adrCD.uri.headers.length d6,.slice B7 adrCD.params.length d7,.slice E5 adrAB.uri.params.length f5,.slice E6 adrAB.uri.headers.length f6,.slice E7 adrAB.params.length f7,.slice none 0 0,.slice (some ⟨w6.heap.size,0,none⟩) 1 1,.slice none 0 0,.slice none 0 0⟩=q:=⟨_,rfl⟩
 have HQ:=hid hq
 have HKX:=hid (Blk.new w6 34 (cxC ⟨kAdr,.slice A5 uriCD.params.length c5,.slice A6 uriCD.headers.length c6,.slice none 0 0⟩).toArray)
 have HONE:Hid ((reqA (reqT seq tt exp) q).all (·.oneCell')=true):=hid (by
  have e1:∀ s,(Value.string s).oneCell'=true:=fun _=>rfl
  have e2:∀ k n,(Value.int k n).oneCell'=true:=fun _ _=>rfl
  have e3:∀ a n c,(Value.slice a n c).oneCell'=true:=fun _ _ _=>rfl
  rw [<-hq]
  simp [reqA,e1,e2,e3])
 have HIS:Hid (reqA (reqT seq tt exp) ⟨.slice none 0 0,.slice none 0 0,.slice B5 adrCD.uri.params.length d5,.slice B6 adrCD.uri.headers.length d6,.slice B7 adrCD.params.length d7,.slice E5 adrAB.uri.params.length f5,.slice E6 adrAB.uri.headers.length f6,.slice E7 adrAB.params.length f7,.slice none 0 0,.slice (some ⟨w6.heap.size,0,none⟩) 1 1,.slice none 0 0,.slice none 0 0⟩=reqA (reqT seq tt exp) q):=hid (by rw [hq])
 clear hq
 go_wp2_with (first|(refine wpl_load rfl 34 (.tmp 9) rfl gf 0 rfl HKF6.out [.string (str adrCD.display),.string (str adrCD.uri.scheme),.string (str adrCD.uri.user),.string (str adrCD.uri.host),.int .i64 adrCD.uri.port,.slice B5 adrCD.uri.params.length d5,.slice B6 adrCD.uri.headers.length d6,.slice B7 adrCD.params.length d7] rfl _ Tryz.underlying34 rfl (by kernel_rfl) ?_)|(refine wpl_load rfl 34 (.tmp 11) rfl gt 0 rfl HKT.out [.string (str adrAB.display),.string (str adrAB.uri.scheme),.string (str adrAB.uri.user),.string (str adrAB.uri.host),.int .i64 adrAB.uri.port,.slice E5 adrAB.uri.params.length f5,.slice E6 adrAB.uri.headers.length f6,.slice E7 adrAB.params.length f7] rfl _ Tryz.underlying34 rfl (by kernel_rfl) ?_)|(refine wpl_load rfl 32 (.tmp 7) rfl gu 0 rfl HKU6.out [.string (str uriCD.scheme),.string (str uriCD.user),.string (str uriCD.host),.int .i64 uriCD.port,.slice A5 uriCD.params.length c5,.slice A6 uriCD.headers.length c6] rfl _ Tryz.underlying32 rfl (by kernel_rfl) ?_)|(refine Go.Great.wpList_readTo rfl (some 34) rfl (.agg (reqA (reqT seq tt exp) ⟨.slice none 0 0,.slice none 0 0,.slice B5 adrCD.uri.params.length d5,.slice B6 adrCD.uri.headers.length d6,.slice B7 adrCD.params.length d7,.slice E5 adrAB.uri.params.length f5,.slice E6 adrAB.uri.headers.length f6,.slice E7 adrAB.params.length f7,.slice none 0 0,.slice (some ⟨w6.heap.size,0,none⟩) 1 1,.slice none 0 0,.slice none 0 0⟩)) (by as_aux_lemma=>kernel_rfl) ?_;rw [HIS.out])|(refine wpl_store rfl 45 (.tmp 6) (.tmp 34) rfl w.heap.size 0 rfl (reqA (reqT seq tt exp) q) rfl (HK06.out.alloc _) (Nat.le_refl 38) (reqA (reqT seq tt exp) q) rfl (by kernel_rfl) HONE.out ?_;intro w8 hk8 hf8))
 have hba:Below w6.heap.size w6 (w6.alloc (.cells (cxC ⟨kAdr,.slice A5 uriCD.params.length c5,.slice A6 uriCD.headers.length c6,.slice none 0 0⟩).toArray 34)):=(Below.refl _ _).alloc (Nat.le_refl _) _
 have hkp:=keepP_blk (HK06.out.alloc (.cells (cxC ⟨kAdr,.slice A5 uriCD.params.length c5,.slice A6 uriCD.headers.length c6,.slice none 0 0⟩).toArray 34)) (by decide) (by decide)
 have hmf:=(HMF.out.below hba).fr hf8 hkp
 have hmt:=(HM6.out.below hba).fr hf8 hkp
 have hmp:=(HMU.out.1.below hba).fr hf8 hkp
 have hmh:=(HMU.out.2.below hba).fr hf8 hkp
 have hkx:=HKX.out.fr hf8 (fun e=>by have h:=HK06.out.lt;omega)
 refine ret_cell rfl rfl rfl hk8 _ Tryz.underlying45 rfl (by kernel_rfl) ⟨q,rfl,HONE.out,?_,below_upfr (HBW.out.trans (hba.mono HBW.out.size)) (Nat.le_refl _) hf8 (fun k e=>by omega)⟩
 rw [<-HQ.out]
 exact ⟨hmf,hmt,PrM.nil _,⟨[⟨kAdr,.slice A5 uriCD.params.length c5,.slice A6 uriCD.headers.length c6,.slice none 0 0⟩],rfl,⟨_,_,rfl,Nat.le_refl _,by unfold maxLen;simp,Rd.of_blk hkx rfl⟩,fun x hx=>by
  simp at hx
  subst hx
  exact ⟨hmp,hmh⟩⟩,RdV.nil _ _ _⟩
theorem request_any (seq exp:Int) (tt:T) (w:World):Calls Tryz.prog 13 #[.int .i64 seq,.string (str tt),.int .i64 exp] w (RqPost (reqT seq tt exp) w) :=
 (request_m seq exp tt w).mono fun _ _ ⟨q,e,_,hm,hb⟩=>⟨q,e,hm.reqB,hb⟩
theorem reqT_z (seq:Int) (tt:T) (exp:Int):ReqZ (reqT seq tt exp):=by
 have h1:parS tag1P:=⟨by show 3<=_;omega,by show 1<=_;omega⟩
 have hu:UriS uriAB:=⟨by decide,by decide,by decide,by decide,by decide,by decide,by simp [uriAB],by simp [uriAB]⟩
 have z:∀ n:Nat,0<=n:=fun n=>Nat.zero_le n
 refine ⟨⟨z _,z _,show 1<=2000000 by omega⟩,⟨z _,z _,z _⟩,⟨z _,hu,by simp [reqT,adrAB]⟩,z _,?_,z _,?_,by simp [reqT]⟩
 .intro a ha
  simp [reqT] at ha
  subst ha
  exact ⟨by decide,by decide⟩
 .intro p hp
  simp [reqT,adrCD] at hp
  subst hp
  exact h1
structure TbX (X:Nat->Prop) (w:World) (p:Nat) (c:Conf) (last:Int) (L:List SubP):Prop where
 ex:∃ F,Sb w p c last L F/\∀ k,F k->¬X k
 lt:∀ k,X k->k<w.heap.size
def Out (X:Nat->Prop) (k:Nat):Prop:=¬X k
structure TbTo (X:Nat->Prop) (p:Nat) (c:Conf) (last':Int) (L':List SubP) (w w':World):Prop where
 tab:TbX X w' p c last' L'
 fr:Fr (Out X) w w'
 st:∃ F:Nat->Prop,Fr F w w'/\∀ (b:Nat) (ds:Array Value) (T:TypeId) (fr:Nat × Nat),w.heap[b]?=some (.cells ds T fr)->(T=95\/T=9\/T=34)->¬F b
section
variable {X:Nat->Prop} {w w':World} {p B g:Nat} {c:Conf} {last last':Int} {L L':List SubP} {F:Nat->Prop}
theorem TabTo.x (h:TabTo p c last' L' F w w') (Hs:Sb w p c last L F) (hF:∀ k,F k->¬X k) (hX:∀ k,X k->k<w.heap.size):TbTo X p c last' L' w w':=by
 obtain ⟨F',hs,hf,hx⟩:=h
 refine ⟨⟨⟨F',hs,fun k hk hXk=>?_⟩,fun k hk=>Nat.lt_of_lt_of_le (hX k hk) hf.size⟩,hf.mono (fun k _ q=>hF k q),F,hf,fun b ds T fr hb hT=>by
  rcases hT with rfl|rfl|rfl
  .exact Hs.notT hb (by decide) (by decide) (by decide) (by decide) (by decide)
  .exact Hs.notT hb (by decide) (by decide) (by decide) (by decide) (by decide)
  .exact Hs.notT hb (by decide) (by decide) (by decide) (by decide) (by decide)⟩
 rcases hx k hk with q|q
 .exact hF k q hXk
 .have:=hX k hXk;omega
theorem TbTo.prm {l:List Par} {v:Value} (t:TbTo X p c last' L' w w') (h:PrM w l v):PrM w' l v:=by
 obtain ⟨F,hf,hk⟩:=t.st
 exact h.fr hf (fun b ds T fr hb hT=>hk b ds T fr hb (hT.elim .inl (fun q=>.inr (.inl q))))
theorem TbTo.adm {a:AddrP} {vp vh va:Value} (t:TbTo X p c last' L' w w') (h:AdM w a vp vh va):AdM w' a vp vh va:=⟨t.prm h.p,t.prm h.h,t.prm h.a⟩
theorem TbTo.txt {l:List T} {v:Value} (t:TbTo X p c last' L' w w') (h:RdV w 9 1 l.length v (rows noteC l)):RdV w' 9 1 l.length v (rows noteC l):=by
 obtain ⟨F,hf,hk⟩:=t.st
 exact h.fr hf (fun b ds fr hb=>hk b ds _ fr hb (.inr (.inl rfl)))
theorem TbTo.adr {n:Nat} {v:Value} {xs:List Value} (t:TbTo X p c last' L' w w') (h:RdV w 34 8 n v xs):RdV w' 34 8 n v xs:=by
 obtain ⟨F,hf,hk⟩:=t.st
 exact h.fr hf (fun b ds fr hb=>hk b ds _ fr hb (.inr (.inr rfl)))
theorem TbTo.sub {s:SubP} {v:SlV} (t:TbTo X p c last' L' w w') (h:SubM w s v):SubM w' s v:=⟨t.prm h.ev,t.prm h.lp,t.prm h.lh,t.prm h.la,t.prm h.rp,t.prm h.rh,t.prm h.ra,t.prm h.tp,t.prm h.th,t.txt h.ro⟩
theorem TbX.below (h:TbX X w p c last L) (hb:Below w.heap.size w w'):TbX X w' p c last L:=by
 obtain ⟨F,hs,hF⟩:=h.ex
 exact ⟨⟨F,hs.below hb,hF⟩,fun k hk=>Nat.lt_of_lt_of_le (h.lt k hk) hb.size⟩
theorem TbX.start (hs:Sb w p c last L F) (hF:∀ k,F k->B<=k) (hB:B<=w.heap.size):TbX (fun k=>k<B) w p c last L :=
 ⟨⟨F,hs,fun k hk q=>by have:=hF k hk;omega⟩,fun k hk=>by omega⟩
theorem TbX.own (h:TbX X w p c last L) (hb:Below w.heap.size w w') (h1:w.heap.size<=g) (h2:g<w'.heap.size):TbX (fun k=>X k\/k=g) w' p c last L:=by
 obtain ⟨F,hs,hF⟩:=h.ex
 refine ⟨⟨F,hs.below hb,fun k hk q=>?_⟩,fun k hk=>?_⟩
 .rcases q with q|q
  .exact hF k hk q
  .have:=hs.lt hk;omega
 .rcases hk with q|q
  .exact Nat.lt_of_lt_of_le (h.lt k q) hb.size
  .omega
theorem TbX.set {T:TypeId} {cs:Array Value} (h:TbX X w p c last L) (hX:X g) (hk:Blk w g T cs) (h1:T≠95) (h2:T≠9) (hf:Fr (fun k=>k=g) w w'):TbX X w' p c last L:=by
 obtain ⟨F,hs,hF⟩:=h.ex
 exact ⟨⟨F,hs.fr hf (fun k hk e=>hF k hk (e▸hX)) (keepP_blk hk h1 h2),hF⟩,fun k hk=>Nat.lt_of_lt_of_le (h.lt k hk) hf.size⟩
theorem Blk.out {T:TypeId} {cs:Array Value} (hk:Blk w g T cs) (hX:X g) (hf:Fr (Out X) w w'):Blk w' g T cs:=hk.fr hf (fun h=>h hX)
theorem below_out (hf:Fr (Out X) w w') (hX:∀ k,k<B->X k) (hB:B<=w.heap.size):Below B w w':=hf.to_below hB (fun k hk=>Nat.le_of_not_lt fun h=>hk (hX k h))
end
def SubX (X:Nat->Prop) (p:Nat) (c:Conf) (last:Int) (R:SbR) (w:World) (e:Ending) (w':World):Prop:=∃ v',e=.returned (.tuple #[.agg (subA R.sub v'),.int .i64 R.err])/\SubM w' R.sub v'/\TbTo X p c last R.L w w'
section
variable {X:Nat->Prop} {w:World} {p B:Nat} {c:Conf} {last now:Int} {L:List SubP} {r:ReqP} {q:RqV}
theorem begin_x {state:Int} {who watcher tag:T} (H:TbX X w p c last L) (hlast:last<=2000000) (hB:B<=w.heap.size) (hr:ReqB w B r q) (hz:ReqZ r) (ht:tag.length<=9223372036854775807) :
 Calls Tryz.prog 12 #[.pointer (some ⟨p,0,none⟩),.int .i64 now,.agg (reqA r q),.string (str who),.string (str watcher),.int .i64 state,.string (str tag)] w (SubX X p c (begS c last L now r who watcher state tag).last (begS c last L now r who watcher state tag) w):=by
 obtain ⟨F,hs,hF⟩:=H.ex
 by_cases h:(begS c last L now r who watcher state tag).err=0
 .refine (sbegin_yes hs hlast hB hr hz ht h).mono ?_
  rintro e w' ⟨v',rfl,hm,ht⟩
  exact ⟨v',rfl,hm,ht.x hs hF H.lt⟩
 .refine (sbegin_no hs hB hr hz ht h).mono ?_
  rintro e w' ⟨v',rfl,hm,ht⟩
  exact ⟨v',rfl,hm,ht.x hs hF H.lt⟩
theorem again_x {num:Int} (H:TbX X w p c last L) (hB:B<=w.heap.size) (hr:ReqB w B r q) (hz:ReqZ r) :
 Calls Tryz.prog 14 #[.pointer (some ⟨p,0,none⟩),.int .i64 now,.int .i64 num,.agg (reqA r q)] w (SubX X p c last (agaS c L now num r) w):=by
 obtain ⟨F,hs,hF⟩:=H.ex
 refine (sagain_any hs hB hr hz).mono ?_
 rintro e w' ⟨v',rfl,hm,ht⟩
 exact ⟨v',rfl,hm,ht.x hs hF H.lt⟩
theorem set_x {n state:Int} {reason:T} (H:TbX X w p c last L):Calls Tryz.prog 25 #[.pointer (some ⟨p,0,none⟩),.int .i64 n,.int .i64 state,.string (str reason)] w fun e w'=>e=.returned (.int .i64 (putS L n state reason).err)/\TbTo X p c last (putS L n state reason).L w w':=by
 obtain ⟨F,hs,hF⟩:=H.ex
 refine (sset_any hs n state reason).mono ?_
 rintro e w' ⟨rfl,ht⟩
 exact ⟨rfl,ht.x hs hF H.lt⟩
theorem sent_x {n out:Int} (H:TbX X w p c last L):Calls Tryz.prog 26 #[.pointer (some ⟨p,0,none⟩),.int .i64 n,.int .i64 out] w fun e w'=>e=.returned (.int .i64 (sentS L n out).err)/\TbTo X p c last (sentS L n out).L w w':=by
 obtain ⟨F,hs,hF⟩:=H.ex
 refine (ssent_any hs n out).mono ?_
 rintro e w' ⟨rfl,ht⟩
 exact ⟨rfl,ht.x hs hF H.lt⟩
theorem drop_x {n:Int} (H:TbX X w p c last L):Calls Tryz.prog 20 #[.pointer (some ⟨p,0,none⟩),.int .i64 n] w fun e w'=>e=.returned (.bool (hasS L n))/\TbTo X p c last (dropS L n) w w':=by
 obtain ⟨F,hs,hF⟩:=H.ex
 refine (sdrop_any hs n).mono ?_
 rintro e w' ⟨rfl,ht⟩
 exact ⟨rfl,ht.x hs hF H.lt⟩
theorem expire_x (H:TbX X w p c last L):Calls Tryz.prog 19 #[.pointer (some ⟨p,0,none⟩),.int .i64 now] w fun e w'=>(∃ A k,e=.returned (.slice A (goneS L now).length k)/\RdV w' 3 1 (goneS L now).length (.slice A (goneS L now).length k) ((goneS L now).map (.int .i64)))/\TbTo X p c last (expS L now) w w':=by
 obtain ⟨F,hs,hF⟩:=H.ex
 refine (ssexpire_any hs).mono ?_
 rintro e w' ⟨v,rfl,ho,ht⟩
 have h9:=RdV.of_own ho
 obtain ⟨A,k,rfl,hq⟩:=id h9
 exact ⟨⟨A,k,rfl,h9⟩,ht.x hs hF H.lt⟩
theorem all_x (H:TbX X w p c last L):Calls Tryz.prog 21 #[.pointer (some ⟨p,0,none⟩)] w (SaPost L w):=by
 obtain ⟨F,hs,hF⟩:=H.ex
 exact sall_any hs
end
def plS (n:Int):Conf:=⟨[],1,1,n,60,3600,600⟩
theorem plS_right {n:Int} (h1:1<=n) (h2:n<=200):rightB (plS n)=true:=by unfold rightB plS;simp [h1,h2]
theorem plain19_any (n:Int) (w:World):Calls Tryz.prog 11 #[.int .i64 n] w fun e w'=>e=.returned (.agg #[.string ⟨#[]⟩,.int .i64 1,.int .i64 1,.int .i64 n,.int .i64 60,.int .i64 3600,.int .i64 600])/\Below w.heap.size w w':=by
 have HB:Hid (Below w.heap.size w (w.alloc (.cells #[.string ⟨#[]⟩,.int .i64 1,.int .i64 1,.int .i64 n,.int .i64 60,.int .i64 3600,.int .i64 600] 26))):=hid ((Below.refl _ _).alloc (Nat.le_refl _) _)
 have hk:Blk (w.alloc (.cells #[.string ⟨#[]⟩,.int .i64 1,.int .i64 1,.int .i64 n,.int .i64 60,.int .i64 3600,.int .i64 600] 26)) w.heap.size 26 #[.string ⟨#[]⟩,.int .i64 1,.int .i64 1,.int .i64 n,.int .i64 60,.int .i64 3600,.int .i64 600]:=Blk.new w _ _
 have c0:=hk.cell 0
 have c1:=hk.cell 1
 have c2:=hk.cell 2
 have c3:=hk.cell 3
 have c4:=hk.cell 4
 have c5:=hk.cell 5
 have c6:=hk.cell 6
 clear hk
 go_enter Tryz.func11,Tryz.ntmps11
 go_wp2
 exact bodyPost_ret (v:=.agg #[.string ⟨#[]⟩,.int .i64 1,.int .i64 1,.int .i64 n,.int .i64 60,.int .i64 3600,.int .i64 600]) (by simp [results,Tryz.results11,go_sem,c0,c1,c2,c3,c4,c5,c6]) rfl ⟨rfl,HB.out⟩
def Bgn19 (c:Conf) (w:World) (e:Ending) (w':World):Prop:=∃ p F,e=.returned (.pointer (some ⟨p,0,none⟩))/\Sb w' p c 0 [] F/\Below w.heap.size w w'/\∀ k,F k->w.heap.size<=k
theorem begun19_any {c:Conf} (h:rightB c=true) (w:World):Calls Tryz.prog 10 #[.agg #[.string (str c.host),.int .i64 c.calls,.int .i64 c.pubs,.int .i64 c.subs,.int .i64 c.least,.int .i64 c.most,.int .i64 c.usual]] w (Bgn19 c w):=by
 obtain ⟨w0,hw0⟩:∃ w0,w.alloc (.cells #[.string (str c.host),.int .i64 c.calls,.int .i64 c.pubs,.int .i64 c.subs,.int .i64 c.least,.int .i64 c.most,.int .i64 c.usual] 26)=w0:=⟨_,rfl⟩
 obtain ⟨hb0,hk⟩:=conf_box hw0
 have HB0:=hid hb0
 have c0:=hk.cell 0
 have c1:=hk.cell 1
 have c2:=hk.cell 2
 have c3:=hk.cell 3
 have c4:=hk.cell 4
 have c5:=hk.cell 5
 have c6:=hk.cell 6
 have HN:=hid (sbnew_any h w0)
 unfold SbNewPost at HN
 clear hb0 hk h
 go_enter Tryz.func10,Tryz.ntmps10
 go_upto_region 1 with (fail)
 try rw [hw0]
 clear hw0
 go_wp2_with fail
 refine (HN.out).mono ?_
 rintro e w1 ⟨p,F,rfl,hst,hb1,hF⟩
 have HP:Hid (Bgn19 c w (.returned (.pointer (some ⟨p,0,none⟩))) w1):=hid ⟨p,F,rfl,hst,thenB_ HB0.out hb1,fun k hk=>Nat.le_trans HB0.out.size (hF k hk)⟩
 clear hst hb1 hF
 go_wp2
 go_ret
 exact HP.out
def abT:T:=[97,64,98]
def cdT:T:=[99,64,100]
def s19:SubP:=⟨1,abT,cdT,⟨presN,[]⟩,1,[],605,⟨[57],⟨[],uriAB,[⟨tagN,[120],true⟩]⟩,adrCD,uriCD,[],1,0⟩⟩
theorem aw19_1:begS (plS 1) 0 [] 5 (reqT 1 [] 60) abT cdT 1 [120]=⟨1,[s19],s19,0⟩:=by kernel_rfl
theorem aw19_2:goneS [s19] 604=[]:=by kernel_rfl
theorem aw19_3:expS [s19] 604=[s19]:=by kernel_rfl
theorem aw19_4:goneS [s19] 605=[1]:=by kernel_rfl
theorem aw19_5:expS [s19] 605=[overS s19 timeoutN]:=by kernel_rfl
theorem aw19_6:agaS (plS 1) [overS s19 timeoutN] 605 1 (reqT 2 [120] 60)=⟨0,[overS s19 timeoutN],noSub,6⟩:=by kernel_rfl
def Awk19 (w:World) (e:Ending) (w':World):Prop:=e=.returned (.bool true)/\Below w.heap.size w w'
theorem sub_blk0 (W:World):Blk (W.alloc (.cells sub0 39)) W.heap.size 39 sub0:=Blk.new W _ _
set_option maxRecDepth 100000 in
set_option maxHeartbeats 4000000 in
theorem awake19_any (w:World):Calls Tryz.prog 17 #[] w (Awk19 w):=by
 have HPL:=hid (plain19_any 1)
 have HBG:Hid (∀ W,Calls Tryz.prog 10 #[.agg #[.string ⟨#[]⟩,.int .i64 1,.int .i64 1,.int .i64 1,.int .i64 60,.int .i64 3600,.int .i64 600]] W (Bgn19 (plS 1) W)):=hid (fun W=>begun19_any (c:=plS 1) (plS_right (by omega) (by omega)) W)
 have HR1:Hid (∀ W,Calls Tryz.prog 13 #[.int .i64 1,.string ⟨#[]⟩,.int .i64 60] W (RqPost (reqT 1 [] 60) W)):=hid (fun W=>request_any 1 60 [] W)
 have HR2:Hid (∀ W,Calls Tryz.prog 13 #[.int .i64 2,.string ⟨#[120]⟩,.int .i64 60] W (RqPost (reqT 2 [120] 60) W)):=hid (fun W=>request_any 2 60 [120] W)
 have HBE:Hid (∀ X W p q,TbX X W p (plS 1) 0 []->ReqB W W.heap.size (reqT 1 [] 60) q->Calls Tryz.prog 12 #[.pointer (some ⟨p,0,none⟩),.int .i64 5,.agg (reqA (reqT 1 [] 60) q),.string ⟨#[97,64,98]⟩,.string ⟨#[99,64,100]⟩,.int .i64 1,.string ⟨#[120]⟩] W fun e w'=>∃ v',e=.returned (.tuple #[.agg (subA s19 v'),.int .i64 0])/\SubM w' s19 v'/\TbTo X p (plS 1) 1 [s19] W w'):=hid (fun X W p q H hr=>by
  have h9:=begin_x (now:=5) (state:=1) (who:=abT) (watcher:=cdT) (tag:=[120]) H (by omega) (Nat.le_refl _) hr (reqT_z _ _ _) (by decide)
  rw [aw19_1] at h9
  exact h9)
 have HE1:Hid (∀ X W p,TbX X W p (plS 1) 1 [s19]->Calls Tryz.prog 19 #[.pointer (some ⟨p,0,none⟩),.int .i64 604] W fun e w'=>(∃ A k,e=.returned (.slice A 0 k))/\TbTo X p (plS 1) 1 [s19] W w'):=hid (fun X W p H=>by
  refine (expire_x (now:=604) H).mono ?_
  rintro e w' ⟨⟨A,k,rfl,_⟩,ht⟩
  rw [aw19_2]
  rw [aw19_3] at ht
  exact ⟨⟨A,k,rfl⟩,ht⟩)
 have HE2:Hid (∀ X W p,TbX X W p (plS 1) 1 [s19]->Calls Tryz.prog 19 #[.pointer (some ⟨p,0,none⟩),.int .i64 605] W fun e w'=>(∃ A k,e=.returned (.slice A 1 k))/\TbTo X p (plS 1) 1 [overS s19 timeoutN] W w'):=hid (fun X W p H=>by
  refine (expire_x (now:=605) H).mono ?_
  rintro e w' ⟨⟨A,k,rfl,_⟩,ht⟩
  rw [aw19_4]
  rw [aw19_5] at ht
  exact ⟨⟨A,k,rfl⟩,ht⟩)
 have HAG:Hid (∀ X W p q,TbX X W p (plS 1) 1 [overS s19 timeoutN]->ReqB W W.heap.size (reqT 2 [120] 60) q->Calls Tryz.prog 14 #[.pointer (some ⟨p,0,none⟩),.int .i64 605,.int .i64 1,.agg (reqA (reqT 2 [120] 60) q)] W fun e w'=>∃ v',e=.returned (.tuple #[.agg (subA noSub v'),.int .i64 6])/\SubM w' noSub v'/\TbTo X p (plS 1) 1 [overS s19 timeoutN] W w'):=hid (fun X W p q H hr=>by
  have h9:=again_x (now:=605) (num:=1) H (Nat.le_refl _) hr (reqT_z _ _ _)
  rw [aw19_6] at h9
  exact h9)
 unfold Bgn19 at HBG
 unfold RqPost at HR1 HR2
 go_enter Tryz.func17,Tryz.ntmps17
 go_wp2_with fail
 refine (HPL.out _).mono ?_
 rintro e w1 ⟨rfl,hb1⟩
 have HB1:=hid hb1
 clear hb1
 go_wp2_with fail
 refine (HBG.out _).mono ?_
 rintro e w2 ⟨p,F,rfl,hst,hb2,hF⟩
 have HB2:=hid (thenB_ HB1.out hb2)
 have HT2:Hid (TbX (fun k=>k<w.heap.size) w2 p (plS 1) 0 []):=hid (TbX.start hst (fun k hk=>Nat.le_trans HB1.out.size (hF k hk)) HB2.out.size)
 clear hst hb2 hF
 go_wp2_with fail
 refine (HR1.out _).mono ?_
 rintro e w3 ⟨q3,rfl,hr3,hb3⟩
 have HT3:=hid (HT2.out.below hb3)
 have HB3:=hid (thenB_ HB2.out hb3)
 have HRQ3:=hid hr3
 clear hr3 hb3
 go_wp2_with fail
 refine (HBE.out _ _ _ _ HT3.out HRQ3.out).mono ?_
 rintro e w4 ⟨v4,rfl,m4,t4⟩
 have HM4:=hid m4
 have HT4:=hid t4
 have HON4:=hid (subA_one (s:=s19) m4.ok.1 m4.ok.2)
 clear m4 t4
 go_upto_region 5 with (refine wpl_store rfl 39 (.tmp 2) (.tmp 16) rfl w4.heap.size 0 rfl (subA s19 v4) rfl (sub_blk0 w4) (Nat.le_refl 34) (subA s19 v4) rfl (by kernel_rfl) HON4.out ?_;intro w5 hk5 hf5)
 have HT5:Hid (TbX (fun k=>k<w.heap.size\/k=w4.heap.size) w5 p (plS 1) 1 [s19]):=hid ((HT4.out.tab.own ((Below.refl _ _).alloc (Nat.le_refl _) _) (Nat.le_refl _) (by simp)).set (.inr rfl) (sub_blk0 w4) (by decide) (by decide) hf5)
 have HK5:=hid hk5
 have HB5:Hid (Below w.heap.size w w5):=hid (by
  have h1:=HB3.out.trans (below_out HT4.out.fr (fun k h=>h) HB3.out.size)
  exact (h1.alloc h1.size _).trans (hf5.to_below (by have:=h1.size;simp;omega) (fun k e=>by have:=h1.size;omega)))
 clear hk5 hf5
 generalize w4.heap.size=gs at *
 clear HT4 HM4 HON4 HT3 HRQ3
 go_wp2_with fail
 refine (HE1.out _ _ _ HT5.out).mono ?_
 rintro e w6 ⟨⟨A6,k6,rfl⟩,t6⟩
 have HT6:=hid t6
 clear t6
 go_wp2_with fail
 refine (HE2.out _ _ _ HT6.out.tab).mono ?_
 rintro e w7 ⟨⟨A7,k7,rfl⟩,t7⟩
 have HT7:=hid t7
 clear t7
 go_wp2_with fail
 refine (HR2.out _).mono ?_
 rintro e w8 ⟨q8,rfl,hr8,hb8⟩
 have HB8:=hid hb8
 have HT8:=hid (HT7.out.tab.below hb8)
 have HRQ8:=hid hr8
 clear hr8 hb8
 go_wp2_with fail
 refine (HAG.out _ _ _ _ HT8.out HRQ8.out).mono ?_
 rintro e w9 ⟨v9,rfl,m9,t9⟩
 have HT9:=hid t9
 have HON9:=hid (subA_one (s:=noSub) m9.ok.1 m9.ok.2)
 have HK9:Hid (Blk w9 gs 39 (subA s19 v4)):=hid ((((HK5.out.out (.inr rfl) HT6.out.fr).out (.inr rfl) HT7.out.fr).fr (Fr.of_below (F:=fun _=>False) HB8.out) (fun h=>h)).out (.inr rfl) t9.fr)
 have HB9:Hid (Below w.heap.size w w9):=hid (by
  have h6:=HB5.out.trans (below_out HT6.out.fr (fun k h=>.inl h) HB5.out.size)
  have h7:=h6.trans (below_out HT7.out.fr (fun k h=>.inl h) h6.size)
  have h8:=thenB_ h7 HB8.out
  exact h8.trans (below_out HT9.out.fr (fun k h=>.inl h) h8.size))
 clear m9 t9
 go_upto_region 7 with (refine wpl_store rfl 39 (.tmp 6) (.tmp 26) rfl w9.heap.size 0 rfl (subA noSub v9) rfl (sub_blk0 w9) (Nat.le_refl 34) (subA noSub v9) rfl (by kernel_rfl) HON9.out ?_;intro wa hka hfa)
 have hkk:Blk wa gs 39 (subA s19 v4):=(HK9.out.alloc _).fr hfa (fun e=>by have:=HK9.out.lt;omega)
 have c7:wa.cell? ⟨gs,7,none⟩=some (.int .i64 605):=hkk.cell 7
 have HP:Hid (Awk19 w (.returned (.bool true)) wa):=hid ⟨rfl,(HB9.out.alloc HB9.out.size _).trans (hfa.to_below (by have:=HB9.out.size;simp;omega) (fun k e=>by have:=HB9.out.size;omega))⟩
 clear hka hfa hkk
 go_wp2
 go_ret
 exact HP.out
end Go.Proofs.YthkadehlclcggaaGreatDoor
