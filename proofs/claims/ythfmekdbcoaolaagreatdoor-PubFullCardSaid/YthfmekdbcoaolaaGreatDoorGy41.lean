/- Chapter 16: a store that is full, in plain Lean. Chapter 16: PubFull. -/
import Derived.Test.YthfmekdbcoaolaaGreatDoorGy39
namespace Go.Proofs.YthfmekdbcoaolaaGreatDoor
set_option linter.unusedSimpArgs false
set_option linter.unusedVariables false
open Go.RowKit
open Go.Lib (hid)
def fuT (k:Nat):T:=[UInt8.ofNat (97+k)]
def fuP (who:T) (k:Nat):Pub:=⟨k+1,who,fuT k,600,lsD⟩
def fuL (who:T) (n:Nat):List Pub:=(List.range n).map (fuP who)
def fuA (who:T) (i:Nat):AskP:=⟨who,[],60,true,lsD,fuT i⟩
def fuZ (who:T):AskP:=⟨who,[97],60,false,⟨[],[],[]⟩,[122,48]⟩
theorem fuT_inj {i j:Nat} (hi:i<24) (hj:j<24) (h:fuT i=fuT j):i=j:=by
 unfold fuT at h
 injection h with h _
 have:=congrArg UInt8.toNat h
 simp at this
 omega
theorem fuT_tok:∀ i,i<24->tokB (fuT i)=true:=by decide +kernel
theorem fuL_len (who:T) (n:Nat):(fuL who n).length=n:=by unfold fuL;simp
theorem fuL_no {who:T} {n i:Nat} (h1:n<=i) (h2:i<24):fuT i∉(fuL who n).map (·.tag):=by
 intro h
 obtain ⟨p,hp,e⟩:=List.mem_map.1 h
 obtain ⟨k,hk,rfl⟩:=List.mem_map.1 hp
 have hk:=List.mem_range.1 hk
 have:=fuT_inj (i:=k) (j:=i) (by omega) h2 e
 omega
theorem fu_arg {who:T} {n i:Nat} (h1:n<=i) (h2:i<24):argE (fuL who n) 0 (fuA who i)=false :=
 argE_not (by decide) (by decide) (fuT_tok i h2) (fuL_no h1 h2) (fun _=>by show docE lsD=0;kernel_rfl)
theorem fu_new {who:T} {m i:Nat} (h1:i<m) (h2:m<=20):doR (plC m) i (fuL who i) 0 (fuA who i)=⟨(i+1:Nat),fuL who (i+1),⟨200,60,fuT i,true⟩,0⟩:=by
 refine (doR_new4 (a:=fuA who i) (fu_arg (Nat.le_refl _) (by omega)) rfl rfl rfl (by show (60:Int)≠0;decide) (by rw [fuL_len];show ¬(m:Int)<=(i:Int);omega)).trans ?_
 have e:fuL who (i+1)=fuL who i++[newP i (fuA who i) 0 (secN (plC m) (fuA who i).exp)]:=by
  unfold fuL
  rw [List.range_succ,List.map_append]
  rfl
 rw [e]
 rfl
theorem fu_503 {who:T} {m i:Nat} (h1:m<=i) (h2:i<24):doR (plC m) m (fuL who m) 0 (fuA who i)=⟨m,fuL who m,⟨503,0,[],false⟩,0⟩ :=
 doR_new3 (a:=fuA who i) (fu_arg h1 h2) rfl rfl rfl (by show (60:Int)≠0;decide) (by rw [fuL_len];exact Int.le_refl _)
theorem fu_num (who:T) (m:Nat):((fuL who m).map (·.number)).Nodup:=by
 unfold fuL
 rw [List.map_map,List.nodup_iff_pairwise_ne,List.pairwise_map]
 exact List.pairwise_lt_range.imp (fun h e=>by simp [fuP] at e;omega)
theorem fu_tag (who:T) {m:Nat} (hm:m<=20):((fuL who m).map (·.tag)).Nodup:=by
 unfold fuL
 rw [List.map_map,List.nodup_iff_pairwise_ne,List.pairwise_map]
 refine List.Pairwise.imp_of_mem (R:=fun a b=>a<b) (fun {a b} ha hb h e=>?_) List.pairwise_lt_range
 have ha:=List.mem_range.1 ha
 have hb:=List.mem_range.1 hb
 have:=fuT_inj (i:=a) (j:=b) (by omega) (by omega) e
 omega
theorem fu_last {who:T} {m:Nat} (h0:1<=m) (hm:m<=20):∃ L',doR (plC m) m (fuL who m) 0 (fuZ who)=⟨m,L',⟨200,60,[122,48],false⟩,0⟩/\L'.length=m/\(L'.filter (fun p=>decide (p.who=who))).length=m:=by
 have hp:fuP who 0∈fuL who m:=List.mem_map.2 ⟨0,List.mem_range.2 (by omega),rfl⟩
 have hz:([122,48]:T)∉(fuL who m).map (·.tag):=by
  intro h
  obtain ⟨p,hp,e⟩:=List.mem_map.1 h
  obtain ⟨k,hk,rfl⟩:=List.mem_map.1 hp
  have:=congrArg List.length e
  simp [fuP,fuT] at this
 refine ⟨setP (fuL who m) (putP (fuP who 0) (fuZ who) 0 60),doR_old4 (c:=plC m) (last:=(m:Int)) (a:=fuZ who) (p:=fuP who 0) (argE_not (by decide) (by decide) (by kernel_rfl) hz (fun h=>by cases h)) (by show ([97]:T)≠[];decide) (fu_num who m) (fu_tag who hm) hp rfl rfl rfl (by show (60:Int)≠0;decide),?_,?_⟩
 .unfold setP;rw [List.length_map,fuL_len]
 .rw [List.filter_eq_self.2]
  .unfold setP;rw [List.length_map,fuL_len]
  .intro p h
   rcases setP_mem h with rfl|⟨h,_⟩
   .exact decide_eq_true rfl
   .obtain ⟨k,_,rfl⟩:=List.mem_map.1 h
    exact decide_eq_true rfl
theorem fu_byte {P:Program} (w:World) (src dst e:TypeId) (hs:P.underlying src=some (.slice e)) (he:P.underlying e=some (.int .u8)) (hd:P.underlying dst=some .string) (i:Nat) (hi:97+i<256) :
 (convert src dst (.slice (some ⟨w.heap.size,0,none⟩) 1 1)).run P (w.alloc (.cells #[.int .u8 (97+(i:Int))] e))=.ok (.string (str (fuT i))) (w.alloc (.cells #[.int .u8 (97+(i:Int))] e)):=by
 have h7:(UInt8.ofNat (97+i)).toNat=97+i:=by rw [UInt8.toNat_ofNat'];omega
 unfold fuT
 obtain ⟨c,hc⟩:∃ c,UInt8.ofNat (97+i)=c:=⟨_,rfl⟩
 rw [hc] at h7 ⊢
 have hB:B c=.int .u8 (97+(i:Int)):=by unfold B;rw [h7];congr 1
 refine run_string_own src dst e hs he hd (base:=0) (n:=1) (l:=[c]) ⟨rfl,.inr ⟨w.heap.size,1,#[.int .u8 (97+(i:Int))],rfl,by omega,heap_alloc_new w _,Nat.le_refl _,by unfold maxLen;omega,by simp,?_⟩⟩
 simp [hB]
theorem neq_503 (W:World):(binOp .neq 33 (.agg #[.int .i64 503,.int .i64 0,.string ⟨#[]⟩,.bool false]) (.agg #[.int .i64 503,.int .i64 0,.string ⟨#[]⟩,.bool false])).run Tryz.prog W=.ok (.bool false) W:=neq_told 503 0 503 0 ⟨#[]⟩ ⟨#[]⟩ false false W
def FuRel (w:World) (p m:Nat) (who:T) (k:Nat) (wr:World):Prop:=Sto w.heap.size wr p (plC m) ((min k m:Nat):Int) (fuL who (min k m))/\Below w.heap.size w wr
set_option maxRecDepth 100000 in
set_option maxHeartbeats 8000000 in
theorem pubFull_any (n:Nat) (who:T) (hn:n<=255) (hw:who.length<=140737488351232) (w:World):Calls Tryz.prog 7 #[.int .u8 n,.string (str who)] w (TruePost w):=by
 have HAW:=hid awake16_any
 unfold AwkPost at HAW
 obtain ⟨m,hm⟩:∃ m:Nat,1+n % 20=m:=⟨_,rfl⟩
 have hm1:1<=m:=by omega
 have hm2:m<=20:=by omega
 have em:(1:Int)+(n:Int) % 20=(m:Int):=by omega
 have HPL:=hid (plain16_any (m:Int))
 have HBG:Hid (∀ W,Calls Tryz.prog 10 #[.agg #[.string ⟨#[]⟩,.int .i64 1,.int .i64 m,.int .i64 1,.int .i64 60,.int .i64 3600,.int .i64 600]] W (BgnPost (plC m) W)):=hid (fun W=>begun_any (c:=plC m) (plC_right (by omega) (by omega)) W)
 have HDC:=hid (doc_any ⟨#[97,64,98]⟩)
 unfold BgnPost at HBG
 have HZ:Hid (∃ L',L'.length=m/\(L'.filter (fun p=>decide (p.who=who))).length=m/\∀ B W p,Sto B W p (plC m) m (fuL who m)->B<=W.heap.size->Calls Tryz.prog 14 #[.pointer (some ⟨p,0,none⟩),.int .i64 0,.agg #[.string (str who),.string ⟨#[97]⟩,.int .i64 60,.bool false,.string ⟨#[]⟩,.slice none 0 0,.slice none 0 0,.string ⟨#[122,48]⟩]] W fun e w'=>e=.returned (.tuple #[.agg #[.int .i64 200,.int .i64 60,.string ⟨#[122,48]⟩,.bool false],.int .i64 0])/\Sto B w' p (plC m) m L'/\Below B W w'/\Stay W w'):=hid (by
  obtain ⟨L',e,h1,h2⟩:=fu_last (who:=who) hm1 hm2
  refine ⟨L',h1,h2,fun B W p hS hB=>?_⟩
  have h9:=does_sto (a:=fuZ who) (At:=none) (An:=none) (ct:=0) (cn:=0) (now:=0) hS hB (docB_nil W B _) (askS_nil hw (by decide) (by decide) (by decide) (by decide) (by decide)) (fun q=>by cases q) (by omega)
  rw [e] at h9
  exact h9)
 have HN:Hid (∀ k,k<m->∀ B W p,Sto B W p (plC m) k (fuL who k)->B<=W.heap.size->Calls Tryz.prog 14 #[.pointer (some ⟨p,0,none⟩),.int .i64 0,.agg #[.string (str who),.string ⟨#[]⟩,.int .i64 60,.bool true,.string ⟨#[97,64,98]⟩,.slice none 0 0,.slice none 0 0,.string (str (fuT k))]] W fun e w'=>e=.returned (.tuple #[.agg #[.int .i64 200,.int .i64 60,.string (str (fuT k)),.bool true],.int .i64 0])/\Sto B w' p (plC m) (k+1:Nat) (fuL who (k+1))/\Below B W w'/\Stay W w'):=hid (fun k hk B W p hS hB=>by
  have h9:=does_sto (a:=fuA who k) (At:=none) (An:=none) (ct:=0) (cn:=0) (now:=0) hS hB (docB_nil W B _) (askS_nil hw (by simp) (by simp [fuT]) (by decide) (by decide) (by decide)) (fun _=>(by decide:pabT.length<=99999990)) (by omega)
  rw [fu_new hk hm2] at h9
  exact h9)
 have HF:Hid (∀ k,m<=k->k<m+3->∀ B W p,Sto B W p (plC m) m (fuL who m)->B<=W.heap.size->Calls Tryz.prog 14 #[.pointer (some ⟨p,0,none⟩),.int .i64 0,.agg #[.string (str who),.string ⟨#[]⟩,.int .i64 60,.bool true,.string ⟨#[97,64,98]⟩,.slice none 0 0,.slice none 0 0,.string (str (fuT k))]] W fun e w'=>e=.returned (.tuple #[.agg #[.int .i64 503,.int .i64 0,.string ⟨#[]⟩,.bool false],.int .i64 0])/\Sto B w' p (plC m) m (fuL who m)/\Below B W w'/\Stay W w'):=hid (fun k hk hk2 B W p hS hB=>by
  have h9:=does_sto (a:=fuA who k) (At:=none) (An:=none) (ct:=0) (cn:=0) (now:=0) hS hB (docB_nil W B _) (askS_nil hw (by simp) (by simp [fuT]) (by decide) (by decide) (by decide)) (fun _=>(by decide:pabT.length<=99999990)) (by omega)
  rw [fu_503 hk (by omega)] at h9
  exact h9)
 clear hw
 go_enter Tryz.func7,Tryz.ntmps7
 go_upto_region 2 with (fail)
 clear em hm hn
 go_wp2_with fail
 refine (HPL.out _).mono ?_
 rintro e w1 ⟨rfl,hb1⟩
 have HB1:=hid hb1
 clear hb1
 go_wp2_with fail
 refine (HBG.out _).mono ?_
 rintro e w2 ⟨p,F,rfl,hst,hb2,hF⟩
 have H0:Hid (FuRel w p m who 0 w2):=hid ⟨⟨F,by rw [Nat.zero_min];exact hst,fun k hk=>Nat.le_trans HB1.out.size (hF k hk)⟩,thenB_ HB1.out hb2⟩
 clear hst hb2 hF HPL HBG
 go_wp2
 go_loopw [7] (fun i wr=>∃ k:Nat,k<=m+3/\i=.int .i64 k/\FuRel w p m who k wr) (fun i _=>m+3-(intOf i).toNat)
 case atStart=>exact ⟨0,Nat.zero_le _,rfl,H0.out⟩
 case round =>
  obtain ⟨k,hk,rfl,hS,hB⟩:=hrel
  have HS:=hid hS
  have HB:=hid hB
  clear hS hB H0
  by_cases hlt:k<m+3
  .have x0:(0:Int)<=k:=by omega
   have x1:(k:Int)<m+3:=by omega
   have hcv:=fu_byte (P:=Tryz.prog) wr 71 9 5 Tryz.underlying71 Tryz.underlying5 Tryz.underlying9 k (by omega)
   go_upto_region 9 with (fail)
   obtain ⟨w3,hw3⟩:∃ w3,wr.alloc (.cells #[.int .u8 (97+(k:Int))] 5)=w3:=⟨_,rfl⟩
   rw [hw3]
   have hb3:Below wr.heap.size wr w3:=hw3▸(Below.refl _ _).alloc (Nat.le_refl _) _
   have HS3:=hid (HS.out.below hb3)
   have HB3:=hid (thenB_ HB.out hb3)
   clear hb3 hw3 hcv
   go_wp2_with fail
   refine (HDC.out _).mono ?_
   rintro e w4 ⟨rfl,hb4⟩
   have HS4:=hid (HS3.out.below hb4)
   have HB4:=hid (thenB_ HB3.out hb4)
   clear hb4
   by_cases hkm:k<m
   .have x2:(k:Int)<(m:Int):=by omega
    have x3:¬(m:Int)<=(k:Int):=by omega
    have HD:Hid (∀ W,Sto w.heap.size W p (plC m) ((min k m:Nat):Int) (fuL who (min k m))->w.heap.size<=W.heap.size->Calls Tryz.prog 14 #[.pointer (some ⟨p,0,none⟩),.int .i64 0,.agg #[.string (str who),.string ⟨#[]⟩,.int .i64 60,.bool true,.string ⟨#[97,64,98]⟩,.slice none 0 0,.slice none 0 0,.string (str (fuT k))]] W fun e w'=>e=.returned (.tuple #[.agg #[.int .i64 200,.int .i64 60,.string (str (fuT k)),.bool true],.int .i64 0])/\Sto w.heap.size w' p (plC m) ((min (k+1) m:Nat):Int) (fuL who (min (k+1) m))/\Below w.heap.size W w'):=hid (fun W hS hB=>by
     rw [Nat.min_eq_left (by omega)] at hS
     rw [Nat.min_eq_left (by omega)]
     exact (HN.out k hkm _ W p hS hB).mono fun _ _ q=>⟨q.1,q.2.1,q.2.2.1⟩)
    generalize fuT k=TK at *
    go_wp2_with fail
    refine (HD.out _ HS4.out HB4.out.size).mono ?_
    rintro e w5 ⟨rfl,hs5,hb5⟩
    go_upto_region 10 with (fail)
    obtain ⟨w6,hw6⟩:∃ w6,w5.alloc (.cells #[.int .i64 200,.int .i64 60,.string (str TK),.bool true] 33)=w6:=⟨_,rfl⟩
    rw [hw6]
    have hb6:Below w5.heap.size w5 w6:=hw6▸(Below.refl _ _).alloc (Nat.le_refl _) _
    have hk6:Blk w6 w5.heap.size 33 #[.int .i64 200,.int .i64 60,.string (str TK),.bool true]:=hw6▸Blk.new w5 _ _
    have HR:Hid (FuRel w p m who (k+1) w6):=hid ⟨hs5.below hb6,thenB_ (HB4.out.trans hb5) hb6⟩
    have a0:=hk6.cell 0
    clear hs5 hb5 hb6 hk6 hw6
    go_wp2
    go_roundw
    case rel=>exact ⟨k+1,by omega,by go_num,HR.out⟩
    case measure=>simp [intOf] <;> omega
   .have x2:¬(k:Int)<(m:Int):=by omega
    have x3:(m:Int)<=(k:Int):=by omega
    have HD:Hid (∀ W,Sto w.heap.size W p (plC m) ((min k m:Nat):Int) (fuL who (min k m))->w.heap.size<=W.heap.size->Calls Tryz.prog 14 #[.pointer (some ⟨p,0,none⟩),.int .i64 0,.agg #[.string (str who),.string ⟨#[]⟩,.int .i64 60,.bool true,.string ⟨#[97,64,98]⟩,.slice none 0 0,.slice none 0 0,.string (str (fuT k))]] W fun e w'=>e=.returned (.tuple #[.agg #[.int .i64 503,.int .i64 0,.string ⟨#[]⟩,.bool false],.int .i64 0])/\Sto w.heap.size w' p (plC m) ((min (k+1) m:Nat):Int) (fuL who (min (k+1) m))/\Below w.heap.size W w'):=hid (fun W hS hB=>by
     rw [Nat.min_eq_right (by omega)] at hS
     rw [Nat.min_eq_right (by omega)]
     exact (HF.out k (by omega) hlt _ W p hS hB).mono fun _ _ q=>⟨q.1,q.2.1,q.2.2.1⟩)
    have hq:=neq_503
    generalize fuT k=TK at *
    go_wp2_with fail
    refine (HD.out _ HS4.out HB4.out.size).mono ?_
    rintro e w5 ⟨rfl,hs5,hb5⟩
    go_upto_region 10 with (fail)
    obtain ⟨w6,hw6⟩:∃ w6,w5.alloc (.cells #[.int .i64 503,.int .i64 0,.string ⟨#[]⟩,.bool false] 33)=w6:=⟨_,rfl⟩
    rw [hw6]
    have hb6:Below w5.heap.size w5 w6:=hw6▸(Below.refl _ _).alloc (Nat.le_refl _) _
    have hk6:Blk w6 w5.heap.size 33 #[.int .i64 503,.int .i64 0,.string ⟨#[]⟩,.bool false]:=hw6▸Blk.new w5 _ _
    have HR:Hid (FuRel w p m who (k+1) w6):=hid ⟨hs5.below hb6,thenB_ (HB4.out.trans hb5) hb6⟩
    have a0:=hk6.cell 0
    have a1:=hk6.cell 1
    have a2:=hk6.cell 2
    have a3:=hk6.cell 3
    clear hs5 hb5 hb6 hk6 hw6
    go_wp2
    go_roundw
    case rel=>exact ⟨k+1,by omega,by go_num,HR.out⟩
    case measure=>simp [intOf] <;> omega
  .have x1:¬(k:Int)<m+3:=by omega
   obtain ⟨L',hl1,hl2,hz⟩:=HZ.out
   have HSm:Hid (Sto w.heap.size wr p (plC m) m (fuL who m)):=hid (by
    have:=HS.out
    rw [Nat.min_eq_right (by omega)] at this
    exact this)
   have HZZ:=hid hz
   have HLN:Hid (∀ W,Sto w.heap.size W p (plC m) m L'->Calls Tryz.prog 17 #[.pointer (some ⟨p,0,none⟩)] W fun e w'=>e=.returned (.int .i64 m)/\W=w'):=hid (fun W hS=>by
    have h9:=len_sto hS
    rw [hl1] at h9
    exact h9)
   have HLV:Hid (∀ W,Sto w.heap.size W p (plC m) m L'->Calls Tryz.prog 18 #[.pointer (some ⟨p,0,none⟩),.string (str who)] W fun e w'=>(∃ A cp,e=.returned (.slice A m cp))/\Below W.heap.size W w'):=hid (fun W hS=>(live_sto (who:=who) hS (by omega)).mono fun e w' ⟨ys,A,cp,q,hy,_,_,hb⟩=>by
    have hl:ys.length=m:=by
     have h8:=congrArg List.length hy
     rw [List.length_map,hl2] at h8
     exact h8
    rw [hl] at q
    exact ⟨⟨A,cp,q⟩,hb⟩)
   clear hz hl1 hl2 HZ HN HF
   go_wp2_with fail
   refine (HZZ.out _ _ _ HSm.out HB.out.size).mono ?_
   rintro e w5 ⟨rfl,hs5,hb5,_⟩
   go_upto_region 13 with (fail)
   obtain ⟨w6,hw6⟩:∃ w6,w5.alloc (.cells #[.int .i64 200,.int .i64 60,.string ⟨#[122,48]⟩,.bool false] 33)=w6:=⟨_,rfl⟩
   rw [hw6]
   have hb6:Below w5.heap.size w5 w6:=hw6▸(Below.refl _ _).alloc (Nat.le_refl _) _
   have hk6:Blk w6 w5.heap.size 33 #[.int .i64 200,.int .i64 60,.string ⟨#[122,48]⟩,.bool false]:=hw6▸Blk.new w5 _ _
   have HS6:=hid (hs5.below hb6)
   have HB6:=hid (thenB_ (HB.out.trans hb5) hb6)
   have a0:=hk6.cell 0
   clear hs5 hb5 hb6 hk6 hw6
   go_wp2_with fail
   refine (HLN.out _ HS6.out).mono ?_
   rintro e _ ⟨rfl,rfl⟩
   go_wp2_with fail
   refine (HLV.out _ HS6.out).mono ?_
   rintro e wb ⟨⟨A2,cp2,rfl⟩,hbb⟩
   have HBb:=hid (thenB_ HB6.out hbb)
   clear hbb
   go_wp2_with fail
   refine (HAW.out _).mono ?_
   rintro e wc ⟨rfl,hbc⟩
   have HBc:=hid (thenB_ HBb.out hbc)
   go_wp2
   go_ret
   exact ⟨rfl,HBc.out⟩
end Go.Proofs.YthfmekdbcoaolaaGreatDoor
