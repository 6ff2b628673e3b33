/- Chapter 3: lists of parameters and URIs as values. Chapter 3: uri.Host. Chapter 3: uri.list. Chapter 3: rosterref03.List. Chapter 3: uri.Check. Chapter 3: rosterref03.Check. -/
import Derived.Test.YthkadehlclcggaaGreatDoorGx16
import Derived.Test.YthkadehlclcggaaGreatDoorGx02
import Derived.Test.YthkadehlclcggaaGreatDoorGx01
import Derived.Deep.RegionHeld3
namespace Go.Proofs.YthkadehlclcggaaGreatDoor
set_option linter.unusedSimpArgs false
set_option linter.unusedVariables false
open Go.RowKit
open Go.Lib (hid)
def parC (p:Par):List Value:=[.string (str p.name),.string (str p.value),.bool p.has]
theorem parC_len (p:Par):(parC p).length=3:=rfl
def PrmB (w:World) (B:Nat) (v:Value) (l:List Par):Prop:=∃ A c,v=.slice A l.length c/\RdB w B 3 l.length A (rows parC l)
theorem PrmB.below {w w':World} {B:Nat} {v:Value} {l:List Par} (h:PrmB w B v l) (hb:Below B w w'):PrmB w' B v l:=by
 obtain ⟨A,c,e,r⟩:=h
 exact ⟨A,c,e,r.below hb⟩
theorem PrmB.at_ {w:World} {B:Nat} {A:Option Addr} {l:List Par} (h:RdB w B 3 l.length A (rows parC l)) {i:Nat} (hi:i<l.length) :
 ∃ gb off,A=some ⟨gb,off,none⟩/\gb<B/\w.cell? ⟨gb,off+i*3,none⟩=some (.string (str l[i].name))/\w.cell? ⟨gb,off+i*3+1,none⟩=some (.string (str l[i].value))/\w.cell? ⟨gb,off+i*3+2,none⟩=some (.bool l[i].has):=by
 obtain ⟨gb,off,e,hlt,hc⟩:=h.at_ (by omega)
 have hr:=fun j hj=>rows_at parC_len hi (j:=j) hj
 refine ⟨gb,off,e,hlt,?_,?_,?_⟩
 .exact hc _ _ (by have:=hr 0 (by omega);rw [Nat.add_zero] at this;rw [this];rfl)
 .rw [Nat.add_assoc];exact hc _ _ (by rw [hr 1 (by omega)];rfl)
 .rw [Nat.add_assoc];exact hc _ _ (by rw [hr 2 (by omega)];rfl)
def uriV (u:Uri) (vp vh:Value):Value:=.agg #[.string (str u.scheme),.string (str u.user),.string (str u.host),.int .i64 u.port,vp,vh]
def UriB (w:World) (B:Nat) (v:Value) (u:Uri):Prop:=∃ vp vh,v=uriV u vp vh/\PrmB w B vp u.params/\PrmB w B vh u.headers
def parS (p:Par):Prop:=p.name.length<=140737488351232/\p.value.length<=140737488351232
structure UriS (u:Uri):Prop where
 scheme:u.scheme.length<=140737488351232
 user:u.user.length<=140737488351232
 host:u.host.length<=140737488351232
 port:-9223372036854775808<=u.port/\u.port<=9223372036854775807
 params:u.params.length<=140737488351232
 headers:u.headers.length<=140737488351232
 par:∀ p∈u.params,parS p
 hdr:∀ p∈u.headers,parS p
set_option maxRecDepth 100000 in
set_option maxHeartbeats 4000000 in
theorem Host_any (s:ByteArray) (w:World) (hs:s.size<=9223372036854775807):Calls Tryz.prog 136 #[.string s] w fun e w'=>e=.returned (.bool (hostB s.data.toList))/\Below w.heap.size w w':=by
 by_cases h0:s.size=0
 .have HX:=hid (host_empty h0)
  have z1:s.toList.isEmpty=true:=by rw [Lib.toList_data,List.isEmpty_iff];exact List.eq_nil_of_length_eq_zero (by simpa using h0)
  go_enter Tryz.func136,Tryz.ntmps136
  go_wp2
  go_ret
  exact ⟨ret_bool HX.out.symm,Below.refl _ _⟩
 .have z1:s.toList.isEmpty=false:=emp_no (by rintro rfl;exact h0 rfl)
  by_cases h64:64<s.size
  .have HX:=hid (host_long h64)
   have z2:(64:Int)<s.size:=by omega
   go_enter Tryz.func136,Tryz.ntmps136
   go_wp2
   go_ret
   exact ⟨ret_bool HX.out.symm,Below.refl _ _⟩
  .have z2:¬(64:Int)<s.size:=by omega
   have HL:=hid (fun w=>Lower_any s w (by omega))
   by_cases hlow:lowS s=s
   .have HR:=hid (host_rest (by omega) (by omega) hlow)
    have hpos:0<s.size:=by omega
    have zp:(0:Int)<s.size:=by omega
    have e0:(s.toList != s.toList)=false:=by simp
    unfold LowPost at HL
    rw [hlow] at HL
    clear hlow
    by_cases h91:s[0]=91
    .have e1:((s[0].toNat:Int) == 91)=true:=by rw [h91];rfl
     have HX:=hid (HR.out.trans (if_pos h91))
     have H6:=hid (fun w=>six_any s w (by omega))
     clear h91
     go_enter Tryz.func136,Tryz.ntmps136
     go_wp2_with (first|(go_at_call 154;refine (HL.out _).mono ?_;rintro e w' ⟨rfl,hb⟩;have HB:=hid hb;clear hb)|(go_at_call 155;refine (H6.out _).mono ?_;rintro e w' ⟨rfl,hw⟩;subst hw))
     go_ret
     exact ⟨ret_bool HX.out.symm,HB.out⟩
    .have e1:((s[0].toNat:Int) == 91)=false:=by
      rw [beq_eq_false_iff_ne]
      intro e
      exact h91 (UInt8.toNat_inj.1 (by simp;omega))
     have HX:=hid (HR.out.trans (if_neg h91))
     have HSP:Hid (∀ w,Calls Tryz.prog 156 #[.string s,.string ⟨#[46]⟩] w (GsPost s 46 w)):=hid (fun w=>Split_any s 46 w (by omega))
     clear h91
     go_enter Tryz.func136,Tryz.ntmps136
     go_wp2_with (first|(go_at_call 154;refine (HL.out _).mono ?_;rintro e w1 ⟨rfl,hb⟩;have HB:=hid hb;clear hb)|(go_at_call 156;refine (HSP.out _).mono ?_;rintro e w2 ⟨gg,rfl,hgg,hown,hb2⟩;have HO:=hid hown;have HB2:=hid (HB.out.trans (hb2.mono HB.out.size));clear hb2 hown))
     have hL0:0<(splitT 46 s.data.toList).length:=List.length_pos_iff.2 (split_ne 46 _)
     have hsl:=split_lens 46 s.data.toList
     have hls:s.data.toList.length=s.size:=by simp
     rw [hls] at hsl
     generalize splitT 46 s.data.toList=L at *
     have hLB:Hid (∀ i,∀ h:i<L.length,(str L[i]).size<=64):=hid (fun i h=>by
      have:=hsl.2 L[i] (List.getElem_mem h)
      show L[i].length<=64
      omega)
     have hll:L.length<=65:=by omega
     clear hsl hls
     have hcell:Hid (∀ i,∀ h:i<L.length,w2.cell? ⟨gg,i,none⟩=some (.string (str L[i]))):=hid (fun i h=>by
      rw [HO.out.cell,List.getElem?_toArray,List.getElem?_map,List.getElem?_eq_getElem h]
      rfl)
     go_wp2
     go_loop [26] (fun i=>∃ j:Nat,j<=L.length/\i=.int .i64 j/\AllP L j) (fun i=>L.length-(intOf i).toNat)
     case atStart=>exact ⟨0,by omega,rfl,by simp [AllP]⟩
     case round =>
      obtain ⟨j,hj,rfl,hA⟩:=hrel
      have HA:=hid hA
      clear hA
      by_cases hlt:j<L.length
      .have zc:=hcell.out j hlt
       have hPs:=hLB.out j hlt
       have HNO:=hid (fun q=>HX.out.trans (allp_no hlt q))
       have HYES:=hid (fun q=>allp_step hlt HA.out q)
       have x0:(0:Int)<=j:=by omega
       have x1:(j:Int)<L.length:=by omega
       obtain ⟨P,hP⟩:∃ P,str L[j]=P:=⟨_,rfl⟩
       have hPl:L[j]=P.data.toList:=by rw [<-hP];rfl
       rw [hPl] at HNO HYES
       rw [hP] at zc hPs
       clear hP hPl
       by_cases hPe:P=⟨#[]⟩
       .have HZ:=hid (HNO.out (part_none hPe))
        subst hPe
        go_wp2
        go_ret
        exact ⟨ret_bool HZ.out.symm,HB2.out⟩
       .have hP0:0<P.size:=by
         rcases Nat.eq_zero_or_pos P.size with q|q
         .exact absurd (by cases P with|mk d=>exact congrArg ByteArray.mk (Array.eq_empty_of_size_eq_zero q)) hPe
         .exact q
        have hPi:=emp_no hPe
        have u0:(0:Int)<P.size:=by omega
        have r6:IntKind.i64.wrap ((P.size:Int)-1)=(P.size:Int)-1:=IntWalk.i64_in _ (by omega)
        have r2:(0:Int)<=(P.size:Int)-1:=by omega
        have r3:(P.size:Int)-1<P.size:=by omega
        have r4:((P.size:Int)-1).toNat=P.size-1:=by omega
        have r5:P.size-1<P.size:=by omega
        have HALL:=hid (fun w=>all_any P 67 w (by omega))
        clear hPe
        rw [part_67] at HALL
        cases ha:allB (tstB 64) P with
        | false =>
          have HZ:=hid (HNO.out (part_no1 hP0 ha))
          rw [ha] at HALL
          clear ha
          go_wp2_with (go_at_call 101;refine (HALL.out _).mono ?_;rintro e w' ⟨rfl,rfl⟩)
          go_ret
          exact ⟨ret_bool HZ.out.symm,HB2.out⟩
        | true =>
          rw [ha] at HALL
          by_cases h1:P[0]=45
          .have HZ:=hid (HNO.out (part_no2 hP0 h1))
           have e2:((P[0].toNat:Int) == 45)=true:=by rw [h1];rfl
           clear ha h1
           go_wp2_with (go_at_call 101;refine (HALL.out _).mono ?_;rintro e w' ⟨rfl,rfl⟩)
           go_ret
           exact ⟨ret_bool HZ.out.symm,HB2.out⟩
          .have e2:((P[0].toNat:Int) == 45)=false:=by
            rw [beq_eq_false_iff_ne]
            intro e
            exact h1 (UInt8.toNat_inj.1 (by simp;omega))
           by_cases h2:P[P.size-1]'(by omega)=45
           .have HZ:=hid (HNO.out (part_no3 hP0 h2))
            have e3:(((P[P.size-1]'(by omega)).toNat:Int) == 45)=true:=by rw [h2];rfl
            clear ha h1 h2
            go_wp2_with (go_at_call 101;refine (HALL.out _).mono ?_;rintro e w' ⟨rfl,rfl⟩)
            go_ret
            exact ⟨ret_bool HZ.out.symm,HB2.out⟩
           .have e3:(((P[P.size-1]'(by omega)).toNat:Int) == 45)=false:=by
             rw [beq_eq_false_iff_ne]
             intro e
             exact h2 (UInt8.toNat_inj.1 (by simp;omega))
            have HZ:=hid (HYES.out (part_yes hP0 ha h1 h2))
            clear ha h1 h2
            go_wp2_with (go_at_call 101;refine (HALL.out _).mono ?_;rintro e w' ⟨rfl,rfl⟩)
            go_round
            case rel=>exact ⟨j+1,by omega,by go_num,HZ.out⟩
            case measure=>simp [intOf] <;> omega
      .have x1:¬(j:Int)<L.length:=by omega
       have HZ:=hid (HX.out.trans (allp_end (by omega) HA.out))
       go_wp2
       go_ret
       exact ⟨ret_bool HZ.out.symm,HB2.out⟩
   .have HX:=hid (host_caps hlow)
    have e0:((lowS s).toList == s.toList)=false:=by rw [tol_dec,decide_eq_false hlow]
    have e00:¬((lowS s).toList=s.toList):=fun q=>by rw [q,beq_self_eq_true] at e0;cases e0
    clear hlow
    go_enter Tryz.func136,Tryz.ntmps136
    go_wp2_with (go_at_call 154;refine (HL.out _).mono ?_;rintro e w' ⟨rfl,hb⟩;have HB:=hid hb;clear hb)
    go_ret
    exact ⟨ret_bool HX.out.symm,HB.out⟩
structure ListOk (l:List Par) (j:Nat):Prop where
 ok:(l.take j).all parOk=true
 nd:((l.take j).map fun p=>low p.name).Nodup
theorem ListOk.zero (l:List Par):ListOk l 0:=⟨by simp,by simp⟩
theorem ListOk.step {l:List Par} {j:Nat} (h:ListOk l j) (hj:j<l.length) (a:parOk l[j]=true) (b:low l[j].name∉(l.take j).map fun p=>low p.name):ListOk l (j+1):=by
 refine ⟨?_,?_⟩
 .rw [List.take_succ_eq_append_getElem hj,List.all_append,h.ok];simp [a]
 .rw [List.take_succ_eq_append_getElem hj,List.map_append,List.nodup_append]
  refine ⟨h.nd,by simp,fun x hx y hy=>?_⟩
  simp at hy
  subst hy
  rintro rfl
  exact b hx
theorem ListOk.end_ {l:List Par} {j:Nat} (h:ListOk l j) (hj:j=l.length) (h16:l.length<=16):listB l=true:=by
 have e:l.take j=l:=List.take_of_length_le (by omega)
 have h1:=h.ok
 have h2:=h.nd
 rw [e] at h1 h2
 unfold listB
 rw [decide_eq_true h16,h1,decide_eq_true h2]
 rfl
theorem list_long {l:List Par} (h:16<l.length):listB l=false:=by
 unfold listB
 rw [decide_eq_false (by omega)]
 rfl
theorem list_bad {l:List Par} {j:Nat} (hj:j<l.length) (a:parOk l[j]=false):listB l=false:=by
 unfold listB
 have:l.all parOk=false:=List.all_eq_false.2 ⟨l[j],List.getElem_mem hj,by rw [a];simp⟩
 rw [this]
 simp
theorem list_dup {l:List Par} {j:Nat} (hj:j<l.length) (b:low l[j].name∈(l.take j).map fun p=>low p.name):listB l=false:=by
 unfold listB
 rw [decide_eq_false (p:=(l.map fun p=>low p.name).Nodup),Bool.and_false]
 intro h
 have e:l.map (fun p=>low p.name)=(l.take j).map (fun p=>low p.name)++low l[j].name::(l.drop (j+1)).map (fun p=>low p.name):=by
  have h:=congrArg (List.map fun p:Par=>low p.name) (List.take_append_drop j l).symm
  rw [List.drop_eq_getElem_cons hj,List.map_append,List.map_cons] at h
  exact h
 rw [e,List.nodup_append] at h
 exact h.2.2 _ b _ (by simp) rfl
theorem par_name0 {p:Par} (h:p.name=[]):parOk p=false:=by unfold parOk;simp [h]
theorem par_name64 {p:Par} (h:64<p.name.length):parOk p=false:=by unfold parOk;rw [decide_eq_false (p:=p.name.length<=64) (by omega)];simp
theorem par_val64 {p:Par} (h:64<p.value.length):parOk p=false:=by unfold parOk;rw [decide_eq_false (p:=p.value.length<=64) (by omega)];simp
theorem par_has {p:Par} (h:p.has=false) (h2:p.value≠[]):parOk p=false:=by unfold parOk;simp [h,h2]
theorem par_good {p:Par} (h1:p.name≠[]) (h2:¬64<p.name.length) (h3:¬64<p.value.length) (h4:p.has=true\/p.value=[]):parOk p=true:=by
 unfold parOk
 rw [decide_eq_true h1,decide_eq_true (p:=p.name.length<=64) (by omega),decide_eq_true (p:=p.value.length<=64) (by omega)]
 rcases h4 with h|h <;> simp [h]
def knownK (l:List Par):List (ByteArray × Value):=l.map fun p=>(str (low p.name),.int .i64 1)
theorem known_none {l:List Par} {n:T} (h:n∉l.map fun p=>low p.name):mget (str n) (knownK l)=none:=mget_none (by
 unfold knownK
 rw [List.map_map]
 intro q
 obtain ⟨p,hp,e⟩:=List.mem_map.1 q
 exact h (List.mem_map.2 ⟨p,hp,str_inj e⟩))
theorem known_some {l:List Par} (hn:(l.map fun p=>low p.name).Nodup) {n:T} (h:n∈l.map fun p=>low p.name):mget (str n) (knownK l)=some (.int .i64 1):=by
 obtain ⟨p,hp,e⟩:=List.mem_map.1 h
 refine mget_of_mem ?_ (List.mem_map.2 ⟨p,hp,by rw [e]⟩)
 unfold knownK
 rw [List.map_map]
 have:((fun x:ByteArray × Value=>x.1)∘fun p:Par=>(str (low p.name),(Value.int .i64 1)))=str∘fun p:Par=>low p.name:=rfl
 rw [this,<-List.map_map]
 exact (List.pairwise_map.2 (hn.imp fun hne e=>hne (str_inj e)))
theorem known_next {l:List Par} {j:Nat} (hj:j<l.length) (h:low l[j].name∉(l.take j).map fun p=>low p.name):mput (str (low l[j].name)) (.int .i64 1) (knownK (l.take j))=knownK (l.take (j+1)):=by
 rw [mput_new _ (mget_none' (known_none h)),List.take_succ_eq_append_getElem hj]
 unfold knownK
 rw [List.map_append]
 rfl
theorem nil_iff (s:ByteArray):s.data.toList=[]<->s=⟨#[]⟩:=⟨fun h=>ba_eq h,fun h=>by rw [h]⟩
theorem zint' (w:World):(zeroValue 3).run Tryz.prog w=.ok (.int .i64 0) w:=by kernel_rfl
structure ListRel (l:List Par) (w:World) (b j:Nat) (wr:World):Prop where
 map:MapIs wr b strKey (knownK (l.take j))
 ok:ListOk l j
 be:Below w.heap.size w wr
 ge:w.heap.size<=b
set_option maxRecDepth 100000 in
set_option maxHeartbeats 4000000 in
theorem list_any {l:List Par} {A:Option Addr} {c B:Nat} {w:World} (hB:B<=w.heap.size) (hr:RdB w B 3 l.length A (rows parC l)) (hl:l.length<=maxLen) (hs:∀ p∈l,parS p) :
 Calls Tryz.prog 137 #[.slice A l.length c] w fun e w'=>e=.returned (.bool (listB l))/\Below w.heap.size w w':=by
 unfold maxLen at hl
 by_cases h16:16<l.length
 .have HX:=hid (list_long h16)
  have z2:(16:Int)<l.length:=by omega
  go_enter Tryz.func137,Tryz.ntmps137
  go_wp2
  go_ret
  exact ⟨ret_bool HX.out.symm,Below.refl _ _⟩
 .have z2:¬(16:Int)<l.length:=by omega
  have HR:=hid hr
  have HS:=hid hs
  have H0:Hid (ListRel l w w.heap.size 0 (w.alloc (.map #[] 0))):=hid ⟨MapIs.made w _,ListOk.zero l,(Below.refl _ _).alloc (Nat.le_refl _) _,Nat.le_refl _⟩
  have H16:Hid (l.length<=16):=hid (by omega)
  obtain ⟨b,hb⟩:∃ b,w.heap.size=b:=⟨_,rfl⟩
  have HBB:=hid hb
  have H0:Hid (ListRel l w b 0 (w.alloc (.map #[] 0))):=by rw [hb] at H0;exact H0
  have hmm:=@run_makeMap Tryz.prog
  clear hr hs
  go_enter Tryz.func137,Tryz.ntmps137
  go_wp2
  go_loopw [13] (fun i wr=>∃ j:Nat,j<=l.length/\i=.int .i64 j/\ListRel l w b j wr) (fun i _=>l.length-(intOf i).toNat)
  case atStart=>exact ⟨0,by omega,rfl,H0.out⟩
  case round =>
   obtain ⟨j,hj,rfl,hR⟩:=hrel
   by_cases hlt:j<l.length
   .have x0:(0:Int)<=j:=by omega
    have x1:(j:Int)<l.length:=by omega
    obtain ⟨gb,off,rfl,hgb,zc0,zc1,zc2⟩:=PrmB.at_ (HR.out.below (hR.be.mono hB)) hlt
    have hNs:=HS.out _ (List.getElem_mem hlt)
    have HOK:=hid hR.ok
    have HB:=hid hR.be
    have HMP:=hid hR.map
    have HGE:=hid hR.ge
    have hwb:=hR.be.size
    have HNO:=hid (fun q=>list_bad hlt q)
    have HDU:=hid (fun q=>list_dup hlt q)
    have HNX:=hid (fun a b=>hR.ok.step hlt a b)
    have HKN:=hid (fun b=>known_next hlt b)
    have HK0:Hid (low l[j].name∉((l.take j).map fun p=>low p.name)->mget (str (low l[j].name)) (knownK (l.take j))=none):=hid known_none
    have HK1:Hid (low l[j].name∈((l.take j).map fun p=>low p.name)->mget (str (low l[j].name)) (knownK (l.take j))=some (.int .i64 1)):=hid (known_some hR.ok.nd)
    have HP1:Hid (l[j].name=[]->parOk l[j]=false):=hid par_name0
    have HP2:Hid (64<l[j].name.length->parOk l[j]=false):=hid par_name64
    have HP3:Hid (64<l[j].value.length->parOk l[j]=false):=hid par_val64
    have HP4:Hid (l[j].has=false->l[j].value≠[]->parOk l[j]=false):=hid par_has
    have HP5:Hid (l[j].name≠[]->¬64<l[j].name.length->¬64<l[j].value.length->(l[j].has=true\/l[j].value=[])->parOk l[j]=true):=hid par_good
    have hlow:str (low l[j].name)=lowS (str l[j].name):=rfl
    rw [hlow] at HKN HK0 HK1
    clear hlow hR
    have hNl:l[j].name=(str l[j].name).data.toList:=rfl
    have hVl:l[j].value=(str l[j].value).data.toList:=rfl
    have hNz:(str l[j].name).size<=140737488351232:=hNs.1
    have hVz:(str l[j].value).size<=140737488351232:=hNs.2
    generalize parOk l[j]=po at *
    generalize low l[j].name=ln at *
    generalize l[j].has=hs at *
    generalize str l[j].name=N at *
    generalize str l[j].value=V at *
    have qN:l[j].name.length=N.size:=by rw [hNl];simp
    have qV:l[j].value.length=V.size:=by rw [hVl];simp
    have q0:l[j].name=[]<->N=⟨#[]⟩:=by rw [hNl];exact nil_iff N
    have q1:l[j].value=[]<->V=⟨#[]⟩:=by rw [hVl];exact nil_iff V
    rw [q0] at HP1
    rw [qN] at HP2
    rw [qV] at HP3
    rw [ne_eq,q1] at HP4
    rw [ne_eq,q0,qN,qV,q1] at HP5
    clear qN qV q0 q1 hNl hVl hNs
    go_wp2_with fail
    obtain ⟨w1,hw1⟩:∃ w1,wr.alloc (.cells #[.string N,.string V,.bool hs] 95)=w1:=⟨_,rfl⟩
    obtain ⟨g,hg⟩:∃ g,wr.heap.size=g:=⟨_,rfl⟩
    rw [hw1,hg]
    have hk1:Blk w1 g 95 #[.string N,.string V,.bool hs]:=hw1▸hg▸Blk.new wr _ _
    have hf1:Fr (fun _=>False) wr w1:=hw1▸(Fr.refl _ _).alloc _
    have hb1:Below w.heap.size w w1:=hw1▸HB.out.alloc (by omega) _
    have HW1:=hid hw1
    clear hw1
    refine (Lower_any N w1 (by omega)).mono ?_
    rintro e w2 ⟨rfl,hb2⟩
    have hf2:Fr (fun _=>False) w1 w2:=Fr.of_below hb2
    have hk2:=hk1.fr hf2 (fun h=>h)
    have hm2:=(HMP.out.fr hf1 (fun h=>h)).fr hf2 (fun h=>h)
    have hb2':Below w.heap.size w w2:=hb1.trans (hb2.mono hb1.size)
    have hlk:=hm2.lookup (T:=223) (E:=3) (strLaw Tryz.underlying9) Tryz.underlying223 (zint' w2) (lowS N) false
    have hlt2:g<w2.heap.size:=hk2.lt
    by_cases hd:ln∈((l.take j).map fun p=>low p.name)
    .rw [HK1.out hd] at hlk
     have hlk':(Instr.lookup 223 (.map (some b)) (.string (lowS N)) false).run Tryz.prog w2=.ok (.int .i64 1) w2:=hlk
     obtain ⟨w3,hup,hm3,hf3⟩:=hm2.update (T:=223) (E:=3) (strLaw Tryz.underlying9) Tryz.underlying223 (lowS N) (.int .i64 2)
     have hup':(Instr.mapUpdate 223 (.map (some b)) (.string (lowS N)) (.int .i64 2)).run Tryz.prog w2=.ok () w3:=hup
     have hlk3:=hm3.lookup (T:=223) (E:=3) (strLaw Tryz.underlying9) Tryz.underlying223 (zint' w3) (lowS N) false
     rw [mget_put,if_pos rfl] at hlk3
     have hlk3':(Instr.lookup 223 (.map (some b)) (.string (lowS N)) false).run Tryz.prog w3=.ok (.int .i64 2) w3:=hlk3
     have hk3:=hk2.fr hf3 (fun e=>absurd e.symm (hm2.ne hk2))
     have HB3:Hid (Below w.heap.size w w3):=hid ((Fr.of_below hb2' |>.trans hf3 (G:=fun k=>k=b) (F:=fun k=>w.heap.size<=k) (fun k _ e=>by rw [e];exact HGE.out)).to_below (Nat.le_refl _) (fun _ h=>h))
     have c0:=hk3.cell 0
     have c1:=hk3.cell 1
     have c2:=hk3.cell 2
     have HZ:=hid (HDU.out hd)
     clear hlk hup hlk3 hk1 hk2 hk3 hf1 hf2 hf3 hb1 hb2 hb2' hm2 hm3 hd
     have qA:N=⟨#[]⟩\/N≠⟨#[]⟩:=by by_cases h:N=⟨#[]⟩ <;> simp [h]
     rcases qA with qA|qA
     .subst qA
      go_wp2
      go_ret
      exact ⟨ret_bool HZ.out.symm,HB3.out⟩
     .have qe:=emp_no qA
      clear qA
      by_cases qB:(64:Int)<N.size
      .go_wp2
       go_ret
       exact ⟨ret_bool HZ.out.symm,HB3.out⟩
      .by_cases qC:(64:Int)<V.size
       .go_wp2
        go_ret
        exact ⟨ret_bool HZ.out.symm,HB3.out⟩
       .go_wp2
        go_ret
        exact ⟨ret_bool HZ.out.symm,HB3.out⟩
    .rw [HK0.out hd] at hlk
     have hlk':(Instr.lookup 223 (.map (some b)) (.string (lowS N)) false).run Tryz.prog w2=.ok (.int .i64 0) w2:=hlk
     obtain ⟨w3,hup,hm3,hf3⟩:=hm2.update (T:=223) (E:=3) (strLaw Tryz.underlying9) Tryz.underlying223 (lowS N) (.int .i64 1)
     have hup':(Instr.mapUpdate 223 (.map (some b)) (.string (lowS N)) (.int .i64 1)).run Tryz.prog w2=.ok () w3:=hup
     have hlk3:=hm3.lookup (T:=223) (E:=3) (strLaw Tryz.underlying9) Tryz.underlying223 (zint' w3) (lowS N) false
     rw [mget_put,if_pos rfl] at hlk3
     have hlk3':(Instr.lookup 223 (.map (some b)) (.string (lowS N)) false).run Tryz.prog w3=.ok (.int .i64 1) w3:=hlk3
     have hk3:=hk2.fr hf3 (fun e=>absurd e.symm (hm2.ne hk2))
     have HB3:Hid (Below w.heap.size w w3):=hid ((Fr.of_below hb2' |>.trans hf3 (G:=fun k=>k=b) (F:=fun k=>w.heap.size<=k) (fun k _ e=>by rw [e];exact HGE.out)).to_below (Nat.le_refl _) (fun _ h=>h))
     have HM3:Hid (MapIs w3 b strKey (knownK (l.take (j+1)))):=hid (by rw [HKN.out hd] at hm3;exact hm3)
     have c0:=hk3.cell 0
     have c1:=hk3.cell 1
     have c2:=hk3.cell 2
     have HD:=hid hd
     clear hlk hup hlk3 hk1 hk2 hk3 hf1 hf2 hf3 hb1 hb2 hb2' hm2 hm3 hd
     have qA:N=⟨#[]⟩\/N≠⟨#[]⟩:=by by_cases h:N=⟨#[]⟩ <;> simp [h]
     rcases qA with qA|qA
     .have HZ:=hid (HNO.out (HP1.out qA))
      subst qA
      go_wp2
      go_ret
      exact ⟨ret_bool HZ.out.symm,HB3.out⟩
     .have qe:=emp_no qA
      have HQ:=hid qA
      clear qA
      by_cases qB:(64:Int)<N.size
      .have HZ:=hid (HNO.out (HP2.out (by omega)))
       go_wp2
       go_ret
       exact ⟨ret_bool HZ.out.symm,HB3.out⟩
      .by_cases qC:(64:Int)<V.size
       .have HZ:=hid (HNO.out (HP3.out (by omega)))
        go_wp2
        go_ret
        exact ⟨ret_bool HZ.out.symm,HB3.out⟩
       .have HOKK:=hid (fun q=>HNX.out (HP5.out HQ.out (by omega) (by omega) q) HD.out)
        cases hs with
        | true =>
          have HX:=hid (HOKK.out (.inl rfl))
          go_wp2
          go_roundw
          case rel=>exact ⟨j+1,by omega,by go_num,HM3.out,HX.out,HB3.out,HGE.out⟩
          case measure=>simp [intOf] <;> omega
        | false =>
          by_cases qV:V=⟨#[]⟩
          .have HX:=hid (HOKK.out (.inr qV))
           subst qV
           go_wp2
           go_roundw
           case rel=>exact ⟨j+1,by omega,by go_num,HM3.out,HX.out,HB3.out,HGE.out⟩
           case measure=>simp [intOf] <;> omega
          .have HZ:=hid (HNO.out (HP4.out rfl qV))
           have qe2:=emp_no qV
           clear qV
           go_wp2
           go_ret
           exact ⟨ret_bool HZ.out.symm,HB3.out⟩
   .have x1:¬(j:Int)<l.length:=by omega
    have HX:=hid (hR.ok.end_ (by omega) H16.out)
    have HB:=hid hR.be
    clear hR
    go_wp2
    go_ret
    exact ⟨ret_bool HX.out.symm,by have q:=HB.out;first|exact q|(rw [HBB.out] at q;exact q)⟩
def NoneTo (l:List Par) (n:T) (k:Nat):Prop:=n∉(l.take k).map fun p=>low p.name
theorem none_step {l:List Par} {n:T} {k:Nat} (h:NoneTo l n k) (hk:k<l.length) (a:low l[k].name≠n):NoneTo l n (k+1):=by
 unfold NoneTo at *
 rw [List.take_succ_eq_append_getElem hk,List.map_append,List.mem_append,not_or]
 refine ⟨h,?_⟩
 simp
 exact fun e=>a e.symm
theorem none_hit {l:List Par} {j k:Nat} (hj:j<l.length) (hk:k<j) (a:low l[k].name=low l[j].name):listB l=false:=by
 refine list_dup hj ?_
 rw [<-a]
 refine List.mem_map.2 ⟨l[k],?_,rfl⟩
 rw [List.mem_take_iff_getElem]
 exact ⟨k,by omega,rfl⟩
set_option maxRecDepth 100000 in
set_option maxHeartbeats 4000000 in
theorem rList_any {l:List Par} {A:Option Addr} {c B:Nat} {w:World} (hB:B<=w.heap.size) (hr:RdB w B 3 l.length A (rows parC l)) (hl:l.length<=maxLen) (hs:∀ p∈l,parS p) :
 Calls Tryz.prog 111 #[.slice A l.length c] w fun e w'=>e=.returned (.bool (listB l))/\Below w.heap.size w w':=by
 unfold maxLen at hl
 by_cases h16:16<l.length
 .have HX:=hid (list_long h16)
  have z2:(16:Int)<l.length:=by omega
  go_enter Tryz.func111,Tryz.ntmps111
  go_wp2
  go_ret
  exact ⟨ret_bool HX.out.symm,Below.refl _ _⟩
 .have z2:¬(16:Int)<l.length:=by omega
  have HR:=hid hr
  have HS:=hid hs
  have H16:Hid (l.length<=16):=hid (by omega)
  have H0:=hid (ListOk.zero l)
  clear hr hs
  go_enter Tryz.func111,Tryz.ntmps111
  go_wp2
  go_loopw [3] (fun i wr=>∃ j:Nat,j<=l.length/\i=.int .i64 j/\ListOk l j/\Below w.heap.size w wr) (fun i _=>l.length-(intOf i).toNat)
  case atStart=>exact ⟨0,by omega,rfl,H0.out,Below.refl _ _⟩
  case round =>
   obtain ⟨j,hj,rfl,hO,hb⟩:=hrel
   have HO:=hid hO
   have HB:=hid hb
   have hsz:=hb.size
   by_cases hlt:j<l.length
   .have x0:(0:Int)<=j:=by omega
    have x1:(j:Int)<l.length:=by omega
    have HRR:=hid (HR.out.below (hb.mono hB))
    obtain ⟨gb,off,rfl,hgb,zc0,zc1,zc2⟩:=PrmB.at_ HRR.out hlt
    have hNs:=HS.out _ (List.getElem_mem hlt)
    have HNO:=hid (fun q=>list_bad hlt q)
    have HHIT:=hid (fun k hk q=>none_hit (k:=k) hlt hk q)
    have HNX:=hid (fun a b=>HO.out.step hlt a b)
    have HP1:Hid (l[j].name=[]->parOk l[j]=false):=hid par_name0
    have HP2:Hid (64<l[j].name.length->parOk l[j]=false):=hid par_name64
    have HP3:Hid (64<l[j].value.length->parOk l[j]=false):=hid par_val64
    have HP4:Hid (l[j].has=false->l[j].value≠[]->parOk l[j]=false):=hid par_has
    have HP5:Hid (l[j].name≠[]->¬64<l[j].name.length->¬64<l[j].value.length->(l[j].has=true\/l[j].value=[])->parOk l[j]=true):=hid par_good
    have HNM:Hid (low l[j].name=low (str l[j].name).data.toList):=hid rfl
    have hNl:l[j].name=(str l[j].name).data.toList:=rfl
    have hVl:l[j].value=(str l[j].value).data.toList:=rfl
    have hNz:(str l[j].name).size<=140737488351232:=hNs.1
    have hVz:(str l[j].value).size<=140737488351232:=hNs.2
    generalize parOk l[j]=po at *
    generalize low l[j].name=ln at *
    generalize l[j].has=hs at *
    generalize str l[j].name=N at *
    generalize str l[j].value=V at *
    have qN:l[j].name.length=N.size:=by rw [hNl];simp
    have qV:l[j].value.length=V.size:=by rw [hVl];simp
    have q0:l[j].name=[]<->N.size=0:=by rw [<-qN,List.length_eq_zero_iff]
    have q1:l[j].value=[]<->V=⟨#[]⟩:=by rw [hVl];exact nil_iff V
    rw [q0] at HP1
    rw [qN] at HP2
    rw [qV] at HP3
    rw [ne_eq,q1] at HP4
    rw [ne_eq,q0,qN,qV,q1] at HP5
    clear qN qV q0 q1 hNl hVl hNs hO hb
    obtain ⟨w1,hw1⟩:∃ w1,wr.alloc (.cells #[.string N,.string V,.bool hs] 95)=w1:=⟨_,rfl⟩
    have hk1:Blk w1 wr.heap.size 95 #[.string N,.string V,.bool hs]:=hw1▸Blk.new wr _ _
    have hb1:Below wr.heap.size wr w1:=hw1▸(Below.refl _ _).alloc (Nat.le_refl _) _
    have hlt1:=hk1.lt
    have HBB1:Hid (Below w.heap.size w (wr.alloc (.cells #[.string N,.string V,.bool hs] 95))):=hid (hw1▸HB.out.trans (hb1.mono hsz))
    have HW1:=hid hw1
    have HWS:Hid (w.heap.size<=w1.heap.size/\B<=w1.heap.size/\wr.heap.size<=w1.heap.size):=hid (by have:=hb1.size;omega)
    have HR1:=hid (HRR.out.below (hb1.mono (by omega)))
    have HK1:=hid hk1
    clear hk1 hb1 hw1
    obtain ⟨g,hg⟩:∃ g,wr.heap.size=g:=⟨_,rfl⟩
    rw [hg] at hlt1 HK1
    by_cases qA:N.size=0
    .have HX:=hid (HNO.out (HP1.out qA))
     have y1:(N.size:Int)<1:=by omega
     go_wp2
     go_ret
     exact ⟨ret_bool HX.out.symm,HBB1.out⟩
    .have y1:¬(N.size:Int)<1:=by omega
     by_cases qB:(64:Int)<N.size
     .have HX:=hid (HNO.out (HP2.out (by omega)))
      go_wp2
      go_ret
      exact ⟨ret_bool HX.out.symm,HBB1.out⟩
     .by_cases qC:(64:Int)<V.size
      .have HX:=hid (HNO.out (HP3.out (by omega)))
       go_wp2
       go_ret
       exact ⟨ret_bool HX.out.symm,HBB1.out⟩
      .have qD:(hs=false/\V≠⟨#[]⟩)\/(hs=true\/V=⟨#[]⟩):=by
        cases hs with
        | true=>exact .inr (.inl rfl)
        | false =>
          by_cases h:V=⟨#[]⟩
          .exact .inr (.inr h)
          .exact .inl ⟨rfl,h⟩
       rcases qD with ⟨rfl,qD⟩|qD
       .have HX:=hid (HNO.out (HP4.out rfl qD))
        have qe2:=emp_no qD
        clear qD
        go_wp2
        go_ret
        exact ⟨ret_bool HX.out.symm,HBB1.out⟩
       .have HOKK:=hid (HP5.out qA (by omega) (by omega) qD)
        have HN0:Hid (NoneTo l ln 0):=hid (by simp [NoneTo])
        have HCELL:Hid (∀ W,Below w1.heap.size w1 W->W.cell? ⟨g,0,none⟩=some (.string N)):=hid (fun W h=>by
         rw [h.cell (p:=⟨g,0,none⟩) hlt1]
         exact HK1.out.cell 0)
        have qE:hs=true\/hs=false/\V=⟨#[]⟩:=by
         cases hs with
         | true=>exact .inl rfl
         | false=>exact .inr ⟨rfl,by rcases qD with h|h;cases h;exact h⟩
        clear qD
        have hNz64:N.size<=64:=by omega
        rcases qE with rfl|⟨rfl,rfl⟩
        all_goals
         have HBB2:Hid (Below w.heap.size w w1):=hid (by have q:=HBB1.out;rw [HW1.out] at q;exact q)
         go_wp2
         rw [HW1.out]
         go_loopw [5] (fun i wi=>∃ k:Nat,k<=j/\i=.int .i64 k/\NoneTo l ln k/\Below w1.heap.size w1 wi) (fun i _=>j-(intOf i).toNat)
         case atStart=>exact ⟨0,by omega,rfl,HN0.out,Below.refl _ _⟩
         case round =>
          obtain ⟨k,hk,rfl,hN,hbi⟩:=hrel
          have HNT:=hid hN
          have HBI:=hid hbi
          have hszi:=hbi.size
          have hws:=HWS.out
          have HBW:=hid (HBB2.out.trans (hbi.mono hws.1))
          by_cases hkj:k<j
          .have y2:(k:Int)<j:=by omega
           have y3:(0:Int)<=k:=by omega
           have y4:(k:Int)<l.length:=by omega
           have hkl:k<l.length:=by omega
           obtain ⟨gb2,off2,hA2,hgb2,d0,_,_⟩:=PrmB.at_ (HR1.out.below (hbi.mono (by omega))) hkl
           obtain ⟨rfl,rfl⟩:gb=gb2/\off=off2:=by simpa using hA2
           have cN:=HCELL.out wr hbi
           have HH:=hid (HHIT.out k hkj)
           have HST:=hid (fun q=>none_step hN hkl q)
           have hMs:=(HS.out _ (List.getElem_mem hkl)).1
           have HEQ:Hid (sameS (str l[k].name) N=decide (low l[k].name=ln)):=hid (by rw [HNM.out];rfl)
           have hMz:(str l[k].name).size<=140737488351232:=hMs
           generalize str l[k].name=M at *
           generalize low l[k].name=lm at *
           have HSS:Hid (∀ W,Below wr.heap.size wr W->W.cell? ⟨gb,off+k*3,none⟩=some (.string M)/\W.cell? ⟨g,0,none⟩=some (.string N)):=hid (fun W h=>⟨by rw [h.cell (p:=⟨gb,off+k*3,none⟩) (by show gb<_;omega)];exact d0,by rw [h.cell (p:=⟨g,0,none⟩) (by show g<_;omega)];exact cN⟩)
           clear hN hbi hMs hA2
           go_wp2_with fail
           go_region_held3 (fun w'=>w'.cell? ⟨gb,off+k*3,none⟩=some (.string M)/\w'.cell? ⟨g,0,none⟩=some (.string N))
            (first|exact HSS.out _ (Below.refl _ _)|exact HSS.out _ (Below.refl _ _).drew|exact HSS.out _ ((Below.refl _ _).drew.trans hbc))
            (first|(go_at_call 132;(with_reducible refine (rSame_any _ _ _ hMz (by omega)).mono ?_);rintro e wc ⟨rfl,hbc⟩))
           rw [HEQ.out]
           have HBC:=hid (HBI.out.trans (((Below.refl _ _).drew.trans hbc).mono hszi))
           have HBC2:=hid (HBW.out.trans (((Below.refl _ _).drew.trans hbc).mono (Nat.le_trans HWS.out.1 hszi)))
           clear hbc
           by_cases hq:lm=ln
           .have HX:=hid (HH.out hq)
            rw [decide_eq_true hq]
            go_wp2
            go_ret
            exact ⟨ret_bool HX.out.symm,HBC2.out⟩
           .have HX:=hid (HST.out hq)
            rw [decide_eq_false hq]
            clear hq
            go_wp2
            go_roundw
            case rel=>exact ⟨k+1,by omega,by go_num,HX.out,HBC.out⟩
            case measure=>simp [intOf] <;> omega
          .have y2:¬(k:Int)<j:=by omega
           have HX:Hid (ListOk l (j+1)):=hid (HNX.out HOKK.out (by have q:=HNT.out;unfold NoneTo at q;rw [show k=j by omega] at q;exact q))
           clear hN hbi
           go_wp2
           go_roundw
           case rel=>exact ⟨j+1,by omega,by go_num,HX.out,HBW.out⟩
           case measure=>simp [intOf] <;> omega
   .have x1:¬(j:Int)<l.length:=by omega
    have HX:=hid (HO.out.end_ (by omega) H16.out)
    clear hO hb
    go_wp2
    go_ret
    exact ⟨ret_bool HX.out.symm,HB.out⟩
theorem chk1 {u:Uri} (h:schemeB u.scheme=false):checkE u=30:=if_pos h
theorem chk2 {u:Uri} (h:schemeB u.scheme=true) (h2:64<u.user.length):checkE u=31:=by unfold checkE;rw [if_neg (by rw [h];simp),if_pos h2]
theorem chk3 {u:Uri} (h:schemeB u.scheme=true) (h2:¬64<u.user.length) (h3:hostB u.host=false):checkE u=32:=by unfold checkE;rw [if_neg (by rw [h];simp),if_neg h2,if_pos h3]
theorem chk4 {u:Uri} (h:schemeB u.scheme=true) (h2:¬64<u.user.length) (h3:hostB u.host=true) (h4:u.port<0\/65535<u.port):checkE u=33:=by unfold checkE;rw [if_neg (by rw [h];simp),if_neg h2,if_neg (by rw [h3];simp),if_pos h4]
theorem chk5 {u:Uri} (h:schemeB u.scheme=true) (h2:¬64<u.user.length) (h3:hostB u.host=true) (h4:¬(u.port<0\/65535<u.port)) (h5:listB u.params=false):checkE u=34:=by unfold checkE;rw [if_neg (by rw [h];simp),if_neg h2,if_neg (by rw [h3];simp),if_neg h4,if_pos h5]
theorem chk6 {u:Uri} (h:schemeB u.scheme=true) (h2:¬64<u.user.length) (h3:hostB u.host=true) (h4:¬(u.port<0\/65535<u.port)) (h5:listB u.params=true) (h6:listB u.headers=false):checkE u=34:=by unfold checkE;rw [if_neg (by rw [h];simp),if_neg h2,if_neg (by rw [h3];simp),if_neg h4,if_neg (by rw [h5];simp),if_pos h6]
theorem chk7 {u:Uri} (h:schemeB u.scheme=true) (h2:¬64<u.user.length) (h3:hostB u.host=true) (h4:¬(u.port<0\/65535<u.port)) (h5:listB u.params=true) (h6:listB u.headers=true):checkE u=if u.headers.all (·.has)=false then 34 else 0:=by unfold checkE;rw [if_neg (by rw [h];simp),if_neg h2,if_neg (by rw [h3];simp),if_neg h4,if_neg (by rw [h5];simp),if_neg (by rw [h6];simp)]
def HasTo (l:List Par) (j:Nat):Prop:=(l.take j).all (·.has)=true
theorem has_step {l:List Par} {j:Nat} (h:HasTo l j) (hj:j<l.length) (a:l[j].has=true):HasTo l (j+1):=by
 unfold HasTo at *
 rw [List.take_succ_eq_append_getElem hj,List.all_append,h]
 simp [a]
theorem has_no {l:List Par} {j:Nat} (hj:j<l.length) (a:l[j].has=false):(if l.all (·.has)=false then (34:Int) else 0)=34:=if_pos (List.all_eq_false.2 ⟨l[j],List.getElem_mem hj,by rw [a];simp⟩)
theorem has_end {l:List Par} {j:Nat} (h:HasTo l j) (hj:j=l.length):(if l.all (·.has)=false then (34:Int) else 0)=0:=by
 unfold HasTo at h
 rw [List.take_of_length_le (by omega)] at h
 exact if_neg (by rw [h];simp)
def CheckPost (u:Uri) (w:World) (e:Ending) (w':World):Prop:=e=.returned (.int .i64 (checkE u))/\Below w.heap.size w w'
set_option maxRecDepth 100000 in
set_option maxHeartbeats 4000000 in
theorem Check_any {u:Uri} {vp vh:Value} {B:Nat} {w:World} (hB:B<=w.heap.size) (hp:PrmB w B vp u.params) (hh:PrmB w B vh u.headers) (hs:UriS u) :
 Calls Tryz.prog 103 #[uriV u vp vh] w (CheckPost u w):=by
 obtain ⟨Ap,cp,rfl,hp⟩:=hp
 obtain ⟨Ah,ch,rfl,hh⟩:=hh
 have HP:=hid hp
 have HH:=hid hh
 have HS:=hid hs
 have z1:=hs.params
 have z2:=hs.headers
 have z3:=hs.user
 have z4:=hs.host
 have z5:=hs.port
 clear hp hh hs
 unfold uriV
 obtain ⟨w0,hw0⟩:∃ w0,w.alloc (.cells #[.string (str u.scheme),.string (str u.user),.string (str u.host),.int .i64 u.port,.slice Ap u.params.length cp,.slice Ah u.headers.length ch] 32)=w0:=⟨_,rfl⟩
 have hk:Blk w0 w.heap.size 32 #[.string (str u.scheme),.string (str u.user),.string (str u.host),.int .i64 u.port,.slice Ap u.params.length cp,.slice Ah u.headers.length ch]:=hw0▸Blk.new w _ _
 have HB0:Hid (Below w.heap.size w w0):=hid (hw0▸(Below.refl _ _).alloc (Nat.le_refl _) _)
 have HG:Hid (w.heap.size<w0.heap.size):=hid hk.lt
 obtain ⟨g,hg⟩:∃ g,w.heap.size=g:=⟨_,rfl⟩
 have HK:=hid hk
 have k0:=hk.cell 0
 have k1:=hk.cell 1
 have k2:=hk.cell 2
 have qs:schemeB (str u.scheme).data.toList=schemeB u.scheme:=rfl
 have qh:hostB (str u.host).data.toList=hostB u.host:=rfl
 have qu:(str u.user).size=u.user.length:=rfl
 have qhs:(str u.host).size=u.host.length:=rfl
 have HGE:=hid hg
 clear hk
 rw [hg] at k0 k1 k2 HK HB0
 cases c1:schemeB u.scheme with
 | false =>
   have HX:=hid (chk1 c1)
   rw [c1] at qs
   go_enter Tryz.func103,Tryz.ntmps103
   go_wp2_with fail
   refine (Scheme_any _ w0).mono ?_
   rintro e w' ⟨rfl,rfl⟩
   rw [qs]
   go_wp2
   go_ret
   exact ⟨ret_int HX.out.symm,by have q:=HB0.out;rw [HGE.out];exact q⟩
 | true =>
   rw [c1] at qs
   by_cases c2:64<u.user.length
   .have HX:=hid (chk2 c1 c2)
    have x2:(64:Int)<(str u.user).size:=by omega
    clear c1
    go_enter Tryz.func103,Tryz.ntmps103
    go_wp2_with fail
    refine (Scheme_any _ w0).mono ?_
    rintro e w' ⟨rfl,rfl⟩
    rw [qs]
    go_wp2
    go_ret
    exact ⟨ret_int HX.out.symm,by have q:=HB0.out;rw [HGE.out];exact q⟩
   .have x2:¬(64:Int)<(str u.user).size:=by omega
    go_enter Tryz.func103,Tryz.ntmps103
    go_wp2_with fail
    refine (Scheme_any _ w0).mono ?_
    rintro e w' ⟨rfl,rfl⟩
    rw [qs]
    have HC1:=hid c1
    clear c1
    go_wp2_with fail
    refine (Host_any _ w0 (by omega)).mono ?_
    rintro e w1 ⟨rfl,hb1⟩
    rw [qh]
    have hk1:=HK.out.fr (Fr.of_below (F:=fun _=>False) hb1) (fun h=>h)
    have HB1:=hid (HB0.out.trans (hb1.mono (by rw [<-HGE.out];exact Nat.le_of_lt HG.out)))
    have HP1:=hid ((HP.out.below ((HB0.out.mono (by rw [<-HGE.out];exact hB)))).below (hb1.mono (by have:=HG.out;omega)))
    have HH1:=hid ((HH.out.below ((HB0.out.mono (by rw [<-HGE.out];exact hB)))).below (hb1.mono (by have:=HG.out;omega)))
    have hs1:=hb1.size
    have hlt1:g<w1.heap.size:=hk1.lt
    have HK1:=hid hk1
    have k3:=hk1.cell 3
    have k4:=hk1.cell 4
    clear k0 k1 k2 hk1 hb1
    cases c3:hostB u.host with
    | false =>
      have HX:=hid (chk3 HC1.out c2 c3)
      go_wp2
      go_ret
      exact ⟨ret_int HX.out.symm,by have q:=HB1.out;rw [HGE.out];exact q⟩
    | true =>
      have HC3:=hid c3
      clear c3
      by_cases c4:u.port<0
      .have HX:=hid (chk4 HC1.out c2 HC3.out (.inl c4))
       go_wp2
       go_ret
       exact ⟨ret_int HX.out.symm,by have q:=HB1.out;rw [HGE.out];exact q⟩
      .by_cases c5:65535<u.port
       .have HX:=hid (chk4 HC1.out c2 HC3.out (.inr c5))
        go_wp2
        go_ret
        exact ⟨ret_int HX.out.symm,by have q:=HB1.out;rw [HGE.out];exact q⟩
       .have HC4:Hid (¬(u.port<0\/65535<u.port)):=hid (by omega)
        go_wp2_with fail
        refine (list_any (B:=B) (by omega) HP1.out (by unfold maxLen;omega) HS.out.par).mono ?_
        rintro e w2 ⟨rfl,hb2⟩
        have hk2:=HK1.out.fr (Fr.of_below (F:=fun _=>False) hb2) (fun h=>h)
        have HB2:=hid (HB1.out.trans (hb2.mono (by omega)))
        have HH2:=hid (HH1.out.below (hb2.mono (by omega)))
        have hs2:=hb2.size
        have HK2:=hid hk2
        have k5:=hk2.cell 5
        clear k3 k4 hk2 hb2
        cases c6:listB u.params with
        | false =>
          have HX:=hid (chk5 HC1.out c2 HC3.out HC4.out c6)
          go_wp2
          go_ret
          exact ⟨ret_int HX.out.symm,by have q:=HB2.out;rw [HGE.out];exact q⟩
        | true =>
          have HC6:=hid c6
          clear c6
          go_wp2_with fail
          refine (list_any (B:=B) (by omega) HH2.out (by unfold maxLen;omega) HS.out.hdr).mono ?_
          rintro e w3 ⟨rfl,hb3⟩
          have hk3:=HK2.out.fr (Fr.of_below (F:=fun _=>False) hb3) (fun h=>h)
          have HB3:=hid (HB2.out.trans (hb3.mono (by omega)))
          have HH3:=hid (HH2.out.below (hb3.mono (by omega)))
          have hs3:=hb3.size
          have k5':=hk3.cell 5
          clear k5 hk3 hb3
          cases c7:listB u.headers with
          | false =>
            have HX:=hid (chk6 HC1.out c2 HC3.out HC4.out HC6.out c7)
            go_wp2
            go_ret
            exact ⟨ret_int HX.out.symm,by have q:=HB3.out;rw [HGE.out];exact q⟩
          | true =>
            have HC7:=hid (chk7 HC1.out c2 HC3.out HC4.out HC6.out c7)
            clear c7
            go_wp2
            go_loopw [42] (fun i wr=>∃ j:Nat,j<=u.headers.length/\i=.int .i64 j/\HasTo u.headers j/\Below w3.heap.size w3 wr) (fun i _=>u.headers.length-(intOf i).toNat)
            case atStart=>exact ⟨0,by omega,rfl,by simp [HasTo],Below.refl _ _⟩
            case round =>
             obtain ⟨j,hj,rfl,hA,hbr⟩:=hrel
             have HA:=hid hA
             have HBR:=hid hbr
             have hsr:=hbr.size
             have HBF:=hid (HB3.out.trans (hbr.mono (by omega)))
             clear hA
             by_cases hlt:j<u.headers.length
             .have x0:(0:Int)<=j:=by omega
              have x1:(j:Int)<u.headers.length:=by omega
              obtain ⟨gb,off,rfl,hgb,zc0,zc1,zc2⟩:=PrmB.at_ (HH3.out.below (hbr.mono (by omega))) hlt
              clear hbr
              have HNO:=hid (fun q=>has_no hlt q)
              have HYES:=hid (fun q=>has_step HA.out hlt q)
              have HBN:Hid (∀ o,Below w3.heap.size w3 (wr.alloc o)):=hid (fun o=>HBR.out.alloc hsr o)
              have HBM:Hid (∀ o,Below g w (wr.alloc o)):=hid (fun o=>HBF.out.alloc (by omega) o)
              cases hhas:u.headers[j].has with
              | false =>
                rw [hhas] at zc2
                have HX:=hid (HC7.out.trans (HNO.out hhas))
                clear hhas
                go_wp2
                go_ret
                exact ⟨ret_int HX.out.symm,by rw [HGE.out];exact HBM.out _⟩
              | true =>
                rw [hhas] at zc2
                have HX:=hid (HYES.out hhas)
                clear hhas
                go_wp2
                go_roundw
                case rel=>exact ⟨j+1,by omega,by go_num,HX.out,HBN.out _⟩
                case measure=>simp [intOf] <;> omega
             .have x1:¬(j:Int)<u.headers.length:=by omega
              have HX:=hid (HC7.out.trans (has_end HA.out (by omega)))
              clear hbr
              go_wp2
              go_ret
              exact ⟨ret_int HX.out.symm,by rw [HGE.out];exact HBF.out⟩
set_option maxRecDepth 100000 in
set_option maxHeartbeats 4000000 in
theorem rCheck_any {u:Uri} {vp vh:Value} {B:Nat} {w:World} (hB:B<=w.heap.size) (hp:PrmB w B vp u.params) (hh:PrmB w B vh u.headers) (hs:UriS u) :
 Calls Tryz.prog 78 #[uriV u vp vh] w (CheckPost u w):=by
 obtain ⟨Ap,cp,rfl,hp⟩:=hp
 obtain ⟨Ah,ch,rfl,hh⟩:=hh
 have HP:=hid hp
 have HH:=hid hh
 have HS:=hid hs
 have z1:=hs.params
 have z2:=hs.headers
 have z3:=hs.user
 have z4:=hs.host
 have z5:=hs.port
 clear hp hh hs
 unfold uriV
 obtain ⟨w0,hw0⟩:∃ w0,w.alloc (.cells #[.string (str u.scheme),.string (str u.user),.string (str u.host),.int .i64 u.port,.slice Ap u.params.length cp,.slice Ah u.headers.length ch] 32)=w0:=⟨_,rfl⟩
 have hk:Blk w0 w.heap.size 32 #[.string (str u.scheme),.string (str u.user),.string (str u.host),.int .i64 u.port,.slice Ap u.params.length cp,.slice Ah u.headers.length ch]:=hw0▸Blk.new w _ _
 have HB0:Hid (Below w.heap.size w w0):=hid (hw0▸(Below.refl _ _).alloc (Nat.le_refl _) _)
 have HG:Hid (w.heap.size<w0.heap.size):=hid hk.lt
 obtain ⟨g,hg⟩:∃ g,w.heap.size=g:=⟨_,rfl⟩
 have HK:=hid hk
 have k0:=hk.cell 0
 have k1:=hk.cell 1
 have k2:=hk.cell 2
 have qs:schemeB (str u.scheme).data.toList=schemeB u.scheme:=rfl
 have qh:hostB (str u.host).data.toList=hostB u.host:=rfl
 have qu:(str u.user).size=u.user.length:=rfl
 have qhs:(str u.host).size=u.host.length:=rfl
 have HGE:=hid hg
 clear hk
 rw [hg] at k0 k1 k2 HK HB0
 cases c1:schemeB u.scheme with
 | false =>
   have HX:=hid (chk1 c1)
   rw [c1] at qs
   go_enter Tryz.func78,Tryz.ntmps78
   go_wp2_with fail
   refine (rScheme_any _ w0).mono ?_
   rintro e w' ⟨rfl,rfl⟩
   rw [qs]
   go_wp2
   go_ret
   exact ⟨ret_int HX.out.symm,by have q:=HB0.out;rw [HGE.out];exact q⟩
 | true =>
   rw [c1] at qs
   by_cases c2:64<u.user.length
   .have HX:=hid (chk2 c1 c2)
    have x2:(64:Int)<(str u.user).size:=by omega
    clear c1
    go_enter Tryz.func78,Tryz.ntmps78
    go_wp2_with fail
    refine (rScheme_any _ w0).mono ?_
    rintro e w' ⟨rfl,rfl⟩
    rw [qs]
    go_wp2
    go_ret
    exact ⟨ret_int HX.out.symm,by have q:=HB0.out;rw [HGE.out];exact q⟩
   .have x2:¬(64:Int)<(str u.user).size:=by omega
    go_enter Tryz.func78,Tryz.ntmps78
    go_wp2_with fail
    refine (rScheme_any _ w0).mono ?_
    rintro e w' ⟨rfl,rfl⟩
    rw [qs]
    have HC1:=hid c1
    clear c1
    go_wp2_with fail
    refine (rHost_any _ w0 (by omega)).mono ?_
    rintro e w1 ⟨rfl,hb1⟩
    rw [qh]
    have hk1:=HK.out.fr (Fr.of_below (F:=fun _=>False) hb1) (fun h=>h)
    have HB1:=hid (HB0.out.trans (hb1.mono (by rw [<-HGE.out];exact Nat.le_of_lt HG.out)))
    have HP1:=hid ((HP.out.below ((HB0.out.mono (by rw [<-HGE.out];exact hB)))).below (hb1.mono (by have:=HG.out;omega)))
    have HH1:=hid ((HH.out.below ((HB0.out.mono (by rw [<-HGE.out];exact hB)))).below (hb1.mono (by have:=HG.out;omega)))
    have hs1:=hb1.size
    have hlt1:g<w1.heap.size:=hk1.lt
    have HK1:=hid hk1
    have k3:=hk1.cell 3
    have k4:=hk1.cell 4
    clear k0 k1 k2 hk1 hb1
    cases c3:hostB u.host with
    | false =>
      have HX:=hid (chk3 HC1.out c2 c3)
      go_wp2
      go_ret
      exact ⟨ret_int HX.out.symm,by have q:=HB1.out;rw [HGE.out];exact q⟩
    | true =>
      have HC3:=hid c3
      clear c3
      by_cases c4:u.port<0
      .have HX:=hid (chk4 HC1.out c2 HC3.out (.inl c4))
       go_wp2
       go_ret
       exact ⟨ret_int HX.out.symm,by have q:=HB1.out;rw [HGE.out];exact q⟩
      .by_cases c5:65535<u.port
       .have HX:=hid (chk4 HC1.out c2 HC3.out (.inr c5))
        go_wp2
        go_ret
        exact ⟨ret_int HX.out.symm,by have q:=HB1.out;rw [HGE.out];exact q⟩
       .have HC4:Hid (¬(u.port<0\/65535<u.port)):=hid (by omega)
        go_wp2_with fail
        refine (rList_any (B:=B) (by omega) HP1.out (by unfold maxLen;omega) HS.out.par).mono ?_
        rintro e w2 ⟨rfl,hb2⟩
        have hk2:=HK1.out.fr (Fr.of_below (F:=fun _=>False) hb2) (fun h=>h)
        have HB2:=hid (HB1.out.trans (hb2.mono (by omega)))
        have HH2:=hid (HH1.out.below (hb2.mono (by omega)))
        have hs2:=hb2.size
        have HK2:=hid hk2
        have k5:=hk2.cell 5
        clear k3 k4 hk2 hb2
        cases c6:listB u.params with
        | false =>
          have HX:=hid (chk5 HC1.out c2 HC3.out HC4.out c6)
          go_wp2
          go_ret
          exact ⟨ret_int HX.out.symm,by have q:=HB2.out;rw [HGE.out];exact q⟩
        | true =>
          have HC6:=hid c6
          clear c6
          go_wp2_with fail
          refine (rList_any (B:=B) (by omega) HH2.out (by unfold maxLen;omega) HS.out.hdr).mono ?_
          rintro e w3 ⟨rfl,hb3⟩
          have hk3:=HK2.out.fr (Fr.of_below (F:=fun _=>False) hb3) (fun h=>h)
          have HB3:=hid (HB2.out.trans (hb3.mono (by omega)))
          have HH3:=hid (HH2.out.below (hb3.mono (by omega)))
          have hs3:=hb3.size
          have k5':=hk3.cell 5
          have hlt3:=hk3.lt
          have hk3c:Hid (∀ W,Below w3.heap.size w3 W->W.cell? ⟨g,5,none⟩=some (.slice Ah u.headers.length ch)):=hid (fun W h=>by
           rw [h.cell (p:=⟨g,5,none⟩) hlt3]
           exact k5')
          clear k5 hk3 hb3
          cases c7:listB u.headers with
          | false =>
            have HX:=hid (chk6 HC1.out c2 HC3.out HC4.out HC6.out c7)
            go_wp2
            go_ret
            exact ⟨ret_int HX.out.symm,by have q:=HB3.out;rw [HGE.out];exact q⟩
          | true =>
            have k5l:=k5'
            have HC7:=hid (chk7 HC1.out c2 HC3.out HC4.out HC6.out c7)
            clear c7
            go_wp2
            go_loopw [3] (fun i wr=>∃ j:Nat,j<=u.headers.length/\i=.int .i64 j/\HasTo u.headers j/\Below w3.heap.size w3 wr) (fun i _=>u.headers.length-(intOf i).toNat)
            case atStart=>exact ⟨0,by omega,rfl,by simp [HasTo],Below.refl _ _⟩
            case round =>
             obtain ⟨j,hj,rfl,hA,hbr⟩:=hrel
             have HA:=hid hA
             have HBR:=hid hbr
             have hsr:=hbr.size
             have HBF:=hid (HB3.out.trans (hbr.mono (by omega)))
             clear hA
             by_cases hlt:j<u.headers.length
             .have x0:(0:Int)<=j:=by omega
              have x1:(j:Int)<u.headers.length:=by omega
              obtain ⟨gb,off,rfl,hgb,zc0,zc1,zc2⟩:=PrmB.at_ (HH3.out.below (hbr.mono (by omega))) hlt
              have k5r:=hk3c.out wr hbr
              clear hbr
              have HNO:=hid (fun q=>has_no hlt q)
              have HYES:=hid (fun q=>has_step HA.out hlt q)
              cases hhas:u.headers[j].has with
              | false =>
                rw [hhas] at zc2
                have HX:=hid (HC7.out.trans (HNO.out hhas))
                clear hhas
                go_wp2
                go_ret
                exact ⟨ret_int HX.out.symm,by rw [HGE.out];exact HBF.out⟩
              | true =>
                rw [hhas] at zc2
                have HX:=hid (HYES.out hhas)
                clear hhas
                go_wp2
                go_roundw
                case rel=>exact ⟨j+1,by omega,by go_num,HX.out,HBR.out⟩
                case measure=>simp [intOf] <;> omega
             .have x1:¬(j:Int)<u.headers.length:=by omega
              have k5r:=hk3c.out wr hbr
              have HX:=hid (HC7.out.trans (has_end HA.out (by omega)))
              clear hbr
              go_wp2
              go_ret
              exact ⟨ret_int HX.out.symm,by rw [HGE.out];exact HBF.out⟩
end Go.Proofs.YthkadehlclcggaaGreatDoor
