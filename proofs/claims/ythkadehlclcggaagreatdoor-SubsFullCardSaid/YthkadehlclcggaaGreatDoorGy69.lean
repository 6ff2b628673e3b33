/- Chapter 19: SubsFull. -/
import Derived.Test.YthkadehlclcggaaGreatDoorGy67
import Derived.Deep.RegionHeld3
namespace Go.Proofs.YthkadehlclcggaaGreatDoor
set_option linter.unusedSimpArgs false
set_option linter.unusedVariables false
open Go.RowKit
open Go.Lib (hid)
def numsT (k:Nat):List Int:=(List.range k).map fun j:Nat=>(j:Int)+1
theorem numsT_succ (k:Nat):numsT (k+1)=numsT k++[(k:Int)+1]:=by unfold numsT;rw [List.range_succ,List.map_append];rfl
theorem numsT_len (k:Nat):(numsT k).length=k:=by unfold numsT;simp
theorem numsT_mem {k:Nat} {n:Int}:n∈numsT k<->1<=n/\n<=k:=by
 unfold numsT
 rw [List.mem_map]
 constructor
 .rintro ⟨j,hj,rfl⟩
  rw [List.mem_range] at hj
  omega
 .rintro ⟨h1,h2⟩
  exact ⟨(n-1).toNat,by rw [List.mem_range];omega,by omega⟩
theorem numsT_nd (k:Nat):(numsT k).Nodup:=by
 unfold numsT
 rw [List.nodup_iff_pairwise_ne,List.pairwise_map]
 exact (List.nodup_iff_pairwise_ne.1 List.nodup_range).imp fun h=>by omega
theorem drop_nums {L:List SubP} {k:Nat} (h:L.map (·.number)=numsT (k+1)):hasS L 1=true/\hasS (dropS L 1) 1=false/\(dropS L 1).length=k/\dropS (dropS L 1) 1=dropS L 1:=by
 have hd:(dropS L 1).map (·.number)=(numsT (k+1)).filter fun n=>decide (n≠1):=by
  unfold dropS
  rw [<-h,List.filter_map]
  rfl
 refine ⟨?_,?_,?_,?_⟩
 .unfold hasS
  rw [h]
  exact decide_eq_true (numsT_mem.2 ⟨by omega,by omega⟩)
 .unfold hasS
  rw [hd]
  exact decide_eq_false (fun q=>by simpa using (List.mem_filter.1 q).2)
 .have e1:(dropS L 1).length=((dropS L 1).map (·.number)).length:=by simp
  rw [e1,hd]
  have hc:(numsT (k+1)).count 1=1:=by
   rw [(numsT_nd (k+1)).count,if_pos (numsT_mem.2 ⟨by omega,by omega⟩)]
  have h2:=List.length_eq_countP_add_countP (p:=fun n:Int=>decide (n≠1)) (l:=numsT (k+1))
  rw [numsT_len,List.countP_eq_length_filter] at h2
  have h3:List.countP (fun n:Int=>decide ¬(decide (n≠1))=true) (numsT (k+1))=(numsT (k+1)).count 1:=by
   unfold List.count
   congr 1
   funext n
   by_cases hn:n=1 <;> simp [hn]
  rw [h3,hc] at h2
  omega
 .unfold dropS
  rw [List.filter_filter]
  simp
theorem one_row {W:World} {g:Nat} {c:UInt8} (h:Blk W g 5 #[.int .u8 (c.toNat:Int)]):W.ownsRow 0 5 1 (.slice (some ⟨g,0,none⟩) 1 1) [c].length ([c].map B) :=
 ⟨rfl,.inr ⟨g,1,_,rfl,Nat.zero_le _,h,by simp,by unfold maxLen;omega,rfl,rfl⟩⟩
theorem tags_ok:∀ k:Fin 22,tokB [120,UInt8.ofNat (97+k.val)]=true/\addrE (tagged adrAB [120,UInt8.ofNat (97+k.val)])=0:=by decide +kernel
theorem tag_y:tokB [121]=true/\addrE (tagged adrAB [121])=0:=by decide +kernel
def fulR (m:Int) (last:Int) (L:List SubP) (k:Nat):SbR:=begS (plS m) last L 0 (reqT 1 [] 60) abT cdT 1 [120,UInt8.ofNat (97+k)]
structure FulI (m i:Nat) (last:Int) (L:List SubP):Prop where
 la:last=((min i m:Nat):Int)
 nu:L.map (·.number)=numsT (min i m)
theorem FulI.len {m i:Nat} {last:Int} {L:List SubP} (h:FulI m i last L):L.length=min i m:=by
 have:=congrArg List.length h.nu
 rw [numsT_len] at this
 simpa using this
theorem FulI.next {m i:Nat} {last:Int} {L:List SubP} (h:FulI m i last L) (hi:i<22) (hm:m<=20):FulI m (i+1) (fulR m last L i).last (fulR m last L i).L/\(i<m->(fulR m last L i).err=0/\(fulR m last L i).sub.number=(i:Int)+1)/\(m<=i->(fulR m last L i).err=5):=by
 obtain ⟨t1,t2⟩:=tags_ok ⟨i,hi⟩
 have hl:=h.len
 have ht:tickB 0=true:=rfl
 have hk:secK (plS m) 60=true:=rfl
 by_cases hlt:i<m
 .have hq:=begS_T (m:=m) (last:=last) (seq:=1) (L:=L) (st:=1) ht (.inr rfl) t1 t2 hk (by rw [hl];omega)
  have e:fulR m last L i=_:=hq
  rw [e]
  refine ⟨⟨?_,?_⟩,fun _=>⟨rfl,?_⟩,fun h=>by omega⟩
  .show last+1=_
   rw [h.la]
   omega
  .show (L++[lastsS (sT (last+1) 1 0 [] _) 0 _]).map (·.number)=_
   rw [List.map_append,h.nu,show min (i+1) m=min i m+1 by omega,numsT_succ]
   congr 1
   rw [List.map_singleton,lasts_num]
   show [last+1]=_
   rw [h.la]
  .show (lastsS (sT (last+1) 1 0 [] _) 0 _).number=_
   rw [lasts_num]
   show last+1=_
   rw [h.la]
   omega
 .have hq:=begS_full (m:=m) (last:=last) (seq:=1) (L:=L) (st:=1) ht (.inr rfl) t1 t2 hk (by rw [hl];omega)
  have e:fulR m last L i=_:=hq
  rw [e]
  refine ⟨⟨?_,?_⟩,fun h=>by omega,fun _=>rfl⟩
  .show last=_
   rw [h.la]
   omega
  .show L.map (·.number)=_
   rw [h.nu,show min (i+1) m=min i m by omega]
def FulCut (w:World) (p m:Nat) (R:SbR) (s6 s7:Value) (wx:World):Prop:=∃ g:Nat,s6=.pointer (some ⟨g,0,none⟩)/\s7=.int .i64 R.err/\wx.cell? ⟨g,0,none⟩=some (.int .i64 R.sub.number)/\TbX (fun k=>k<w.heap.size) wx p (plS m) R.last R.L/\Below w.heap.size w wx
set_option maxRecDepth 100000 in
set_option maxHeartbeats 16000000 in
theorem subsFull_any (n:Nat) (hn:n<=255) (w:World):Calls Tryz.prog 5 #[.int .u8 n] w (Awk19 w):=by
 have HAW:=hid awake19_any
 unfold Awk19 at HAW
 obtain ⟨m,hm⟩:∃ m:Nat,1+n % 20=m:=⟨_,rfl⟩
 have hm1:1<=m:=by omega
 have hm2:m<=20:=by omega
 have hmi:(1:Int)+(n:Int) % 20=m:=by omega
 have HMI:=hid hmi
 clear hm hmi
 have HPL:=hid (plain19_any m)
 have HBG:Hid (∀ W,Calls Tryz.prog 10 #[.agg #[.string ⟨#[]⟩,.int .i64 1,.int .i64 1,.int .i64 m,.int .i64 60,.int .i64 3600,.int .i64 600]] W (Bgn19 (plS m) W)):=hid (fun W=>begun19_any (c:=plS m) (plS_right (by omega) (by omega)) W)
 have HRQ:Hid (∀ W,Calls Tryz.prog 13 #[.int .i64 1,.string ⟨#[]⟩,.int .i64 60] W (RqPost (reqT 1 [] 60) W)):=hid (fun W=>request_any 1 60 [] W)
 unfold Bgn19 at HBG
 unfold RqPost at HRQ
 have hn':(n:Int)<=255:=by omega
 go_enter Tryz.func5,Tryz.ntmps5
 go_upto_region 2 with (fail)
 rw [HMI.out]
 clear hn hn'
 go_wp2_with fail
 refine (HPL.out _).mono ?_
 rintro e w1 ⟨rfl,hb1⟩
 have HB1:=hid hb1
 clear hb1
 go_wp2_with fail
 refine (HBG.out _).mono ?_
 rintro e w2 ⟨p,F,rfl,hst,hb2,hF⟩
 have HB2:=hid (thenB_ HB1.out hb2)
 have HT2:Hid (TbX (fun k=>k<w.heap.size) w2 p (plS m) 0 []):=hid (TbX.start hst (fun k hk=>Nat.le_trans HB1.out.size (hF k hk)) HB2.out.size)
 clear hst hb2 hF
 go_wp2_with fail
 go_loopw [5] (fun i wr=>∃ k:Nat,k<=m+2/\i=.int .i64 k/\∃ last L,FulI m k last L/\TbX (fun k=>k<w.heap.size) wr p (plS m) last L/\Below w.heap.size w wr) (fun i _=>m+2-(intOf i).toNat)
 case atStart=>exact ⟨0,by omega,rfl,0,[],⟨by simp,by simp [numsT]⟩,HT2.out,HB2.out⟩
 case round =>
  obtain ⟨k,hk,rfl,last,L,hI,hT,hB⟩:=hrel
  have HI:=hid hI
  have HT:=hid hT
  have HB:=hid hB
  clear hI hT hB
  by_cases hlt:k<m+2
  .have hk22:k<22:=by omega
   have HNX:=hid (HI.out.next hk22 hm2)
   have HLA:Hid (last<=1000000):=hid (by rw [HI.out.la];omega)
   have hkb:IntKind.u8.wrap (97+(k:Int))=((UInt8.ofNat (97+k)).toNat:Int):=by
    have e:(UInt8.ofNat (97+k)).toNat=97+k:=UInt8.toNat_ofNat_of_lt' (by show 97+k<256;omega)
    rw [e]
    rw [IntKind.wrap_u8]
    omega
   have HBE:Hid (∀ X W q,TbX X W p (plS m) last L->ReqB W W.heap.size (reqT 1 [] 60) q->Calls Tryz.prog 12 #[.pointer (some ⟨p,0,none⟩),.int .i64 0,.agg (reqA (reqT 1 [] 60) q),.string ⟨#[97,64,98]⟩,.string ⟨#[99,64,100]⟩,.int .i64 1,.string (⟨#[120]⟩++str [UInt8.ofNat (97+k)])] W (SubX X p (plS m) (fulR m last L k).last (fulR m last L k) W)):=hid (fun X W q H hr=>by
    have h9:=begin_x (now:=0) (state:=1) (who:=abT) (watcher:=cdT) (tag:=[120,UInt8.ofNat (97+k)]) H HLA.out (Nat.le_refl _) hr (reqT_z _ _ _) (by show 2<=_;omega)
    exact h9)
   unfold SubX at HBE
   obtain ⟨c,hc⟩:∃ c:UInt8,UInt8.ofNat (97+k)=c:=⟨_,rfl⟩
   rw [hc] at HBE hkb
   clear hc
   generalize fulR m last L k=R at *
   have x1:(k:Int)<m+2:=by omega
   have hcn:(c.toNat:Int)<256:=by have:=c.toNat_lt;omega
   have ha1:∀ W:World,(Op.stringOp .add ⟨#[120]⟩ (str [c])).run Tryz.prog W=.ok (.string (⟨#[120]⟩++str [c])) W:=fun W=>run_string_add_sum (P:=Tryz.prog) (w:=W) _ _ (by show 1+1<=_;omega)
   have HADD:=hid ha1
   obtain ⟨zs,hzs⟩:∃ zs:ByteArray,⟨#[120]⟩++str [c]=zs:=⟨_,rfl⟩
   rw [hzs] at HADD HBE ha1
   clear hzs ha1
   have HKB:=hid hkb
   go_upto_region 8 with (fail)
   go_cut [6,7] (fun s6 s7 wx=>FulCut w p m R s6 s7 wx)
   case first =>
    refine wp_region_noPanic ?_
    refine wp_region_held_drew (S:=fun _=>True) (by kernel_rfl) trivial (fun hHeld=>?_)
    have HT0:Hid (TbX (fun k=>k<w.heap.size) wr.drew p (plS m) last L):=hid (HT.out.below ((Below.refl _ _).drew))
    have HB0:Hid (Below w.heap.size w wr.drew):=hid (HB.out.drew)
    generalize wr.drew=wd at *
    refine wpAnyH_take (i:=0) (oi:=?oi1) (v:=?v1) ?ho1 ?ka1 ?kb1 ?kc1 (fun _ _ _ h=>h) (Or.inl ⟨?kw1,?hy1⟩) (by assumption) ?rest1
    case ho1=>(simp only [List.getElem?_toArray,List.getElem?_cons_zero,List.getElem?_cons_succ];rfl)
    case ka1=>kernel_rfl
    case kb1=>kernel_rfl
    case kc1=>kernel_rfl
    case kw1=>rfl
    case hy1=>(intro wq hSw;(try dsimp only at hSw);go_simp;try with_reducible rfl)
    try simp only [Act.put,List.setIfInBounds_toArray,List.set_cons_zero,List.set_cons_succ]
    refine wpAnyH_take (i:=2) (oi:=?oi2) (v:=?v2) ?ho2 ?ka2 ?kb2 ?kc2 (fun _ _ _ h=>h) (Or.inl ⟨?kw2,?hy2⟩) (by assumption) ?rest2
    case ho2=>(simp only [List.getElem?_toArray,List.getElem?_cons_zero,List.getElem?_cons_succ];rfl)
    case ka2=>kernel_rfl
    case kb2=>kernel_rfl
    case kc2=>kernel_rfl
    case kw2=>rfl
    case hy2=>(intro wq hSw;(try dsimp only at hSw);go_simp;try with_reducible rfl)
    try simp only [Act.put,List.setIfInBounds_toArray,List.set_cons_zero,List.set_cons_succ]
    have hk64:IntKind.i64.wrap (97+(k:Int))=97+(k:Int):=IntWalk.i64_in _ (by omega)
    refine wpAnyH_take (i:=3) (oi:=?oi3) (v:=?v3) ?ho3 ?ka3 ?kb3 ?kc3 (fun _ _ _ h=>h) (Or.inl ⟨?kw3,?hy3⟩) (by assumption) ?rest3
    case ho3=>(simp only [List.getElem?_toArray,List.getElem?_cons_zero,List.getElem?_cons_succ];rfl)
    case ka3=>kernel_rfl
    case kb3=>kernel_rfl
    case kc3=>kernel_rfl
    case kw3=>rfl
    case hy3=>(intro wq hSw;(try dsimp only at hSw);go_simp;try with_reducible rfl)
    try simp only [Act.put,List.setIfInBounds_toArray,List.set_cons_zero,List.set_cons_succ]
    have hkb:=HKB.out
    refine wpAnyH_take (i:=4) (oi:=?oi4) (v:=?v4) ?ho4 ?ka4 ?kb4 ?kc4 (fun _ _ _ h=>h) (Or.inl ⟨?kw4,?hy4⟩) (by assumption) ?rest4
    case ho4=>(simp only [List.getElem?_toArray,List.getElem?_cons_zero,List.getElem?_cons_succ];rfl)
    case ka4=>kernel_rfl
    case kb4=>kernel_rfl
    case kc4=>kernel_rfl
    case kw4=>rfl
    case hy4=>(intro wq hSw;(try dsimp only at hSw);go_simp;try with_reducible rfl)
    try simp only [Act.put,List.setIfInBounds_toArray,List.set_cons_zero,List.set_cons_succ]
    clear hkb hk64
    refine wpAnyH_ready (rs:=[1,5,12]) (by kernel_rfl) (by simp) ?_
    refine AllReadyH.cons (o:=?oi5) ?ho5 (fun K hK=>?st5) ?mo5
    case ho5=>(simp only [List.getElem?_toArray,List.getElem?_cons_zero,List.getElem?_cons_succ];rfl)
    case st5 =>
     go_simp
     refine (HRQ.out _).mono ?_
     rintro e w105 ⟨q5,rfl,hr,hb⟩
     have HT5:=hid (HT0.out.below hb)
     have HB5:=hid (thenB_ HB0.out hb)
     have HQ5:=hid hr
     clear hr hb
     go_wp2_with fail
     refine hK.out _ _ trivial (fun hHeld=>?_)
     clear hK K
     try simp only [Act.put,List.setIfInBounds_toArray,List.set_cons_zero,List.set_cons_succ]
     refine wpAnyH_ready (rs:=[5,12]) (by kernel_rfl) (by simp) ?_
     refine AllReadyH.cons (o:=?oi6) ?ho6 (fun K hK=>?st6) ?mo6
     case ho6=>(simp only [List.getElem?_toArray,List.getElem?_cons_zero,List.getElem?_cons_succ];rfl)
     case st6 =>
      go_simp
      have hb:Below w105.heap.size w105 (w105.alloc (.cells #[.int .u8 (c.toNat:Int)] 5)):=(Below.refl _ _).alloc (Nat.le_refl _) _
      have hy:Blk (w105.alloc (.cells #[.int .u8 (c.toNat:Int)] 5)) w105.heap.size 5 #[.int .u8 (c.toNat:Int)]:=Blk.new _ _ _
      obtain ⟨w106,hu⟩:∃ u,(w105.alloc (.cells #[.int .u8 (c.toNat:Int)] 5))=u:=⟨_,rfl⟩
      rw [hu] at hb hy ⊢
      clear hu
      obtain ⟨gb6,hgb⟩:∃ gb,w105.heap.size=gb:=⟨_,rfl⟩
      simp only [hgb] at hy ⊢
      have HY6:=hid hy
      have HT6:=hid (HT5.out.below hb)
      have HB6:=hid (thenB_ HB5.out hb)
      have HQ6:=hid ((HQ5.out.below hb).up hb.size)
      clear hy hb hgb
      refine hK.out _ _ trivial (fun hHeld=>?_)
      clear hK K
      try simp only [Act.put,List.setIfInBounds_toArray,List.set_cons_zero,List.set_cons_succ]
      refine wpAnyH_ready (rs:=[6,12]) (by kernel_rfl) (by simp) ?_
      refine AllReadyH.cons (o:=?oi7) ?ho7 (fun K hK=>?st7) ?mo7
      case ho7=>(simp only [List.getElem?_toArray,List.getElem?_cons_zero,List.getElem?_cons_succ];rfl)
      case st7 =>
       have hcv:=run_string_own (P:=Tryz.prog) 59 9 5 Tryz.underlying59 Tryz.underlying5 Tryz.underlying9 (one_row HY6.out)
       go_simp
       clear hcv
       refine hK.out _ _ trivial (fun hHeld=>?_)
       clear hK K
       try simp only [Act.put,List.setIfInBounds_toArray,List.set_cons_zero,List.set_cons_succ]
       have ha1:=HADD.out
       refine wpAnyH_take (i:=7) (oi:=?oi8) (v:=?v8) ?ho8 ?ka8 ?kb8 ?kc8 (fun _ _ _ h=>h) (Or.inl ⟨?kw8,?hy8⟩) (by assumption) ?rest8
       case ho8=>(simp only [List.getElem?_toArray,List.getElem?_cons_zero,List.getElem?_cons_succ];rfl)
       case ka8=>kernel_rfl
       case kb8=>kernel_rfl
       case kc8=>kernel_rfl
       case kw8=>rfl
       case hy8=>(intro wq hSw;(try dsimp only at hSw);go_simp;try with_reducible rfl)
       try simp only [Act.put,List.setIfInBounds_toArray,List.set_cons_zero,List.set_cons_succ]
       clear ha1
       refine wpAnyH_ready (rs:=[8,12]) (by kernel_rfl) (by simp) ?_
       refine AllReadyH.cons (o:=?oi9) ?ho9 (fun K hK=>?st9) ?mo9
       case ho9=>(simp only [List.getElem?_toArray,List.getElem?_cons_zero,List.getElem?_cons_succ];rfl)
       case st9 =>
        go_simp
        refine (HBE.out _ _ _ HT6.out HQ6.out).mono ?_
        rintro e w109 ⟨v9,rfl,m1,t1⟩
        have HM9:=hid m1
        have HT9:=hid t1.tab
        have HB9:Hid (Below w.heap.size w w109):=hid (HB6.out.trans (below_out t1.fr (fun k h=>h) HB6.out.size))
        clear m1 t1
        go_wp2_with fail
        refine hK.out _ _ trivial (fun hHeld=>?_)
        clear hK K
        try simp only [Act.put,List.setIfInBounds_toArray,List.set_cons_zero,List.set_cons_succ]
        refine wpAnyH_take (i:=9) (oi:=?oi10) (v:=?v10) ?ho10 ?ka10 ?kb10 ?kc10 (fun _ _ _ h=>h) (Or.inl ⟨?kw10,?hy10⟩) (by assumption) ?rest10
        case ho10=>(simp only [List.getElem?_toArray,List.getElem?_cons_zero,List.getElem?_cons_succ];rfl)
        case ka10=>kernel_rfl
        case kb10=>kernel_rfl
        case kc10=>kernel_rfl
        case kw10=>rfl
        case hy10=>(intro wq hSw;(try dsimp only at hSw);go_simp;try with_reducible rfl)
        try simp only [Act.put,List.setIfInBounds_toArray,List.set_cons_zero,List.set_cons_succ]
        refine wpAnyH_take (i:=10) (oi:=?oi11) (v:=?v11) ?ho11 ?ka11 ?kb11 ?kc11 (fun _ _ _ h=>h) (Or.inl ⟨?kw11,?hy11⟩) (by assumption) ?rest11
        case ho11=>(simp only [List.getElem?_toArray,List.getElem?_cons_zero,List.getElem?_cons_succ];rfl)
        case ka11=>kernel_rfl
        case kb11=>kernel_rfl
        case kc11=>kernel_rfl
        case kw11=>rfl
        case hy11=>(intro wq hSw;(try dsimp only at hSw);go_simp;try with_reducible rfl)
        try simp only [Act.put,List.setIfInBounds_toArray,List.set_cons_zero,List.set_cons_succ]
        refine wpAnyH_take (i:=11) (oi:=?oi12) (v:=?v12) ?ho12 ?ka12 ?kb12 ?kc12 (fun _ _ _ h=>h) (Or.inl ⟨?kw12,?hy12⟩) (by assumption) ?rest12
        case ho12=>(simp only [List.getElem?_toArray,List.getElem?_cons_zero,List.getElem?_cons_succ];rfl)
        case ka12=>kernel_rfl
        case kb12=>kernel_rfl
        case kc12=>kernel_rfl
        case kw12=>rfl
        case hy12=>(intro wq hSw;(try dsimp only at hSw);go_simp;try with_reducible rfl)
        try simp only [Act.put,List.setIfInBounds_toArray,List.set_cons_zero,List.set_cons_succ]
        refine wpAnyH_ready (rs:=[12]) (by kernel_rfl) (by simp) ?_
        refine AllReadyH.cons (o:=?oi13) ?ho13 (fun K hK=>?st13) AllReadyH.nil
        case ho13=>(simp only [List.getElem?_toArray,List.getElem?_cons_zero,List.getElem?_cons_succ];rfl)
        go_simp
        have hb:Below w109.heap.size w109 (w109.alloc (.cells sub0 39)):=(Below.refl _ _).alloc (Nat.le_refl _) _
        have hk:Blk (w109.alloc (.cells sub0 39)) w109.heap.size 39 sub0:=Blk.new _ _ _
        have ht:=HT9.out.own (g:=w109.heap.size) hb (Nat.le_refl _) (by simp)
        have hbb:=thenB_ HB9.out hb
        have hmm:=HM9.out.below hb
        unfold sub0 at hb hk ht hbb hmm
        obtain ⟨w113,hu⟩:∃ u,w109.alloc (.cells #[.int .i64 0,.string ⟨#[]⟩,.string ⟨#[]⟩,.string ⟨#[]⟩,.slice none 0 0,.int .i64 0,.string ⟨#[]⟩,.int .i64 0,.string ⟨#[]⟩,.string ⟨#[]⟩,.string ⟨#[]⟩,.string ⟨#[]⟩,.string ⟨#[]⟩,.int .i64 0,.slice none 0 0,.slice none 0 0,.slice none 0 0,.string ⟨#[]⟩,.string ⟨#[]⟩,.string ⟨#[]⟩,.string ⟨#[]⟩,.int .i64 0,.slice none 0 0,.slice none 0 0,.slice none 0 0,.string ⟨#[]⟩,.string ⟨#[]⟩,.string ⟨#[]⟩,.int .i64 0,.slice none 0 0,.slice none 0 0,.slice none 0 0,.int .i64 0,.int .i64 0] 39)=u:=⟨_,rfl⟩
        rw [hu] at hk ht hbb hmm ⊢
        clear hu hb
        have hge:w.heap.size<=w109.heap.size:=HB9.out.size
        obtain ⟨gs13,hgs⟩:∃ gs,w109.heap.size=gs:=⟨_,rfl⟩
        simp only [hgs] at hk ht hge ⊢
        clear hgs
        have HGE_gs13:=hid hge
        clear hge
        have HK13:Hid (Blk w113 gs13 39 sub0):=hid hk
        have HT13:=hid ht
        have HB13:=hid hbb
        have HM13:=hid hmm
        clear hk ht hbb hmm
        refine hK.out _ _ trivial (fun hHeld=>?_)
        clear hK K
        try simp only [Act.put,List.setIfInBounds_toArray,List.set_cons_zero,List.set_cons_succ]
        refine wpAnyH_ready (rs:=[13]) (by kernel_rfl) (by simp) ?_
        refine AllReadyH.cons (o:=?oi14) ?ho14 (fun K hK=>?st14) AllReadyH.nil
        case ho14=>(simp only [List.getElem?_toArray,List.getElem?_cons_zero,List.getElem?_cons_succ];rfl)
        rw [if_pos (by rfl)]
        refine wp_store_mid 39 (.tmp 6) (.tmp 35) rfl gs13 0 (subA R.sub v9) rfl rfl (blk_there HK13.out (Nat.le_refl 34)) (by kernel_rfl) (subA_one HM13.out.ok.1 HM13.out.ok.2) ?_
        have hk2:Blk (World.setCells w113 gs13 0 (subA R.sub v9).toList) gs13 39 (subA R.sub v9):=blk_setCells (subA R.sub v9).toList (off:=0) HK13.out (Nat.le_refl 34)
        have hf2:Fr (fun k=>k=gs13) w113 (World.setCells w113 gs13 0 (subA R.sub v9).toList):=fr_setCells gs13 (subA R.sub v9).toList 0 w113
        obtain ⟨w114,hu⟩:∃ u,World.setCells w113 gs13 0 (subA R.sub v9).toList=u:=⟨_,rfl⟩
        rw [hu] at hk2 hf2 ⊢
        clear hu
        have HFIN:Hid (FulCut w p m R (.pointer (some ⟨gs13,0,none⟩)) (.int .i64 R.err) w114):=hid ⟨gs13,rfl,rfl,hk2.cell 0,(HT13.out.set (.inr rfl) HK13.out (by decide) (by decide) hf2).mono (fun k h=>.inl h),HB13.out.trans (hf2.to_below HB13.out.size (fun k e=>e▸HGE_gs13.out))⟩
        clear hk2 hf2
        refine hK.out _ _ trivial (fun hHeld=>?_)
        clear hK K
        try simp only [Act.put,List.setIfInBounds_toArray,List.set_cons_zero,List.set_cons_succ]
        refine wpAnyH_take (i:=14) (oi:=?oi15) (v:=?v15) ?ho15 ?ka15 ?kb15 ?kc15 (fun _ _ _ h=>h) (Or.inl ⟨?kw15,?hy15⟩) (by assumption) ?rest15
        case ho15=>(simp only [List.getElem?_toArray,List.getElem?_cons_zero,List.getElem?_cons_succ];rfl)
        case ka15=>kernel_rfl
        case kb15=>kernel_rfl
        case kc15=>kernel_rfl
        case kw15=>rfl
        case hy15=>(intro wq hSw;(try dsimp only at hSw);go_simp;try with_reducible rfl)
        try simp only [Act.put,List.setIfInBounds_toArray,List.set_cons_zero,List.set_cons_succ]
        refine wpAnyH_done (by kernel_rfl) ?_ _
        refine NoPanic.normal ?_
        go_wp2_with fail
        go_meet
        exact HFIN.out
       case mo9 =>
        refine AllReadyH.cons (o:=?oi16) ?ho16 (fun K hK=>?st16) AllReadyH.nil
        case ho16=>(simp only [List.getElem?_toArray,List.getElem?_cons_zero,List.getElem?_cons_succ];rfl)
        go_simp
        have hb:Below w106.heap.size w106 (w106.alloc (.cells sub0 39)):=(Below.refl _ _).alloc (Nat.le_refl _) _
        have hk:Blk (w106.alloc (.cells sub0 39)) w106.heap.size 39 sub0:=Blk.new _ _ _
        have ht:=HT6.out.own (g:=w106.heap.size) hb (Nat.le_refl _) (by simp)
        have hbb:=thenB_ HB6.out hb
        have hy:=HY6.out.fr (Fr.of_below (F:=fun _=>False) hb) (fun h=>h)
        have hq:=(HQ6.out.below hb).up hb.size
        unfold sub0 at hb hk ht hbb hy hq
        obtain ⟨w116,hu⟩:∃ u,w106.alloc (.cells #[.int .i64 0,.string ⟨#[]⟩,.string ⟨#[]⟩,.string ⟨#[]⟩,.slice none 0 0,.int .i64 0,.string ⟨#[]⟩,.int .i64 0,.string ⟨#[]⟩,.string ⟨#[]⟩,.string ⟨#[]⟩,.string ⟨#[]⟩,.string ⟨#[]⟩,.int .i64 0,.slice none 0 0,.slice none 0 0,.slice none 0 0,.string ⟨#[]⟩,.string ⟨#[]⟩,.string ⟨#[]⟩,.string ⟨#[]⟩,.int .i64 0,.slice none 0 0,.slice none 0 0,.slice none 0 0,.string ⟨#[]⟩,.string ⟨#[]⟩,.string ⟨#[]⟩,.int .i64 0,.slice none 0 0,.slice none 0 0,.slice none 0 0,.int .i64 0,.int .i64 0] 39)=u:=⟨_,rfl⟩
        rw [hu] at hk ht hbb hy hq ⊢
        clear hu hb
        have hge:w.heap.size<=w106.heap.size:=HB6.out.size
        obtain ⟨gs16,hgs⟩:∃ gs,w106.heap.size=gs:=⟨_,rfl⟩
        simp only [hgs] at hk ht hge ⊢
        clear hgs
        have HGE_gs16:=hid hge
        clear hge
        have HK16:Hid (Blk w116 gs16 39 sub0):=hid hk
        have HT16:=hid ht
        have HB16:=hid hbb
        have HY16:=hid hy
        have HQ16:=hid hq
        clear hk ht hbb hy hq
        refine hK.out _ _ trivial (fun hHeld=>?_)
        clear hK K
        try simp only [Act.put,List.setIfInBounds_toArray,List.set_cons_zero,List.set_cons_succ]
        refine wpAnyH_ready (rs:=[8]) (by kernel_rfl) (by simp) ?_
        refine AllReadyH.cons (o:=?oi17) ?ho17 (fun K hK=>?st17) AllReadyH.nil
        case ho17=>(simp only [List.getElem?_toArray,List.getElem?_cons_zero,List.getElem?_cons_succ];rfl)
        go_simp
        refine (HBE.out _ _ _ HT16.out HQ16.out).mono ?_
        rintro e w117 ⟨v17,rfl,m1,t1⟩
        have HM17:=hid m1
        have HT17:=hid t1.tab
        have HB17:Hid (Below w.heap.size w w117):=hid (HB16.out.trans (below_out t1.fr (fun k h=>.inl h) HB16.out.size))
        have HK17:=hid (HK16.out.out (.inr rfl) t1.fr)
        clear m1 t1
        go_wp2_with fail
        refine hK.out _ _ trivial (fun hHeld=>?_)
        clear hK K
        try simp only [Act.put,List.setIfInBounds_toArray,List.set_cons_zero,List.set_cons_succ]
        refine wpAnyH_take (i:=9) (oi:=?oi18) (v:=?v18) ?ho18 ?ka18 ?kb18 ?kc18 (fun _ _ _ h=>h) (Or.inl ⟨?kw18,?hy18⟩) (by assumption) ?rest18
        case ho18=>(simp only [List.getElem?_toArray,List.getElem?_cons_zero,List.getElem?_cons_succ];rfl)
        case ka18=>kernel_rfl
        case kb18=>kernel_rfl
        case kc18=>kernel_rfl
        case kw18=>rfl
        case hy18=>(intro wq hSw;(try dsimp only at hSw);go_simp;try with_reducible rfl)
        try simp only [Act.put,List.setIfInBounds_toArray,List.set_cons_zero,List.set_cons_succ]
        refine wpAnyH_take (i:=10) (oi:=?oi19) (v:=?v19) ?ho19 ?ka19 ?kb19 ?kc19 (fun _ _ _ h=>h) (Or.inl ⟨?kw19,?hy19⟩) (by assumption) ?rest19
        case ho19=>(simp only [List.getElem?_toArray,List.getElem?_cons_zero,List.getElem?_cons_succ];rfl)
        case ka19=>kernel_rfl
        case kb19=>kernel_rfl
        case kc19=>kernel_rfl
        case kw19=>rfl
        case hy19=>(intro wq hSw;(try dsimp only at hSw);go_simp;try with_reducible rfl)
        try simp only [Act.put,List.setIfInBounds_toArray,List.set_cons_zero,List.set_cons_succ]
        refine wpAnyH_take (i:=11) (oi:=?oi20) (v:=?v20) ?ho20 ?ka20 ?kb20 ?kc20 (fun _ _ _ h=>h) (Or.inl ⟨?kw20,?hy20⟩) (by assumption) ?rest20
        case ho20=>(simp only [List.getElem?_toArray,List.getElem?_cons_zero,List.getElem?_cons_succ];rfl)
        case ka20=>kernel_rfl
        case kb20=>kernel_rfl
        case kc20=>kernel_rfl
        case kw20=>rfl
        case hy20=>(intro wq hSw;(try dsimp only at hSw);go_simp;try with_reducible rfl)
        try simp only [Act.put,List.setIfInBounds_toArray,List.set_cons_zero,List.set_cons_succ]
        refine wpAnyH_ready (rs:=[13]) (by kernel_rfl) (by simp) ?_
        refine AllReadyH.cons (o:=?oi21) ?ho21 (fun K hK=>?st21) AllReadyH.nil
        case ho21=>(simp only [List.getElem?_toArray,List.getElem?_cons_zero,List.getElem?_cons_succ];rfl)
        rw [if_pos (by rfl)]
        refine wp_store_mid 39 (.tmp 6) (.tmp 35) rfl gs16 0 (subA R.sub v17) rfl rfl (blk_there HK17.out (Nat.le_refl 34)) (by kernel_rfl) (subA_one HM17.out.ok.1 HM17.out.ok.2) ?_
        have hk2:Blk (World.setCells w117 gs16 0 (subA R.sub v17).toList) gs16 39 (subA R.sub v17):=blk_setCells (subA R.sub v17).toList (off:=0) HK17.out (Nat.le_refl 34)
        have hf2:Fr (fun k=>k=gs16) w117 (World.setCells w117 gs16 0 (subA R.sub v17).toList):=fr_setCells gs16 (subA R.sub v17).toList 0 w117
        obtain ⟨w121,hu⟩:∃ u,World.setCells w117 gs16 0 (subA R.sub v17).toList=u:=⟨_,rfl⟩
        rw [hu] at hk2 hf2 ⊢
        clear hu
        have HFIN:Hid (FulCut w p m R (.pointer (some ⟨gs16,0,none⟩)) (.int .i64 R.err) w121):=hid ⟨gs16,rfl,rfl,hk2.cell 0,(HT17.out.set (.inr rfl) HK17.out (by decide) (by decide) hf2).mono (fun k h=>.inl h),HB17.out.trans (hf2.to_below HB17.out.size (fun k e=>e▸HGE_gs16.out))⟩
        clear hk2 hf2
        refine hK.out _ _ trivial (fun hHeld=>?_)
        clear hK K
        try simp only [Act.put,List.setIfInBounds_toArray,List.set_cons_zero,List.set_cons_succ]
        refine wpAnyH_take (i:=14) (oi:=?oi22) (v:=?v22) ?ho22 ?ka22 ?kb22 ?kc22 (fun _ _ _ h=>h) (Or.inl ⟨?kw22,?hy22⟩) (by assumption) ?rest22
        case ho22=>(simp only [List.getElem?_toArray,List.getElem?_cons_zero,List.getElem?_cons_succ];rfl)
        case ka22=>kernel_rfl
        case kb22=>kernel_rfl
        case kc22=>kernel_rfl
        case kw22=>rfl
        case hy22=>(intro wq hSw;(try dsimp only at hSw);go_simp;try with_reducible rfl)
        try simp only [Act.put,List.setIfInBounds_toArray,List.set_cons_zero,List.set_cons_succ]
        refine wpAnyH_done (by kernel_rfl) ?_ _
        refine NoPanic.normal ?_
        go_wp2_with fail
        go_meet
        exact HFIN.out
      case mo7 =>
       refine AllReadyH.cons (o:=?oi23) ?ho23 (fun K hK=>?st23) AllReadyH.nil
       case ho23=>(simp only [List.getElem?_toArray,List.getElem?_cons_zero,List.getElem?_cons_succ];rfl)
       go_simp
       have hb:Below w106.heap.size w106 (w106.alloc (.cells sub0 39)):=(Below.refl _ _).alloc (Nat.le_refl _) _
       have hk:Blk (w106.alloc (.cells sub0 39)) w106.heap.size 39 sub0:=Blk.new _ _ _
       have ht:=HT6.out.own (g:=w106.heap.size) hb (Nat.le_refl _) (by simp)
       have hbb:=thenB_ HB6.out hb
       have hy:=HY6.out.fr (Fr.of_below (F:=fun _=>False) hb) (fun h=>h)
       have hq:=(HQ6.out.below hb).up hb.size
       unfold sub0 at hb hk ht hbb hy hq
       obtain ⟨w123,hu⟩:∃ u,w106.alloc (.cells #[.int .i64 0,.string ⟨#[]⟩,.string ⟨#[]⟩,.string ⟨#[]⟩,.slice none 0 0,.int .i64 0,.string ⟨#[]⟩,.int .i64 0,.string ⟨#[]⟩,.string ⟨#[]⟩,.string ⟨#[]⟩,.string ⟨#[]⟩,.string ⟨#[]⟩,.int .i64 0,.slice none 0 0,.slice none 0 0,.slice none 0 0,.string ⟨#[]⟩,.string ⟨#[]⟩,.string ⟨#[]⟩,.string ⟨#[]⟩,.int .i64 0,.slice none 0 0,.slice none 0 0,.slice none 0 0,.string ⟨#[]⟩,.string ⟨#[]⟩,.string ⟨#[]⟩,.int .i64 0,.slice none 0 0,.slice none 0 0,.slice none 0 0,.int .i64 0,.int .i64 0] 39)=u:=⟨_,rfl⟩
       rw [hu] at hk ht hbb hy hq ⊢
       clear hu hb
       have hge:w.heap.size<=w106.heap.size:=HB6.out.size
       obtain ⟨gs23,hgs⟩:∃ gs,w106.heap.size=gs:=⟨_,rfl⟩
       simp only [hgs] at hk ht hge ⊢
       clear hgs
       have HGE_gs23:=hid hge
       clear hge
       have HK23:Hid (Blk w123 gs23 39 sub0):=hid hk
       have HT23:=hid ht
       have HB23:=hid hbb
       have HY23:=hid hy
       have HQ23:=hid hq
       clear hk ht hbb hy hq
       refine hK.out _ _ trivial (fun hHeld=>?_)
       clear hK K
       try simp only [Act.put,List.setIfInBounds_toArray,List.set_cons_zero,List.set_cons_succ]
       refine wpAnyH_ready (rs:=[6]) (by kernel_rfl) (by simp) ?_
       refine AllReadyH.cons (o:=?oi24) ?ho24 (fun K hK=>?st24) AllReadyH.nil
       case ho24=>(simp only [List.getElem?_toArray,List.getElem?_cons_zero,List.getElem?_cons_succ];rfl)
       have hcv:=run_string_own (P:=Tryz.prog) 59 9 5 Tryz.underlying59 Tryz.underlying5 Tryz.underlying9 (one_row HY23.out)
       go_simp
       clear hcv
       refine hK.out _ _ trivial (fun hHeld=>?_)
       clear hK K
       try simp only [Act.put,List.setIfInBounds_toArray,List.set_cons_zero,List.set_cons_succ]
       have ha1:=HADD.out
       refine wpAnyH_take (i:=7) (oi:=?oi25) (v:=?v25) ?ho25 ?ka25 ?kb25 ?kc25 (fun _ _ _ h=>h) (Or.inl ⟨?kw25,?hy25⟩) (by assumption) ?rest25
       case ho25=>(simp only [List.getElem?_toArray,List.getElem?_cons_zero,List.getElem?_cons_succ];rfl)
       case ka25=>kernel_rfl
       case kb25=>kernel_rfl
       case kc25=>kernel_rfl
       case kw25=>rfl
       case hy25=>(intro wq hSw;(try dsimp only at hSw);go_simp;try with_reducible rfl)
       try simp only [Act.put,List.setIfInBounds_toArray,List.set_cons_zero,List.set_cons_succ]
       clear ha1
       refine wpAnyH_ready (rs:=[8]) (by kernel_rfl) (by simp) ?_
       refine AllReadyH.cons (o:=?oi26) ?ho26 (fun K hK=>?st26) AllReadyH.nil
       case ho26=>(simp only [List.getElem?_toArray,List.getElem?_cons_zero,List.getElem?_cons_succ];rfl)
       go_simp
       refine (HBE.out _ _ _ HT23.out HQ23.out).mono ?_
       rintro e w126 ⟨v26,rfl,m1,t1⟩
       have HM26:=hid m1
       have HT26:=hid t1.tab
       have HB26:Hid (Below w.heap.size w w126):=hid (HB23.out.trans (below_out t1.fr (fun k h=>.inl h) HB23.out.size))
       have HK26:=hid (HK23.out.out (.inr rfl) t1.fr)
       clear m1 t1
       go_wp2_with fail
       refine hK.out _ _ trivial (fun hHeld=>?_)
       clear hK K
       try simp only [Act.put,List.setIfInBounds_toArray,List.set_cons_zero,List.set_cons_succ]
       refine wpAnyH_take (i:=9) (oi:=?oi27) (v:=?v27) ?ho27 ?ka27 ?kb27 ?kc27 (fun _ _ _ h=>h) (Or.inl ⟨?kw27,?hy27⟩) (by assumption) ?rest27
       case ho27=>(simp only [List.getElem?_toArray,List.getElem?_cons_zero,List.getElem?_cons_succ];rfl)
       case ka27=>kernel_rfl
       case kb27=>kernel_rfl
       case kc27=>kernel_rfl
       case kw27=>rfl
       case hy27=>(intro wq hSw;(try dsimp only at hSw);go_simp;try with_reducible rfl)
       try simp only [Act.put,List.setIfInBounds_toArray,List.set_cons_zero,List.set_cons_succ]
       refine wpAnyH_take (i:=10) (oi:=?oi28) (v:=?v28) ?ho28 ?ka28 ?kb28 ?kc28 (fun _ _ _ h=>h) (Or.inl ⟨?kw28,?hy28⟩) (by assumption) ?rest28
       case ho28=>(simp only [List.getElem?_toArray,List.getElem?_cons_zero,List.getElem?_cons_succ];rfl)
       case ka28=>kernel_rfl
       case kb28=>kernel_rfl
       case kc28=>kernel_rfl
       case kw28=>rfl
       case hy28=>(intro wq hSw;(try dsimp only at hSw);go_simp;try with_reducible rfl)
       try simp only [Act.put,List.setIfInBounds_toArray,List.set_cons_zero,List.set_cons_succ]
       refine wpAnyH_take (i:=11) (oi:=?oi29) (v:=?v29) ?ho29 ?ka29 ?kb29 ?kc29 (fun _ _ _ h=>h) (Or.inl ⟨?kw29,?hy29⟩) (by assumption) ?rest29
       case ho29=>(simp only [List.getElem?_toArray,List.getElem?_cons_zero,List.getElem?_cons_succ];rfl)
       case ka29=>kernel_rfl
       case kb29=>kernel_rfl
       case kc29=>kernel_rfl
       case kw29=>rfl
       case hy29=>(intro wq hSw;(try dsimp only at hSw);go_simp;try with_reducible rfl)
       try simp only [Act.put,List.setIfInBounds_toArray,List.set_cons_zero,List.set_cons_succ]
       refine wpAnyH_ready (rs:=[13]) (by kernel_rfl) (by simp) ?_
       refine AllReadyH.cons (o:=?oi30) ?ho30 (fun K hK=>?st30) AllReadyH.nil
       case ho30=>(simp only [List.getElem?_toArray,List.getElem?_cons_zero,List.getElem?_cons_succ];rfl)
       rw [if_pos (by rfl)]
       refine wp_store_mid 39 (.tmp 6) (.tmp 35) rfl gs23 0 (subA R.sub v26) rfl rfl (blk_there HK26.out (Nat.le_refl 34)) (by kernel_rfl) (subA_one HM26.out.ok.1 HM26.out.ok.2) ?_
       have hk2:Blk (World.setCells w126 gs23 0 (subA R.sub v26).toList) gs23 39 (subA R.sub v26):=blk_setCells (subA R.sub v26).toList (off:=0) HK26.out (Nat.le_refl 34)
       have hf2:Fr (fun k=>k=gs23) w126 (World.setCells w126 gs23 0 (subA R.sub v26).toList):=fr_setCells gs23 (subA R.sub v26).toList 0 w126
       obtain ⟨w130,hu⟩:∃ u,World.setCells w126 gs23 0 (subA R.sub v26).toList=u:=⟨_,rfl⟩
       rw [hu] at hk2 hf2 ⊢
       clear hu
       have HFIN:Hid (FulCut w p m R (.pointer (some ⟨gs23,0,none⟩)) (.int .i64 R.err) w130):=hid ⟨gs23,rfl,rfl,hk2.cell 0,(HT26.out.set (.inr rfl) HK26.out (by decide) (by decide) hf2).mono (fun k h=>.inl h),HB26.out.trans (hf2.to_below HB26.out.size (fun k e=>e▸HGE_gs23.out))⟩
       clear hk2 hf2
       refine hK.out _ _ trivial (fun hHeld=>?_)
       clear hK K
       try simp only [Act.put,List.setIfInBounds_toArray,List.set_cons_zero,List.set_cons_succ]
       refine wpAnyH_take (i:=14) (oi:=?oi31) (v:=?v31) ?ho31 ?ka31 ?kb31 ?kc31 (fun _ _ _ h=>h) (Or.inl ⟨?kw31,?hy31⟩) (by assumption) ?rest31
       case ho31=>(simp only [List.getElem?_toArray,List.getElem?_cons_zero,List.getElem?_cons_succ];rfl)
       case ka31=>kernel_rfl
       case kb31=>kernel_rfl
       case kc31=>kernel_rfl
       case kw31=>rfl
       case hy31=>(intro wq hSw;(try dsimp only at hSw);go_simp;try with_reducible rfl)
       try simp only [Act.put,List.setIfInBounds_toArray,List.set_cons_zero,List.set_cons_succ]
       refine wpAnyH_done (by kernel_rfl) ?_ _
       refine NoPanic.normal ?_
       go_wp2_with fail
       go_meet
       exact HFIN.out
     case mo6 =>
      refine AllReadyH.cons (o:=?oi32) ?ho32 (fun K hK=>?st32) AllReadyH.nil
      case ho32=>(simp only [List.getElem?_toArray,List.getElem?_cons_zero,List.getElem?_cons_succ];rfl)
      go_simp
      have hb:Below w105.heap.size w105 (w105.alloc (.cells sub0 39)):=(Below.refl _ _).alloc (Nat.le_refl _) _
      have hk:Blk (w105.alloc (.cells sub0 39)) w105.heap.size 39 sub0:=Blk.new _ _ _
      have ht:=HT5.out.own (g:=w105.heap.size) hb (Nat.le_refl _) (by simp)
      have hbb:=thenB_ HB5.out hb
      have hq:=(HQ5.out.below hb).up hb.size
      unfold sub0 at hb hk ht hbb hq
      obtain ⟨w132,hu⟩:∃ u,w105.alloc (.cells #[.int .i64 0,.string ⟨#[]⟩,.string ⟨#[]⟩,.string ⟨#[]⟩,.slice none 0 0,.int .i64 0,.string ⟨#[]⟩,.int .i64 0,.string ⟨#[]⟩,.string ⟨#[]⟩,.string ⟨#[]⟩,.string ⟨#[]⟩,.string ⟨#[]⟩,.int .i64 0,.slice none 0 0,.slice none 0 0,.slice none 0 0,.string ⟨#[]⟩,.string ⟨#[]⟩,.string ⟨#[]⟩,.string ⟨#[]⟩,.int .i64 0,.slice none 0 0,.slice none 0 0,.slice none 0 0,.string ⟨#[]⟩,.string ⟨#[]⟩,.string ⟨#[]⟩,.int .i64 0,.slice none 0 0,.slice none 0 0,.slice none 0 0,.int .i64 0,.int .i64 0] 39)=u:=⟨_,rfl⟩
      rw [hu] at hk ht hbb hq ⊢
      clear hu hb
      have hge:w.heap.size<=w105.heap.size:=HB5.out.size
      obtain ⟨gs32,hgs⟩:∃ gs,w105.heap.size=gs:=⟨_,rfl⟩
      simp only [hgs] at hk ht hge ⊢
      clear hgs
      have HGE_gs32:=hid hge
      clear hge
      have HK32:Hid (Blk w132 gs32 39 sub0):=hid hk
      have HT32:=hid ht
      have HB32:=hid hbb
      have HQ32:=hid hq
      clear hk ht hbb hq
      refine hK.out _ _ trivial (fun hHeld=>?_)
      clear hK K
      try simp only [Act.put,List.setIfInBounds_toArray,List.set_cons_zero,List.set_cons_succ]
      refine wpAnyH_ready (rs:=[5]) (by kernel_rfl) (by simp) ?_
      refine AllReadyH.cons (o:=?oi33) ?ho33 (fun K hK=>?st33) AllReadyH.nil
      case ho33=>(simp only [List.getElem?_toArray,List.getElem?_cons_zero,List.getElem?_cons_succ];rfl)
      go_simp
      have hb:Below w132.heap.size w132 (w132.alloc (.cells #[.int .u8 (c.toNat:Int)] 5)):=(Below.refl _ _).alloc (Nat.le_refl _) _
      have hy:Blk (w132.alloc (.cells #[.int .u8 (c.toNat:Int)] 5)) w132.heap.size 5 #[.int .u8 (c.toNat:Int)]:=Blk.new _ _ _
      obtain ⟨w133,hu⟩:∃ u,(w132.alloc (.cells #[.int .u8 (c.toNat:Int)] 5))=u:=⟨_,rfl⟩
      rw [hu] at hb hy ⊢
      clear hu
      obtain ⟨gb33,hgb⟩:∃ gb,w132.heap.size=gb:=⟨_,rfl⟩
      simp only [hgb] at hy ⊢
      have HY33:=hid hy
      have HT33:=hid (HT32.out.below hb)
      have HB33:=hid (thenB_ HB32.out hb)
      have HQ33:=hid ((HQ32.out.below hb).up hb.size)
      have HK33:=hid (HK32.out.fr (Fr.of_below (F:=fun _=>False) hb) (fun h=>h))
      clear hy hb hgb
      refine hK.out _ _ trivial (fun hHeld=>?_)
      clear hK K
      try simp only [Act.put,List.setIfInBounds_toArray,List.set_cons_zero,List.set_cons_succ]
      refine wpAnyH_ready (rs:=[6]) (by kernel_rfl) (by simp) ?_
      refine AllReadyH.cons (o:=?oi34) ?ho34 (fun K hK=>?st34) AllReadyH.nil
      case ho34=>(simp only [List.getElem?_toArray,List.getElem?_cons_zero,List.getElem?_cons_succ];rfl)
      have hcv:=run_string_own (P:=Tryz.prog) 59 9 5 Tryz.underlying59 Tryz.underlying5 Tryz.underlying9 (one_row HY33.out)
      go_simp
      clear hcv
      refine hK.out _ _ trivial (fun hHeld=>?_)
      clear hK K
      try simp only [Act.put,List.setIfInBounds_toArray,List.set_cons_zero,List.set_cons_succ]
      have ha1:=HADD.out
      refine wpAnyH_take (i:=7) (oi:=?oi35) (v:=?v35) ?ho35 ?ka35 ?kb35 ?kc35 (fun _ _ _ h=>h) (Or.inl ⟨?kw35,?hy35⟩) (by assumption) ?rest35
      case ho35=>(simp only [List.getElem?_toArray,List.getElem?_cons_zero,List.getElem?_cons_succ];rfl)
      case ka35=>kernel_rfl
      case kb35=>kernel_rfl
      case kc35=>kernel_rfl
      case kw35=>rfl
      case hy35=>(intro wq hSw;(try dsimp only at hSw);go_simp;try with_reducible rfl)
      try simp only [Act.put,List.setIfInBounds_toArray,List.set_cons_zero,List.set_cons_succ]
      clear ha1
      refine wpAnyH_ready (rs:=[8]) (by kernel_rfl) (by simp) ?_
      refine AllReadyH.cons (o:=?oi36) ?ho36 (fun K hK=>?st36) AllReadyH.nil
      case ho36=>(simp only [List.getElem?_toArray,List.getElem?_cons_zero,List.getElem?_cons_succ];rfl)
      go_simp
      refine (HBE.out _ _ _ HT33.out HQ33.out).mono ?_
      rintro e w136 ⟨v36,rfl,m1,t1⟩
      have HM36:=hid m1
      have HT36:=hid t1.tab
      have HB36:Hid (Below w.heap.size w w136):=hid (HB33.out.trans (below_out t1.fr (fun k h=>.inl h) HB33.out.size))
      have HK36:=hid (HK33.out.out (.inr rfl) t1.fr)
      clear m1 t1
      go_wp2_with fail
      refine hK.out _ _ trivial (fun hHeld=>?_)
      clear hK K
      try simp only [Act.put,List.setIfInBounds_toArray,List.set_cons_zero,List.set_cons_succ]
      refine wpAnyH_take (i:=9) (oi:=?oi37) (v:=?v37) ?ho37 ?ka37 ?kb37 ?kc37 (fun _ _ _ h=>h) (Or.inl ⟨?kw37,?hy37⟩) (by assumption) ?rest37
      case ho37=>(simp only [List.getElem?_toArray,List.getElem?_cons_zero,List.getElem?_cons_succ];rfl)
      case ka37=>kernel_rfl
      case kb37=>kernel_rfl
      case kc37=>kernel_rfl
      case kw37=>rfl
      case hy37=>(intro wq hSw;(try dsimp only at hSw);go_simp;try with_reducible rfl)
      try simp only [Act.put,List.setIfInBounds_toArray,List.set_cons_zero,List.set_cons_succ]
      refine wpAnyH_take (i:=10) (oi:=?oi38) (v:=?v38) ?ho38 ?ka38 ?kb38 ?kc38 (fun _ _ _ h=>h) (Or.inl ⟨?kw38,?hy38⟩) (by assumption) ?rest38
      case ho38=>(simp only [List.getElem?_toArray,List.getElem?_cons_zero,List.getElem?_cons_succ];rfl)
      case ka38=>kernel_rfl
      case kb38=>kernel_rfl
      case kc38=>kernel_rfl
      case kw38=>rfl
      case hy38=>(intro wq hSw;(try dsimp only at hSw);go_simp;try with_reducible rfl)
      try simp only [Act.put,List.setIfInBounds_toArray,List.set_cons_zero,List.set_cons_succ]
      refine wpAnyH_take (i:=11) (oi:=?oi39) (v:=?v39) ?ho39 ?ka39 ?kb39 ?kc39 (fun _ _ _ h=>h) (Or.inl ⟨?kw39,?hy39⟩) (by assumption) ?rest39
      case ho39=>(simp only [List.getElem?_toArray,List.getElem?_cons_zero,List.getElem?_cons_succ];rfl)
      case ka39=>kernel_rfl
      case kb39=>kernel_rfl
      case kc39=>kernel_rfl
      case kw39=>rfl
      case hy39=>(intro wq hSw;(try dsimp only at hSw);go_simp;try with_reducible rfl)
      try simp only [Act.put,List.setIfInBounds_toArray,List.set_cons_zero,List.set_cons_succ]
      refine wpAnyH_ready (rs:=[13]) (by kernel_rfl) (by simp) ?_
      refine AllReadyH.cons (o:=?oi40) ?ho40 (fun K hK=>?st40) AllReadyH.nil
      case ho40=>(simp only [List.getElem?_toArray,List.getElem?_cons_zero,List.getElem?_cons_succ];rfl)
      rw [if_pos (by rfl)]
      refine wp_store_mid 39 (.tmp 6) (.tmp 35) rfl gs32 0 (subA R.sub v36) rfl rfl (blk_there HK36.out (Nat.le_refl 34)) (by kernel_rfl) (subA_one HM36.out.ok.1 HM36.out.ok.2) ?_
      have hk2:Blk (World.setCells w136 gs32 0 (subA R.sub v36).toList) gs32 39 (subA R.sub v36):=blk_setCells (subA R.sub v36).toList (off:=0) HK36.out (Nat.le_refl 34)
      have hf2:Fr (fun k=>k=gs32) w136 (World.setCells w136 gs32 0 (subA R.sub v36).toList):=fr_setCells gs32 (subA R.sub v36).toList 0 w136
      obtain ⟨w140,hu⟩:∃ u,World.setCells w136 gs32 0 (subA R.sub v36).toList=u:=⟨_,rfl⟩
      rw [hu] at hk2 hf2 ⊢
      clear hu
      have HFIN:Hid (FulCut w p m R (.pointer (some ⟨gs32,0,none⟩)) (.int .i64 R.err) w140):=hid ⟨gs32,rfl,rfl,hk2.cell 0,(HT36.out.set (.inr rfl) HK36.out (by decide) (by decide) hf2).mono (fun k h=>.inl h),HB36.out.trans (hf2.to_below HB36.out.size (fun k e=>e▸HGE_gs32.out))⟩
      clear hk2 hf2
      refine hK.out _ _ trivial (fun hHeld=>?_)
      clear hK K
      try simp only [Act.put,List.setIfInBounds_toArray,List.set_cons_zero,List.set_cons_succ]
      refine wpAnyH_take (i:=14) (oi:=?oi41) (v:=?v41) ?ho41 ?ka41 ?kb41 ?kc41 (fun _ _ _ h=>h) (Or.inl ⟨?kw41,?hy41⟩) (by assumption) ?rest41
      case ho41=>(simp only [List.getElem?_toArray,List.getElem?_cons_zero,List.getElem?_cons_succ];rfl)
      case ka41=>kernel_rfl
      case kb41=>kernel_rfl
      case kc41=>kernel_rfl
      case kw41=>rfl
      case hy41=>(intro wq hSw;(try dsimp only at hSw);go_simp;try with_reducible rfl)
      try simp only [Act.put,List.setIfInBounds_toArray,List.set_cons_zero,List.set_cons_succ]
      refine wpAnyH_done (by kernel_rfl) ?_ _
      refine NoPanic.normal ?_
      go_wp2_with fail
      go_meet
      exact HFIN.out
    case mo5 =>
     refine AllReadyH.cons (o:=?oi42) ?ho42 (fun K hK=>?st42) ?mo42
     case ho42=>(simp only [List.getElem?_toArray,List.getElem?_cons_zero,List.getElem?_cons_succ];rfl)
     case st42 =>
      go_simp
      have hb:Below wd.heap.size wd (wd.alloc (.cells #[.int .u8 (c.toNat:Int)] 5)):=(Below.refl _ _).alloc (Nat.le_refl _) _
      have hy:Blk (wd.alloc (.cells #[.int .u8 (c.toNat:Int)] 5)) wd.heap.size 5 #[.int .u8 (c.toNat:Int)]:=Blk.new _ _ _
      obtain ⟨w142,hu⟩:∃ u,(wd.alloc (.cells #[.int .u8 (c.toNat:Int)] 5))=u:=⟨_,rfl⟩
      rw [hu] at hb hy ⊢
      clear hu
      obtain ⟨gb42,hgb⟩:∃ gb,wd.heap.size=gb:=⟨_,rfl⟩
      simp only [hgb] at hy ⊢
      have HY42:=hid hy
      have HT42:=hid (HT0.out.below hb)
      have HB42:=hid (thenB_ HB0.out hb)
      clear hy hb hgb
      refine hK.out _ _ trivial (fun hHeld=>?_)
      clear hK K
      try simp only [Act.put,List.setIfInBounds_toArray,List.set_cons_zero,List.set_cons_succ]
      refine wpAnyH_ready (rs:=[1,6,12]) (by kernel_rfl) (by simp) ?_
      refine AllReadyH.cons (o:=?oi43) ?ho43 (fun K hK=>?st43) ?mo43
      case ho43=>(simp only [List.getElem?_toArray,List.getElem?_cons_zero,List.getElem?_cons_succ];rfl)
      case st43 =>
       go_simp
       refine (HRQ.out _).mono ?_
       rintro e w143 ⟨q43,rfl,hr,hb⟩
       have HT43:=hid (HT42.out.below hb)
       have HB43:=hid (thenB_ HB42.out hb)
       have HQ43:=hid hr
       have HY43:=hid (HY42.out.fr (Fr.of_below (F:=fun _=>False) hb) (fun h=>h))
       clear hr hb
       go_wp2_with fail
       refine hK.out _ _ trivial (fun hHeld=>?_)
       clear hK K
       try simp only [Act.put,List.setIfInBounds_toArray,List.set_cons_zero,List.set_cons_succ]
       refine wpAnyH_ready (rs:=[6,12]) (by kernel_rfl) (by simp) ?_
       refine AllReadyH.cons (o:=?oi44) ?ho44 (fun K hK=>?st44) ?mo44
       case ho44=>(simp only [List.getElem?_toArray,List.getElem?_cons_zero,List.getElem?_cons_succ];rfl)
       case st44 =>
        have hcv:=run_string_own (P:=Tryz.prog) 59 9 5 Tryz.underlying59 Tryz.underlying5 Tryz.underlying9 (one_row HY43.out)
        go_simp
        clear hcv
        refine hK.out _ _ trivial (fun hHeld=>?_)
        clear hK K
        try simp only [Act.put,List.setIfInBounds_toArray,List.set_cons_zero,List.set_cons_succ]
        have ha1:=HADD.out
        refine wpAnyH_take (i:=7) (oi:=?oi45) (v:=?v45) ?ho45 ?ka45 ?kb45 ?kc45 (fun _ _ _ h=>h) (Or.inl ⟨?kw45,?hy45⟩) (by assumption) ?rest45
        case ho45=>(simp only [List.getElem?_toArray,List.getElem?_cons_zero,List.getElem?_cons_succ];rfl)
        case ka45=>kernel_rfl
        case kb45=>kernel_rfl
        case kc45=>kernel_rfl
        case kw45=>rfl
        case hy45=>(intro wq hSw;(try dsimp only at hSw);go_simp;try with_reducible rfl)
        try simp only [Act.put,List.setIfInBounds_toArray,List.set_cons_zero,List.set_cons_succ]
        clear ha1
        refine wpAnyH_ready (rs:=[8,12]) (by kernel_rfl) (by simp) ?_
        refine AllReadyH.cons (o:=?oi46) ?ho46 (fun K hK=>?st46) ?mo46
        case ho46=>(simp only [List.getElem?_toArray,List.getElem?_cons_zero,List.getElem?_cons_succ];rfl)
        case st46 =>
         go_simp
         refine (HBE.out _ _ _ HT43.out HQ43.out).mono ?_
         rintro e w146 ⟨v46,rfl,m1,t1⟩
         have HM46:=hid m1
         have HT46:=hid t1.tab
         have HB46:Hid (Below w.heap.size w w146):=hid (HB43.out.trans (below_out t1.fr (fun k h=>h) HB43.out.size))
         clear m1 t1
         go_wp2_with fail
         refine hK.out _ _ trivial (fun hHeld=>?_)
         clear hK K
         try simp only [Act.put,List.setIfInBounds_toArray,List.set_cons_zero,List.set_cons_succ]
         refine wpAnyH_take (i:=9) (oi:=?oi47) (v:=?v47) ?ho47 ?ka47 ?kb47 ?kc47 (fun _ _ _ h=>h) (Or.inl ⟨?kw47,?hy47⟩) (by assumption) ?rest47
         case ho47=>(simp only [List.getElem?_toArray,List.getElem?_cons_zero,List.getElem?_cons_succ];rfl)
         case ka47=>kernel_rfl
         case kb47=>kernel_rfl
         case kc47=>kernel_rfl
         case kw47=>rfl
         case hy47=>(intro wq hSw;(try dsimp only at hSw);go_simp;try with_reducible rfl)
         try simp only [Act.put,List.setIfInBounds_toArray,List.set_cons_zero,List.set_cons_succ]
         refine wpAnyH_take (i:=10) (oi:=?oi48) (v:=?v48) ?ho48 ?ka48 ?kb48 ?kc48 (fun _ _ _ h=>h) (Or.inl ⟨?kw48,?hy48⟩) (by assumption) ?rest48
         case ho48=>(simp only [List.getElem?_toArray,List.getElem?_cons_zero,List.getElem?_cons_succ];rfl)
         case ka48=>kernel_rfl
         case kb48=>kernel_rfl
         case kc48=>kernel_rfl
         case kw48=>rfl
         case hy48=>(intro wq hSw;(try dsimp only at hSw);go_simp;try with_reducible rfl)
         try simp only [Act.put,List.setIfInBounds_toArray,List.set_cons_zero,List.set_cons_succ]
         refine wpAnyH_take (i:=11) (oi:=?oi49) (v:=?v49) ?ho49 ?ka49 ?kb49 ?kc49 (fun _ _ _ h=>h) (Or.inl ⟨?kw49,?hy49⟩) (by assumption) ?rest49
         case ho49=>(simp only [List.getElem?_toArray,List.getElem?_cons_zero,List.getElem?_cons_succ];rfl)
         case ka49=>kernel_rfl
         case kb49=>kernel_rfl
         case kc49=>kernel_rfl
         case kw49=>rfl
         case hy49=>(intro wq hSw;(try dsimp only at hSw);go_simp;try with_reducible rfl)
         try simp only [Act.put,List.setIfInBounds_toArray,List.set_cons_zero,List.set_cons_succ]
         refine wpAnyH_ready (rs:=[12]) (by kernel_rfl) (by simp) ?_
         refine AllReadyH.cons (o:=?oi50) ?ho50 (fun K hK=>?st50) AllReadyH.nil
         case ho50=>(simp only [List.getElem?_toArray,List.getElem?_cons_zero,List.getElem?_cons_succ];rfl)
         go_simp
         have hb:Below w146.heap.size w146 (w146.alloc (.cells sub0 39)):=(Below.refl _ _).alloc (Nat.le_refl _) _
         have hk:Blk (w146.alloc (.cells sub0 39)) w146.heap.size 39 sub0:=Blk.new _ _ _
         have ht:=HT46.out.own (g:=w146.heap.size) hb (Nat.le_refl _) (by simp)
         have hbb:=thenB_ HB46.out hb
         have hmm:=HM46.out.below hb
         unfold sub0 at hb hk ht hbb hmm
         obtain ⟨w150,hu⟩:∃ u,w146.alloc (.cells #[.int .i64 0,.string ⟨#[]⟩,.string ⟨#[]⟩,.string ⟨#[]⟩,.slice none 0 0,.int .i64 0,.string ⟨#[]⟩,.int .i64 0,.string ⟨#[]⟩,.string ⟨#[]⟩,.string ⟨#[]⟩,.string ⟨#[]⟩,.string ⟨#[]⟩,.int .i64 0,.slice none 0 0,.slice none 0 0,.slice none 0 0,.string ⟨#[]⟩,.string ⟨#[]⟩,.string ⟨#[]⟩,.string ⟨#[]⟩,.int .i64 0,.slice none 0 0,.slice none 0 0,.slice none 0 0,.string ⟨#[]⟩,.string ⟨#[]⟩,.string ⟨#[]⟩,.int .i64 0,.slice none 0 0,.slice none 0 0,.slice none 0 0,.int .i64 0,.int .i64 0] 39)=u:=⟨_,rfl⟩
         rw [hu] at hk ht hbb hmm ⊢
         clear hu hb
         have hge:w.heap.size<=w146.heap.size:=HB46.out.size
         obtain ⟨gs50,hgs⟩:∃ gs,w146.heap.size=gs:=⟨_,rfl⟩
         simp only [hgs] at hk ht hge ⊢
         clear hgs
         have HGE_gs50:=hid hge
         clear hge
         have HK50:Hid (Blk w150 gs50 39 sub0):=hid hk
         have HT50:=hid ht
         have HB50:=hid hbb
         have HM50:=hid hmm
         clear hk ht hbb hmm
         refine hK.out _ _ trivial (fun hHeld=>?_)
         clear hK K
         try simp only [Act.put,List.setIfInBounds_toArray,List.set_cons_zero,List.set_cons_succ]
         refine wpAnyH_ready (rs:=[13]) (by kernel_rfl) (by simp) ?_
         refine AllReadyH.cons (o:=?oi51) ?ho51 (fun K hK=>?st51) AllReadyH.nil
         case ho51=>(simp only [List.getElem?_toArray,List.getElem?_cons_zero,List.getElem?_cons_succ];rfl)
         rw [if_pos (by rfl)]
         refine wp_store_mid 39 (.tmp 6) (.tmp 35) rfl gs50 0 (subA R.sub v46) rfl rfl (blk_there HK50.out (Nat.le_refl 34)) (by kernel_rfl) (subA_one HM50.out.ok.1 HM50.out.ok.2) ?_
         have hk2:Blk (World.setCells w150 gs50 0 (subA R.sub v46).toList) gs50 39 (subA R.sub v46):=blk_setCells (subA R.sub v46).toList (off:=0) HK50.out (Nat.le_refl 34)
         have hf2:Fr (fun k=>k=gs50) w150 (World.setCells w150 gs50 0 (subA R.sub v46).toList):=fr_setCells gs50 (subA R.sub v46).toList 0 w150
         obtain ⟨w151,hu⟩:∃ u,World.setCells w150 gs50 0 (subA R.sub v46).toList=u:=⟨_,rfl⟩
         rw [hu] at hk2 hf2 ⊢
         clear hu
         have HFIN:Hid (FulCut w p m R (.pointer (some ⟨gs50,0,none⟩)) (.int .i64 R.err) w151):=hid ⟨gs50,rfl,rfl,hk2.cell 0,(HT50.out.set (.inr rfl) HK50.out (by decide) (by decide) hf2).mono (fun k h=>.inl h),HB50.out.trans (hf2.to_below HB50.out.size (fun k e=>e▸HGE_gs50.out))⟩
         clear hk2 hf2
         refine hK.out _ _ trivial (fun hHeld=>?_)
         clear hK K
         try simp only [Act.put,List.setIfInBounds_toArray,List.set_cons_zero,List.set_cons_succ]
         refine wpAnyH_take (i:=14) (oi:=?oi52) (v:=?v52) ?ho52 ?ka52 ?kb52 ?kc52 (fun _ _ _ h=>h) (Or.inl ⟨?kw52,?hy52⟩) (by assumption) ?rest52
         case ho52=>(simp only [List.getElem?_toArray,List.getElem?_cons_zero,List.getElem?_cons_succ];rfl)
         case ka52=>kernel_rfl
         case kb52=>kernel_rfl
         case kc52=>kernel_rfl
         case kw52=>rfl
         case hy52=>(intro wq hSw;(try dsimp only at hSw);go_simp;try with_reducible rfl)
         try simp only [Act.put,List.setIfInBounds_toArray,List.set_cons_zero,List.set_cons_succ]
         refine wpAnyH_done (by kernel_rfl) ?_ _
         refine NoPanic.normal ?_
         go_wp2_with fail
         go_meet
         exact HFIN.out
        case mo46 =>
         refine AllReadyH.cons (o:=?oi53) ?ho53 (fun K hK=>?st53) AllReadyH.nil
         case ho53=>(simp only [List.getElem?_toArray,List.getElem?_cons_zero,List.getElem?_cons_succ];rfl)
         go_simp
         have hb:Below w143.heap.size w143 (w143.alloc (.cells sub0 39)):=(Below.refl _ _).alloc (Nat.le_refl _) _
         have hk:Blk (w143.alloc (.cells sub0 39)) w143.heap.size 39 sub0:=Blk.new _ _ _
         have ht:=HT43.out.own (g:=w143.heap.size) hb (Nat.le_refl _) (by simp)
         have hbb:=thenB_ HB43.out hb
         have hy:=HY43.out.fr (Fr.of_below (F:=fun _=>False) hb) (fun h=>h)
         have hq:=(HQ43.out.below hb).up hb.size
         unfold sub0 at hb hk ht hbb hy hq
         obtain ⟨w153,hu⟩:∃ u,w143.alloc (.cells #[.int .i64 0,.string ⟨#[]⟩,.string ⟨#[]⟩,.string ⟨#[]⟩,.slice none 0 0,.int .i64 0,.string ⟨#[]⟩,.int .i64 0,.string ⟨#[]⟩,.string ⟨#[]⟩,.string ⟨#[]⟩,.string ⟨#[]⟩,.string ⟨#[]⟩,.int .i64 0,.slice none 0 0,.slice none 0 0,.slice none 0 0,.string ⟨#[]⟩,.string ⟨#[]⟩,.string ⟨#[]⟩,.string ⟨#[]⟩,.int .i64 0,.slice none 0 0,.slice none 0 0,.slice none 0 0,.string ⟨#[]⟩,.string ⟨#[]⟩,.string ⟨#[]⟩,.int .i64 0,.slice none 0 0,.slice none 0 0,.slice none 0 0,.int .i64 0,.int .i64 0] 39)=u:=⟨_,rfl⟩
         rw [hu] at hk ht hbb hy hq ⊢
         clear hu hb
         have hge:w.heap.size<=w143.heap.size:=HB43.out.size
         obtain ⟨gs53,hgs⟩:∃ gs,w143.heap.size=gs:=⟨_,rfl⟩
         simp only [hgs] at hk ht hge ⊢
         clear hgs
         have HGE_gs53:=hid hge
         clear hge
         have HK53:Hid (Blk w153 gs53 39 sub0):=hid hk
         have HT53:=hid ht
         have HB53:=hid hbb
         have HY53:=hid hy
         have HQ53:=hid hq
         clear hk ht hbb hy hq
         refine hK.out _ _ trivial (fun hHeld=>?_)
         clear hK K
         try simp only [Act.put,List.setIfInBounds_toArray,List.set_cons_zero,List.set_cons_succ]
         refine wpAnyH_ready (rs:=[8]) (by kernel_rfl) (by simp) ?_
         refine AllReadyH.cons (o:=?oi54) ?ho54 (fun K hK=>?st54) AllReadyH.nil
         case ho54=>(simp only [List.getElem?_toArray,List.getElem?_cons_zero,List.getElem?_cons_succ];rfl)
         go_simp
         refine (HBE.out _ _ _ HT53.out HQ53.out).mono ?_
         rintro e w154 ⟨v54,rfl,m1,t1⟩
         have HM54:=hid m1
         have HT54:=hid t1.tab
         have HB54:Hid (Below w.heap.size w w154):=hid (HB53.out.trans (below_out t1.fr (fun k h=>.inl h) HB53.out.size))
         have HK54:=hid (HK53.out.out (.inr rfl) t1.fr)
         clear m1 t1
         go_wp2_with fail
         refine hK.out _ _ trivial (fun hHeld=>?_)
         clear hK K
         try simp only [Act.put,List.setIfInBounds_toArray,List.set_cons_zero,List.set_cons_succ]
         refine wpAnyH_take (i:=9) (oi:=?oi55) (v:=?v55) ?ho55 ?ka55 ?kb55 ?kc55 (fun _ _ _ h=>h) (Or.inl ⟨?kw55,?hy55⟩) (by assumption) ?rest55
         case ho55=>(simp only [List.getElem?_toArray,List.getElem?_cons_zero,List.getElem?_cons_succ];rfl)
         case ka55=>kernel_rfl
         case kb55=>kernel_rfl
         case kc55=>kernel_rfl
         case kw55=>rfl
         case hy55=>(intro wq hSw;(try dsimp only at hSw);go_simp;try with_reducible rfl)
         try simp only [Act.put,List.setIfInBounds_toArray,List.set_cons_zero,List.set_cons_succ]
         refine wpAnyH_take (i:=10) (oi:=?oi56) (v:=?v56) ?ho56 ?ka56 ?kb56 ?kc56 (fun _ _ _ h=>h) (Or.inl ⟨?kw56,?hy56⟩) (by assumption) ?rest56
         case ho56=>(simp only [List.getElem?_toArray,List.getElem?_cons_zero,List.getElem?_cons_succ];rfl)
         case ka56=>kernel_rfl
         case kb56=>kernel_rfl
         case kc56=>kernel_rfl
         case kw56=>rfl
         case hy56=>(intro wq hSw;(try dsimp only at hSw);go_simp;try with_reducible rfl)
         try simp only [Act.put,List.setIfInBounds_toArray,List.set_cons_zero,List.set_cons_succ]
         refine wpAnyH_take (i:=11) (oi:=?oi57) (v:=?v57) ?ho57 ?ka57 ?kb57 ?kc57 (fun _ _ _ h=>h) (Or.inl ⟨?kw57,?hy57⟩) (by assumption) ?rest57
         case ho57=>(simp only [List.getElem?_toArray,List.getElem?_cons_zero,List.getElem?_cons_succ];rfl)
         case ka57=>kernel_rfl
         case kb57=>kernel_rfl
         case kc57=>kernel_rfl
         case kw57=>rfl
         case hy57=>(intro wq hSw;(try dsimp only at hSw);go_simp;try with_reducible rfl)
         try simp only [Act.put,List.setIfInBounds_toArray,List.set_cons_zero,List.set_cons_succ]
         refine wpAnyH_ready (rs:=[13]) (by kernel_rfl) (by simp) ?_
         refine AllReadyH.cons (o:=?oi58) ?ho58 (fun K hK=>?st58) AllReadyH.nil
         case ho58=>(simp only [List.getElem?_toArray,List.getElem?_cons_zero,List.getElem?_cons_succ];rfl)
         rw [if_pos (by rfl)]
         refine wp_store_mid 39 (.tmp 6) (.tmp 35) rfl gs53 0 (subA R.sub v54) rfl rfl (blk_there HK54.out (Nat.le_refl 34)) (by kernel_rfl) (subA_one HM54.out.ok.1 HM54.out.ok.2) ?_
         have hk2:Blk (World.setCells w154 gs53 0 (subA R.sub v54).toList) gs53 39 (subA R.sub v54):=blk_setCells (subA R.sub v54).toList (off:=0) HK54.out (Nat.le_refl 34)
         have hf2:Fr (fun k=>k=gs53) w154 (World.setCells w154 gs53 0 (subA R.sub v54).toList):=fr_setCells gs53 (subA R.sub v54).toList 0 w154
         obtain ⟨w158,hu⟩:∃ u,World.setCells w154 gs53 0 (subA R.sub v54).toList=u:=⟨_,rfl⟩
         rw [hu] at hk2 hf2 ⊢
         clear hu
         have HFIN:Hid (FulCut w p m R (.pointer (some ⟨gs53,0,none⟩)) (.int .i64 R.err) w158):=hid ⟨gs53,rfl,rfl,hk2.cell 0,(HT54.out.set (.inr rfl) HK54.out (by decide) (by decide) hf2).mono (fun k h=>.inl h),HB54.out.trans (hf2.to_below HB54.out.size (fun k e=>e▸HGE_gs53.out))⟩
         clear hk2 hf2
         refine hK.out _ _ trivial (fun hHeld=>?_)
         clear hK K
         try simp only [Act.put,List.setIfInBounds_toArray,List.set_cons_zero,List.set_cons_succ]
         refine wpAnyH_take (i:=14) (oi:=?oi59) (v:=?v59) ?ho59 ?ka59 ?kb59 ?kc59 (fun _ _ _ h=>h) (Or.inl ⟨?kw59,?hy59⟩) (by assumption) ?rest59
         case ho59=>(simp only [List.getElem?_toArray,List.getElem?_cons_zero,List.getElem?_cons_succ];rfl)
         case ka59=>kernel_rfl
         case kb59=>kernel_rfl
         case kc59=>kernel_rfl
         case kw59=>rfl
         case hy59=>(intro wq hSw;(try dsimp only at hSw);go_simp;try with_reducible rfl)
         try simp only [Act.put,List.setIfInBounds_toArray,List.set_cons_zero,List.set_cons_succ]
         refine wpAnyH_done (by kernel_rfl) ?_ _
         refine NoPanic.normal ?_
         go_wp2_with fail
         go_meet
         exact HFIN.out
       case mo44 =>
        refine AllReadyH.cons (o:=?oi60) ?ho60 (fun K hK=>?st60) AllReadyH.nil
        case ho60=>(simp only [List.getElem?_toArray,List.getElem?_cons_zero,List.getElem?_cons_succ];rfl)
        go_simp
        have hb:Below w143.heap.size w143 (w143.alloc (.cells sub0 39)):=(Below.refl _ _).alloc (Nat.le_refl _) _
        have hk:Blk (w143.alloc (.cells sub0 39)) w143.heap.size 39 sub0:=Blk.new _ _ _
        have ht:=HT43.out.own (g:=w143.heap.size) hb (Nat.le_refl _) (by simp)
        have hbb:=thenB_ HB43.out hb
        have hy:=HY43.out.fr (Fr.of_below (F:=fun _=>False) hb) (fun h=>h)
        have hq:=(HQ43.out.below hb).up hb.size
        unfold sub0 at hb hk ht hbb hy hq
        obtain ⟨w160,hu⟩:∃ u,w143.alloc (.cells #[.int .i64 0,.string ⟨#[]⟩,.string ⟨#[]⟩,.string ⟨#[]⟩,.slice none 0 0,.int .i64 0,.string ⟨#[]⟩,.int .i64 0,.string ⟨#[]⟩,.string ⟨#[]⟩,.string ⟨#[]⟩,.string ⟨#[]⟩,.string ⟨#[]⟩,.int .i64 0,.slice none 0 0,.slice none 0 0,.slice none 0 0,.string ⟨#[]⟩,.string ⟨#[]⟩,.string ⟨#[]⟩,.string ⟨#[]⟩,.int .i64 0,.slice none 0 0,.slice none 0 0,.slice none 0 0,.string ⟨#[]⟩,.string ⟨#[]⟩,.string ⟨#[]⟩,.int .i64 0,.slice none 0 0,.slice none 0 0,.slice none 0 0,.int .i64 0,.int .i64 0] 39)=u:=⟨_,rfl⟩
        rw [hu] at hk ht hbb hy hq ⊢
        clear hu hb
        have hge:w.heap.size<=w143.heap.size:=HB43.out.size
        obtain ⟨gs60,hgs⟩:∃ gs,w143.heap.size=gs:=⟨_,rfl⟩
        simp only [hgs] at hk ht hge ⊢
        clear hgs
        have HGE_gs60:=hid hge
        clear hge
        have HK60:Hid (Blk w160 gs60 39 sub0):=hid hk
        have HT60:=hid ht
        have HB60:=hid hbb
        have HY60:=hid hy
        have HQ60:=hid hq
        clear hk ht hbb hy hq
        refine hK.out _ _ trivial (fun hHeld=>?_)
        clear hK K
        try simp only [Act.put,List.setIfInBounds_toArray,List.set_cons_zero,List.set_cons_succ]
        refine wpAnyH_ready (rs:=[6]) (by kernel_rfl) (by simp) ?_
        refine AllReadyH.cons (o:=?oi61) ?ho61 (fun K hK=>?st61) AllReadyH.nil
        case ho61=>(simp only [List.getElem?_toArray,List.getElem?_cons_zero,List.getElem?_cons_succ];rfl)
        have hcv:=run_string_own (P:=Tryz.prog) 59 9 5 Tryz.underlying59 Tryz.underlying5 Tryz.underlying9 (one_row HY60.out)
        go_simp
        clear hcv
        refine hK.out _ _ trivial (fun hHeld=>?_)
        clear hK K
        try simp only [Act.put,List.setIfInBounds_toArray,List.set_cons_zero,List.set_cons_succ]
        have ha1:=HADD.out
        refine wpAnyH_take (i:=7) (oi:=?oi62) (v:=?v62) ?ho62 ?ka62 ?kb62 ?kc62 (fun _ _ _ h=>h) (Or.inl ⟨?kw62,?hy62⟩) (by assumption) ?rest62
        case ho62=>(simp only [List.getElem?_toArray,List.getElem?_cons_zero,List.getElem?_cons_succ];rfl)
        case ka62=>kernel_rfl
        case kb62=>kernel_rfl
        case kc62=>kernel_rfl
        case kw62=>rfl
        case hy62=>(intro wq hSw;(try dsimp only at hSw);go_simp;try with_reducible rfl)
        try simp only [Act.put,List.setIfInBounds_toArray,List.set_cons_zero,List.set_cons_succ]
        clear ha1
        refine wpAnyH_ready (rs:=[8]) (by kernel_rfl) (by simp) ?_
        refine AllReadyH.cons (o:=?oi63) ?ho63 (fun K hK=>?st63) AllReadyH.nil
        case ho63=>(simp only [List.getElem?_toArray,List.getElem?_cons_zero,List.getElem?_cons_succ];rfl)
        go_simp
        refine (HBE.out _ _ _ HT60.out HQ60.out).mono ?_
        rintro e w163 ⟨v63,rfl,m1,t1⟩
        have HM63:=hid m1
        have HT63:=hid t1.tab
        have HB63:Hid (Below w.heap.size w w163):=hid (HB60.out.trans (below_out t1.fr (fun k h=>.inl h) HB60.out.size))
        have HK63:=hid (HK60.out.out (.inr rfl) t1.fr)
        clear m1 t1
        go_wp2_with fail
        refine hK.out _ _ trivial (fun hHeld=>?_)
        clear hK K
        try simp only [Act.put,List.setIfInBounds_toArray,List.set_cons_zero,List.set_cons_succ]
        refine wpAnyH_take (i:=9) (oi:=?oi64) (v:=?v64) ?ho64 ?ka64 ?kb64 ?kc64 (fun _ _ _ h=>h) (Or.inl ⟨?kw64,?hy64⟩) (by assumption) ?rest64
        case ho64=>(simp only [List.getElem?_toArray,List.getElem?_cons_zero,List.getElem?_cons_succ];rfl)
        case ka64=>kernel_rfl
        case kb64=>kernel_rfl
        case kc64=>kernel_rfl
        case kw64=>rfl
        case hy64=>(intro wq hSw;(try dsimp only at hSw);go_simp;try with_reducible rfl)
        try simp only [Act.put,List.setIfInBounds_toArray,List.set_cons_zero,List.set_cons_succ]
        refine wpAnyH_take (i:=10) (oi:=?oi65) (v:=?v65) ?ho65 ?ka65 ?kb65 ?kc65 (fun _ _ _ h=>h) (Or.inl ⟨?kw65,?hy65⟩) (by assumption) ?rest65
        case ho65=>(simp only [List.getElem?_toArray,List.getElem?_cons_zero,List.getElem?_cons_succ];rfl)
        case ka65=>kernel_rfl
        case kb65=>kernel_rfl
        case kc65=>kernel_rfl
        case kw65=>rfl
        case hy65=>(intro wq hSw;(try dsimp only at hSw);go_simp;try with_reducible rfl)
        try simp only [Act.put,List.setIfInBounds_toArray,List.set_cons_zero,List.set_cons_succ]
        refine wpAnyH_take (i:=11) (oi:=?oi66) (v:=?v66) ?ho66 ?ka66 ?kb66 ?kc66 (fun _ _ _ h=>h) (Or.inl ⟨?kw66,?hy66⟩) (by assumption) ?rest66
        case ho66=>(simp only [List.getElem?_toArray,List.getElem?_cons_zero,List.getElem?_cons_succ];rfl)
        case ka66=>kernel_rfl
        case kb66=>kernel_rfl
        case kc66=>kernel_rfl
        case kw66=>rfl
        case hy66=>(intro wq hSw;(try dsimp only at hSw);go_simp;try with_reducible rfl)
        try simp only [Act.put,List.setIfInBounds_toArray,List.set_cons_zero,List.set_cons_succ]
        refine wpAnyH_ready (rs:=[13]) (by kernel_rfl) (by simp) ?_
        refine AllReadyH.cons (o:=?oi67) ?ho67 (fun K hK=>?st67) AllReadyH.nil
        case ho67=>(simp only [List.getElem?_toArray,List.getElem?_cons_zero,List.getElem?_cons_succ];rfl)
        rw [if_pos (by rfl)]
        refine wp_store_mid 39 (.tmp 6) (.tmp 35) rfl gs60 0 (subA R.sub v63) rfl rfl (blk_there HK63.out (Nat.le_refl 34)) (by kernel_rfl) (subA_one HM63.out.ok.1 HM63.out.ok.2) ?_
        have hk2:Blk (World.setCells w163 gs60 0 (subA R.sub v63).toList) gs60 39 (subA R.sub v63):=blk_setCells (subA R.sub v63).toList (off:=0) HK63.out (Nat.le_refl 34)
        have hf2:Fr (fun k=>k=gs60) w163 (World.setCells w163 gs60 0 (subA R.sub v63).toList):=fr_setCells gs60 (subA R.sub v63).toList 0 w163
        obtain ⟨w167,hu⟩:∃ u,World.setCells w163 gs60 0 (subA R.sub v63).toList=u:=⟨_,rfl⟩
        rw [hu] at hk2 hf2 ⊢
        clear hu
        have HFIN:Hid (FulCut w p m R (.pointer (some ⟨gs60,0,none⟩)) (.int .i64 R.err) w167):=hid ⟨gs60,rfl,rfl,hk2.cell 0,(HT63.out.set (.inr rfl) HK63.out (by decide) (by decide) hf2).mono (fun k h=>.inl h),HB63.out.trans (hf2.to_below HB63.out.size (fun k e=>e▸HGE_gs60.out))⟩
        clear hk2 hf2
        refine hK.out _ _ trivial (fun hHeld=>?_)
        clear hK K
        try simp only [Act.put,List.setIfInBounds_toArray,List.set_cons_zero,List.set_cons_succ]
        refine wpAnyH_take (i:=14) (oi:=?oi68) (v:=?v68) ?ho68 ?ka68 ?kb68 ?kc68 (fun _ _ _ h=>h) (Or.inl ⟨?kw68,?hy68⟩) (by assumption) ?rest68
        case ho68=>(simp only [List.getElem?_toArray,List.getElem?_cons_zero,List.getElem?_cons_succ];rfl)
        case ka68=>kernel_rfl
        case kb68=>kernel_rfl
        case kc68=>kernel_rfl
        case kw68=>rfl
        case hy68=>(intro wq hSw;(try dsimp only at hSw);go_simp;try with_reducible rfl)
        try simp only [Act.put,List.setIfInBounds_toArray,List.set_cons_zero,List.set_cons_succ]
        refine wpAnyH_done (by kernel_rfl) ?_ _
        refine NoPanic.normal ?_
        go_wp2_with fail
        go_meet
        exact HFIN.out
      case mo43 =>
       refine AllReadyH.cons (o:=?oi69) ?ho69 (fun K hK=>?st69) ?mo69
       case ho69=>(simp only [List.getElem?_toArray,List.getElem?_cons_zero,List.getElem?_cons_succ];rfl)
       case st69 =>
        have hcv:=run_string_own (P:=Tryz.prog) 59 9 5 Tryz.underlying59 Tryz.underlying5 Tryz.underlying9 (one_row HY42.out)
        go_simp
        clear hcv
        refine hK.out _ _ trivial (fun hHeld=>?_)
        clear hK K
        try simp only [Act.put,List.setIfInBounds_toArray,List.set_cons_zero,List.set_cons_succ]
        have ha1:=HADD.out
        refine wpAnyH_take (i:=7) (oi:=?oi70) (v:=?v70) ?ho70 ?ka70 ?kb70 ?kc70 (fun _ _ _ h=>h) (Or.inl ⟨?kw70,?hy70⟩) (by assumption) ?rest70
        case ho70=>(simp only [List.getElem?_toArray,List.getElem?_cons_zero,List.getElem?_cons_succ];rfl)
        case ka70=>kernel_rfl
        case kb70=>kernel_rfl
        case kc70=>kernel_rfl
        case kw70=>rfl
        case hy70=>(intro wq hSw;(try dsimp only at hSw);go_simp;try with_reducible rfl)
        try simp only [Act.put,List.setIfInBounds_toArray,List.set_cons_zero,List.set_cons_succ]
        clear ha1
        refine wpAnyH_ready (rs:=[1,12]) (by kernel_rfl) (by simp) ?_
        refine AllReadyH.cons (o:=?oi71) ?ho71 (fun K hK=>?st71) ?mo71
        case ho71=>(simp only [List.getElem?_toArray,List.getElem?_cons_zero,List.getElem?_cons_succ];rfl)
        case st71 =>
         go_simp
         refine (HRQ.out _).mono ?_
         rintro e w171 ⟨q71,rfl,hr,hb⟩
         have HT71:=hid (HT42.out.below hb)
         have HB71:=hid (thenB_ HB42.out hb)
         have HQ71:=hid hr
         have HY71:=hid (HY42.out.fr (Fr.of_below (F:=fun _=>False) hb) (fun h=>h))
         clear hr hb
         go_wp2_with fail
         refine hK.out _ _ trivial (fun hHeld=>?_)
         clear hK K
         try simp only [Act.put,List.setIfInBounds_toArray,List.set_cons_zero,List.set_cons_succ]
         refine wpAnyH_ready (rs:=[8,12]) (by kernel_rfl) (by simp) ?_
         refine AllReadyH.cons (o:=?oi72) ?ho72 (fun K hK=>?st72) ?mo72
         case ho72=>(simp only [List.getElem?_toArray,List.getElem?_cons_zero,List.getElem?_cons_succ];rfl)
         case st72 =>
          go_simp
          refine (HBE.out _ _ _ HT71.out HQ71.out).mono ?_
          rintro e w172 ⟨v72,rfl,m1,t1⟩
          have HM72:=hid m1
          have HT72:=hid t1.tab
          have HB72:Hid (Below w.heap.size w w172):=hid (HB71.out.trans (below_out t1.fr (fun k h=>h) HB71.out.size))
          clear m1 t1
          go_wp2_with fail
          refine hK.out _ _ trivial (fun hHeld=>?_)
          clear hK K
          try simp only [Act.put,List.setIfInBounds_toArray,List.set_cons_zero,List.set_cons_succ]
          refine wpAnyH_take (i:=9) (oi:=?oi73) (v:=?v73) ?ho73 ?ka73 ?kb73 ?kc73 (fun _ _ _ h=>h) (Or.inl ⟨?kw73,?hy73⟩) (by assumption) ?rest73
          case ho73=>(simp only [List.getElem?_toArray,List.getElem?_cons_zero,List.getElem?_cons_succ];rfl)
          case ka73=>kernel_rfl
          case kb73=>kernel_rfl
          case kc73=>kernel_rfl
          case kw73=>rfl
          case hy73=>(intro wq hSw;(try dsimp only at hSw);go_simp;try with_reducible rfl)
          try simp only [Act.put,List.setIfInBounds_toArray,List.set_cons_zero,List.set_cons_succ]
          refine wpAnyH_take (i:=10) (oi:=?oi74) (v:=?v74) ?ho74 ?ka74 ?kb74 ?kc74 (fun _ _ _ h=>h) (Or.inl ⟨?kw74,?hy74⟩) (by assumption) ?rest74
          case ho74=>(simp only [List.getElem?_toArray,List.getElem?_cons_zero,List.getElem?_cons_succ];rfl)
          case ka74=>kernel_rfl
          case kb74=>kernel_rfl
          case kc74=>kernel_rfl
          case kw74=>rfl
          case hy74=>(intro wq hSw;(try dsimp only at hSw);go_simp;try with_reducible rfl)
          try simp only [Act.put,List.setIfInBounds_toArray,List.set_cons_zero,List.set_cons_succ]
          refine wpAnyH_take (i:=11) (oi:=?oi75) (v:=?v75) ?ho75 ?ka75 ?kb75 ?kc75 (fun _ _ _ h=>h) (Or.inl ⟨?kw75,?hy75⟩) (by assumption) ?rest75
          case ho75=>(simp only [List.getElem?_toArray,List.getElem?_cons_zero,List.getElem?_cons_succ];rfl)
          case ka75=>kernel_rfl
          case kb75=>kernel_rfl
          case kc75=>kernel_rfl
          case kw75=>rfl
          case hy75=>(intro wq hSw;(try dsimp only at hSw);go_simp;try with_reducible rfl)
          try simp only [Act.put,List.setIfInBounds_toArray,List.set_cons_zero,List.set_cons_succ]
          refine wpAnyH_ready (rs:=[12]) (by kernel_rfl) (by simp) ?_
          refine AllReadyH.cons (o:=?oi76) ?ho76 (fun K hK=>?st76) AllReadyH.nil
          case ho76=>(simp only [List.getElem?_toArray,List.getElem?_cons_zero,List.getElem?_cons_succ];rfl)
          go_simp
          have hb:Below w172.heap.size w172 (w172.alloc (.cells sub0 39)):=(Below.refl _ _).alloc (Nat.le_refl _) _
          have hk:Blk (w172.alloc (.cells sub0 39)) w172.heap.size 39 sub0:=Blk.new _ _ _
          have ht:=HT72.out.own (g:=w172.heap.size) hb (Nat.le_refl _) (by simp)
          have hbb:=thenB_ HB72.out hb
          have hmm:=HM72.out.below hb
          unfold sub0 at hb hk ht hbb hmm
          obtain ⟨w176,hu⟩:∃ u,w172.alloc (.cells #[.int .i64 0,.string ⟨#[]⟩,.string ⟨#[]⟩,.string ⟨#[]⟩,.slice none 0 0,.int .i64 0,.string ⟨#[]⟩,.int .i64 0,.string ⟨#[]⟩,.string ⟨#[]⟩,.string ⟨#[]⟩,.string ⟨#[]⟩,.string ⟨#[]⟩,.int .i64 0,.slice none 0 0,.slice none 0 0,.slice none 0 0,.string ⟨#[]⟩,.string ⟨#[]⟩,.string ⟨#[]⟩,.string ⟨#[]⟩,.int .i64 0,.slice none 0 0,.slice none 0 0,.slice none 0 0,.string ⟨#[]⟩,.string ⟨#[]⟩,.string ⟨#[]⟩,.int .i64 0,.slice none 0 0,.slice none 0 0,.slice none 0 0,.int .i64 0,.int .i64 0] 39)=u:=⟨_,rfl⟩
          rw [hu] at hk ht hbb hmm ⊢
          clear hu hb
          have hge:w.heap.size<=w172.heap.size:=HB72.out.size
          obtain ⟨gs76,hgs⟩:∃ gs,w172.heap.size=gs:=⟨_,rfl⟩
          simp only [hgs] at hk ht hge ⊢
          clear hgs
          have HGE_gs76:=hid hge
          clear hge
          have HK76:Hid (Blk w176 gs76 39 sub0):=hid hk
          have HT76:=hid ht
          have HB76:=hid hbb
          have HM76:=hid hmm
          clear hk ht hbb hmm
          refine hK.out _ _ trivial (fun hHeld=>?_)
          clear hK K
          try simp only [Act.put,List.setIfInBounds_toArray,List.set_cons_zero,List.set_cons_succ]
          refine wpAnyH_ready (rs:=[13]) (by kernel_rfl) (by simp) ?_
          refine AllReadyH.cons (o:=?oi77) ?ho77 (fun K hK=>?st77) AllReadyH.nil
          case ho77=>(simp only [List.getElem?_toArray,List.getElem?_cons_zero,List.getElem?_cons_succ];rfl)
          rw [if_pos (by rfl)]
          refine wp_store_mid 39 (.tmp 6) (.tmp 35) rfl gs76 0 (subA R.sub v72) rfl rfl (blk_there HK76.out (Nat.le_refl 34)) (by kernel_rfl) (subA_one HM76.out.ok.1 HM76.out.ok.2) ?_
          have hk2:Blk (World.setCells w176 gs76 0 (subA R.sub v72).toList) gs76 39 (subA R.sub v72):=blk_setCells (subA R.sub v72).toList (off:=0) HK76.out (Nat.le_refl 34)
          have hf2:Fr (fun k=>k=gs76) w176 (World.setCells w176 gs76 0 (subA R.sub v72).toList):=fr_setCells gs76 (subA R.sub v72).toList 0 w176
          obtain ⟨w177,hu⟩:∃ u,World.setCells w176 gs76 0 (subA R.sub v72).toList=u:=⟨_,rfl⟩
          rw [hu] at hk2 hf2 ⊢
          clear hu
          have HFIN:Hid (FulCut w p m R (.pointer (some ⟨gs76,0,none⟩)) (.int .i64 R.err) w177):=hid ⟨gs76,rfl,rfl,hk2.cell 0,(HT76.out.set (.inr rfl) HK76.out (by decide) (by decide) hf2).mono (fun k h=>.inl h),HB76.out.trans (hf2.to_below HB76.out.size (fun k e=>e▸HGE_gs76.out))⟩
          clear hk2 hf2
          refine hK.out _ _ trivial (fun hHeld=>?_)
          clear hK K
          try simp only [Act.put,List.setIfInBounds_toArray,List.set_cons_zero,List.set_cons_succ]
          refine wpAnyH_take (i:=14) (oi:=?oi78) (v:=?v78) ?ho78 ?ka78 ?kb78 ?kc78 (fun _ _ _ h=>h) (Or.inl ⟨?kw78,?hy78⟩) (by assumption) ?rest78
          case ho78=>(simp only [List.getElem?_toArray,List.getElem?_cons_zero,List.getElem?_cons_succ];rfl)
          case ka78=>kernel_rfl
          case kb78=>kernel_rfl
          case kc78=>kernel_rfl
          case kw78=>rfl
          case hy78=>(intro wq hSw;(try dsimp only at hSw);go_simp;try with_reducible rfl)
          try simp only [Act.put,List.setIfInBounds_toArray,List.set_cons_zero,List.set_cons_succ]
          refine wpAnyH_done (by kernel_rfl) ?_ _
          refine NoPanic.normal ?_
          go_wp2_with fail
          go_meet
          exact HFIN.out
         case mo72 =>
          refine AllReadyH.cons (o:=?oi79) ?ho79 (fun K hK=>?st79) AllReadyH.nil
          case ho79=>(simp only [List.getElem?_toArray,List.getElem?_cons_zero,List.getElem?_cons_succ];rfl)
          go_simp
          have hb:Below w171.heap.size w171 (w171.alloc (.cells sub0 39)):=(Below.refl _ _).alloc (Nat.le_refl _) _
          have hk:Blk (w171.alloc (.cells sub0 39)) w171.heap.size 39 sub0:=Blk.new _ _ _
          have ht:=HT71.out.own (g:=w171.heap.size) hb (Nat.le_refl _) (by simp)
          have hbb:=thenB_ HB71.out hb
          have hy:=HY71.out.fr (Fr.of_below (F:=fun _=>False) hb) (fun h=>h)
          have hq:=(HQ71.out.below hb).up hb.size
          unfold sub0 at hb hk ht hbb hy hq
          obtain ⟨w179,hu⟩:∃ u,w171.alloc (.cells #[.int .i64 0,.string ⟨#[]⟩,.string ⟨#[]⟩,.string ⟨#[]⟩,.slice none 0 0,.int .i64 0,.string ⟨#[]⟩,.int .i64 0,.string ⟨#[]⟩,.string ⟨#[]⟩,.string ⟨#[]⟩,.string ⟨#[]⟩,.string ⟨#[]⟩,.int .i64 0,.slice none 0 0,.slice none 0 0,.slice none 0 0,.string ⟨#[]⟩,.string ⟨#[]⟩,.string ⟨#[]⟩,.string ⟨#[]⟩,.int .i64 0,.slice none 0 0,.slice none 0 0,.slice none 0 0,.string ⟨#[]⟩,.string ⟨#[]⟩,.string ⟨#[]⟩,.int .i64 0,.slice none 0 0,.slice none 0 0,.slice none 0 0,.int .i64 0,.int .i64 0] 39)=u:=⟨_,rfl⟩
          rw [hu] at hk ht hbb hy hq ⊢
          clear hu hb
          have hge:w.heap.size<=w171.heap.size:=HB71.out.size
          obtain ⟨gs79,hgs⟩:∃ gs,w171.heap.size=gs:=⟨_,rfl⟩
          simp only [hgs] at hk ht hge ⊢
          clear hgs
          have HGE_gs79:=hid hge
          clear hge
          have HK79:Hid (Blk w179 gs79 39 sub0):=hid hk
          have HT79:=hid ht
          have HB79:=hid hbb
          have HY79:=hid hy
          have HQ79:=hid hq
          clear hk ht hbb hy hq
          refine hK.out _ _ trivial (fun hHeld=>?_)
          clear hK K
          try simp only [Act.put,List.setIfInBounds_toArray,List.set_cons_zero,List.set_cons_succ]
          refine wpAnyH_ready (rs:=[8]) (by kernel_rfl) (by simp) ?_
          refine AllReadyH.cons (o:=?oi80) ?ho80 (fun K hK=>?st80) AllReadyH.nil
          case ho80=>(simp only [List.getElem?_toArray,List.getElem?_cons_zero,List.getElem?_cons_succ];rfl)
          go_simp
          refine (HBE.out _ _ _ HT79.out HQ79.out).mono ?_
          rintro e w180 ⟨v80,rfl,m1,t1⟩
          have HM80:=hid m1
          have HT80:=hid t1.tab
          have HB80:Hid (Below w.heap.size w w180):=hid (HB79.out.trans (below_out t1.fr (fun k h=>.inl h) HB79.out.size))
          have HK80:=hid (HK79.out.out (.inr rfl) t1.fr)
          clear m1 t1
          go_wp2_with fail
          refine hK.out _ _ trivial (fun hHeld=>?_)
          clear hK K
          try simp only [Act.put,List.setIfInBounds_toArray,List.set_cons_zero,List.set_cons_succ]
          refine wpAnyH_take (i:=9) (oi:=?oi81) (v:=?v81) ?ho81 ?ka81 ?kb81 ?kc81 (fun _ _ _ h=>h) (Or.inl ⟨?kw81,?hy81⟩) (by assumption) ?rest81
          case ho81=>(simp only [List.getElem?_toArray,List.getElem?_cons_zero,List.getElem?_cons_succ];rfl)
          case ka81=>kernel_rfl
          case kb81=>kernel_rfl
          case kc81=>kernel_rfl
          case kw81=>rfl
          case hy81=>(intro wq hSw;(try dsimp only at hSw);go_simp;try with_reducible rfl)
          try simp only [Act.put,List.setIfInBounds_toArray,List.set_cons_zero,List.set_cons_succ]
          refine wpAnyH_take (i:=10) (oi:=?oi82) (v:=?v82) ?ho82 ?ka82 ?kb82 ?kc82 (fun _ _ _ h=>h) (Or.inl ⟨?kw82,?hy82⟩) (by assumption) ?rest82
          case ho82=>(simp only [List.getElem?_toArray,List.getElem?_cons_zero,List.getElem?_cons_succ];rfl)
          case ka82=>kernel_rfl
          case kb82=>kernel_rfl
          case kc82=>kernel_rfl
          case kw82=>rfl
          case hy82=>(intro wq hSw;(try dsimp only at hSw);go_simp;try with_reducible rfl)
          try simp only [Act.put,List.setIfInBounds_toArray,List.set_cons_zero,List.set_cons_succ]
          refine wpAnyH_take (i:=11) (oi:=?oi83) (v:=?v83) ?ho83 ?ka83 ?kb83 ?kc83 (fun _ _ _ h=>h) (Or.inl ⟨?kw83,?hy83⟩) (by assumption) ?rest83
          case ho83=>(simp only [List.getElem?_toArray,List.getElem?_cons_zero,List.getElem?_cons_succ];rfl)
          case ka83=>kernel_rfl
          case kb83=>kernel_rfl
          case kc83=>kernel_rfl
          case kw83=>rfl
          case hy83=>(intro wq hSw;(try dsimp only at hSw);go_simp;try with_reducible rfl)
          try simp only [Act.put,List.setIfInBounds_toArray,List.set_cons_zero,List.set_cons_succ]
          refine wpAnyH_ready (rs:=[13]) (by kernel_rfl) (by simp) ?_
          refine AllReadyH.cons (o:=?oi84) ?ho84 (fun K hK=>?st84) AllReadyH.nil
          case ho84=>(simp only [List.getElem?_toArray,List.getElem?_cons_zero,List.getElem?_cons_succ];rfl)
          rw [if_pos (by rfl)]
          refine wp_store_mid 39 (.tmp 6) (.tmp 35) rfl gs79 0 (subA R.sub v80) rfl rfl (blk_there HK80.out (Nat.le_refl 34)) (by kernel_rfl) (subA_one HM80.out.ok.1 HM80.out.ok.2) ?_
          have hk2:Blk (World.setCells w180 gs79 0 (subA R.sub v80).toList) gs79 39 (subA R.sub v80):=blk_setCells (subA R.sub v80).toList (off:=0) HK80.out (Nat.le_refl 34)
          have hf2:Fr (fun k=>k=gs79) w180 (World.setCells w180 gs79 0 (subA R.sub v80).toList):=fr_setCells gs79 (subA R.sub v80).toList 0 w180
          obtain ⟨w184,hu⟩:∃ u,World.setCells w180 gs79 0 (subA R.sub v80).toList=u:=⟨_,rfl⟩
          rw [hu] at hk2 hf2 ⊢
          clear hu
          have HFIN:Hid (FulCut w p m R (.pointer (some ⟨gs79,0,none⟩)) (.int .i64 R.err) w184):=hid ⟨gs79,rfl,rfl,hk2.cell 0,(HT80.out.set (.inr rfl) HK80.out (by decide) (by decide) hf2).mono (fun k h=>.inl h),HB80.out.trans (hf2.to_below HB80.out.size (fun k e=>e▸HGE_gs79.out))⟩
          clear hk2 hf2
          refine hK.out _ _ trivial (fun hHeld=>?_)
          clear hK K
          try simp only [Act.put,List.setIfInBounds_toArray,List.set_cons_zero,List.set_cons_succ]
          refine wpAnyH_take (i:=14) (oi:=?oi85) (v:=?v85) ?ho85 ?ka85 ?kb85 ?kc85 (fun _ _ _ h=>h) (Or.inl ⟨?kw85,?hy85⟩) (by assumption) ?rest85
          case ho85=>(simp only [List.getElem?_toArray,List.getElem?_cons_zero,List.getElem?_cons_succ];rfl)
          case ka85=>kernel_rfl
          case kb85=>kernel_rfl
          case kc85=>kernel_rfl
          case kw85=>rfl
          case hy85=>(intro wq hSw;(try dsimp only at hSw);go_simp;try with_reducible rfl)
          try simp only [Act.put,List.setIfInBounds_toArray,List.set_cons_zero,List.set_cons_succ]
          refine wpAnyH_done (by kernel_rfl) ?_ _
          refine NoPanic.normal ?_
          go_wp2_with fail
          go_meet
          exact HFIN.out
        case mo71 =>
         refine AllReadyH.cons (o:=?oi86) ?ho86 (fun K hK=>?st86) AllReadyH.nil
         case ho86=>(simp only [List.getElem?_toArray,List.getElem?_cons_zero,List.getElem?_cons_succ];rfl)
         go_simp
         have hb:Below w142.heap.size w142 (w142.alloc (.cells sub0 39)):=(Below.refl _ _).alloc (Nat.le_refl _) _
         have hk:Blk (w142.alloc (.cells sub0 39)) w142.heap.size 39 sub0:=Blk.new _ _ _
         have ht:=HT42.out.own (g:=w142.heap.size) hb (Nat.le_refl _) (by simp)
         have hbb:=thenB_ HB42.out hb
         have hy:=HY42.out.fr (Fr.of_below (F:=fun _=>False) hb) (fun h=>h)
         unfold sub0 at hb hk ht hbb hy
         obtain ⟨w186,hu⟩:∃ u,w142.alloc (.cells #[.int .i64 0,.string ⟨#[]⟩,.string ⟨#[]⟩,.string ⟨#[]⟩,.slice none 0 0,.int .i64 0,.string ⟨#[]⟩,.int .i64 0,.string ⟨#[]⟩,.string ⟨#[]⟩,.string ⟨#[]⟩,.string ⟨#[]⟩,.string ⟨#[]⟩,.int .i64 0,.slice none 0 0,.slice none 0 0,.slice none 0 0,.string ⟨#[]⟩,.string ⟨#[]⟩,.string ⟨#[]⟩,.string ⟨#[]⟩,.int .i64 0,.slice none 0 0,.slice none 0 0,.slice none 0 0,.string ⟨#[]⟩,.string ⟨#[]⟩,.string ⟨#[]⟩,.int .i64 0,.slice none 0 0,.slice none 0 0,.slice none 0 0,.int .i64 0,.int .i64 0] 39)=u:=⟨_,rfl⟩
         rw [hu] at hk ht hbb hy ⊢
         clear hu hb
         have hge:w.heap.size<=w142.heap.size:=HB42.out.size
         obtain ⟨gs86,hgs⟩:∃ gs,w142.heap.size=gs:=⟨_,rfl⟩
         simp only [hgs] at hk ht hge ⊢
         clear hgs
         have HGE_gs86:=hid hge
         clear hge
         have HK86:Hid (Blk w186 gs86 39 sub0):=hid hk
         have HT86:=hid ht
         have HB86:=hid hbb
         have HY86:=hid hy
         clear hk ht hbb hy
         refine hK.out _ _ trivial (fun hHeld=>?_)
         clear hK K
         try simp only [Act.put,List.setIfInBounds_toArray,List.set_cons_zero,List.set_cons_succ]
         refine wpAnyH_ready (rs:=[1]) (by kernel_rfl) (by simp) ?_
         refine AllReadyH.cons (o:=?oi87) ?ho87 (fun K hK=>?st87) AllReadyH.nil
         case ho87=>(simp only [List.getElem?_toArray,List.getElem?_cons_zero,List.getElem?_cons_succ];rfl)
         go_simp
         refine (HRQ.out _).mono ?_
         rintro e w187 ⟨q87,rfl,hr,hb⟩
         have HT87:=hid (HT86.out.below hb)
         have HB87:=hid (thenB_ HB86.out hb)
         have HQ87:=hid hr
         have HY87:=hid (HY86.out.fr (Fr.of_below (F:=fun _=>False) hb) (fun h=>h))
         have HK87:=hid (HK86.out.fr (Fr.of_below (F:=fun _=>False) hb) (fun h=>h))
         clear hr hb
         go_wp2_with fail
         refine hK.out _ _ trivial (fun hHeld=>?_)
         clear hK K
         try simp only [Act.put,List.setIfInBounds_toArray,List.set_cons_zero,List.set_cons_succ]
         refine wpAnyH_ready (rs:=[8]) (by kernel_rfl) (by simp) ?_
         refine AllReadyH.cons (o:=?oi88) ?ho88 (fun K hK=>?st88) AllReadyH.nil
         case ho88=>(simp only [List.getElem?_toArray,List.getElem?_cons_zero,List.getElem?_cons_succ];rfl)
         go_simp
         refine (HBE.out _ _ _ HT87.out HQ87.out).mono ?_
         rintro e w188 ⟨v88,rfl,m1,t1⟩
         have HM88:=hid m1
         have HT88:=hid t1.tab
         have HB88:Hid (Below w.heap.size w w188):=hid (HB87.out.trans (below_out t1.fr (fun k h=>.inl h) HB87.out.size))
         have HK88:=hid (HK87.out.out (.inr rfl) t1.fr)
         clear m1 t1
         go_wp2_with fail
         refine hK.out _ _ trivial (fun hHeld=>?_)
         clear hK K
         try simp only [Act.put,List.setIfInBounds_toArray,List.set_cons_zero,List.set_cons_succ]
         refine wpAnyH_take (i:=9) (oi:=?oi89) (v:=?v89) ?ho89 ?ka89 ?kb89 ?kc89 (fun _ _ _ h=>h) (Or.inl ⟨?kw89,?hy89⟩) (by assumption) ?rest89
         case ho89=>(simp only [List.getElem?_toArray,List.getElem?_cons_zero,List.getElem?_cons_succ];rfl)
         case ka89=>kernel_rfl
         case kb89=>kernel_rfl
         case kc89=>kernel_rfl
         case kw89=>rfl
         case hy89=>(intro wq hSw;(try dsimp only at hSw);go_simp;try with_reducible rfl)
         try simp only [Act.put,List.setIfInBounds_toArray,List.set_cons_zero,List.set_cons_succ]
         refine wpAnyH_take (i:=10) (oi:=?oi90) (v:=?v90) ?ho90 ?ka90 ?kb90 ?kc90 (fun _ _ _ h=>h) (Or.inl ⟨?kw90,?hy90⟩) (by assumption) ?rest90
         case ho90=>(simp only [List.getElem?_toArray,List.getElem?_cons_zero,List.getElem?_cons_succ];rfl)
         case ka90=>kernel_rfl
         case kb90=>kernel_rfl
         case kc90=>kernel_rfl
         case kw90=>rfl
         case hy90=>(intro wq hSw;(try dsimp only at hSw);go_simp;try with_reducible rfl)
         try simp only [Act.put,List.setIfInBounds_toArray,List.set_cons_zero,List.set_cons_succ]
         refine wpAnyH_take (i:=11) (oi:=?oi91) (v:=?v91) ?ho91 ?ka91 ?kb91 ?kc91 (fun _ _ _ h=>h) (Or.inl ⟨?kw91,?hy91⟩) (by assumption) ?rest91
         case ho91=>(simp only [List.getElem?_toArray,List.getElem?_cons_zero,List.getElem?_cons_succ];rfl)
         case ka91=>kernel_rfl
         case kb91=>kernel_rfl
         case kc91=>kernel_rfl
         case kw91=>rfl
         case hy91=>(intro wq hSw;(try dsimp only at hSw);go_simp;try with_reducible rfl)
         try simp only [Act.put,List.setIfInBounds_toArray,List.set_cons_zero,List.set_cons_succ]
         refine wpAnyH_ready (rs:=[13]) (by kernel_rfl) (by simp) ?_
         refine AllReadyH.cons (o:=?oi92) ?ho92 (fun K hK=>?st92) AllReadyH.nil
         case ho92=>(simp only [List.getElem?_toArray,List.getElem?_cons_zero,List.getElem?_cons_succ];rfl)
         rw [if_pos (by rfl)]
         refine wp_store_mid 39 (.tmp 6) (.tmp 35) rfl gs86 0 (subA R.sub v88) rfl rfl (blk_there HK88.out (Nat.le_refl 34)) (by kernel_rfl) (subA_one HM88.out.ok.1 HM88.out.ok.2) ?_
         have hk2:Blk (World.setCells w188 gs86 0 (subA R.sub v88).toList) gs86 39 (subA R.sub v88):=blk_setCells (subA R.sub v88).toList (off:=0) HK88.out (Nat.le_refl 34)
         have hf2:Fr (fun k=>k=gs86) w188 (World.setCells w188 gs86 0 (subA R.sub v88).toList):=fr_setCells gs86 (subA R.sub v88).toList 0 w188
         obtain ⟨w192,hu⟩:∃ u,World.setCells w188 gs86 0 (subA R.sub v88).toList=u:=⟨_,rfl⟩
         rw [hu] at hk2 hf2 ⊢
         clear hu
         have HFIN:Hid (FulCut w p m R (.pointer (some ⟨gs86,0,none⟩)) (.int .i64 R.err) w192):=hid ⟨gs86,rfl,rfl,hk2.cell 0,(HT88.out.set (.inr rfl) HK88.out (by decide) (by decide) hf2).mono (fun k h=>.inl h),HB88.out.trans (hf2.to_below HB88.out.size (fun k e=>e▸HGE_gs86.out))⟩
         clear hk2 hf2
         refine hK.out _ _ trivial (fun hHeld=>?_)
         clear hK K
         try simp only [Act.put,List.setIfInBounds_toArray,List.set_cons_zero,List.set_cons_succ]
         refine wpAnyH_take (i:=14) (oi:=?oi93) (v:=?v93) ?ho93 ?ka93 ?kb93 ?kc93 (fun _ _ _ h=>h) (Or.inl ⟨?kw93,?hy93⟩) (by assumption) ?rest93
         case ho93=>(simp only [List.getElem?_toArray,List.getElem?_cons_zero,List.getElem?_cons_succ];rfl)
         case ka93=>kernel_rfl
         case kb93=>kernel_rfl
         case kc93=>kernel_rfl
         case kw93=>rfl
         case hy93=>(intro wq hSw;(try dsimp only at hSw);go_simp;try with_reducible rfl)
         try simp only [Act.put,List.setIfInBounds_toArray,List.set_cons_zero,List.set_cons_succ]
         refine wpAnyH_done (by kernel_rfl) ?_ _
         refine NoPanic.normal ?_
         go_wp2_with fail
         go_meet
         exact HFIN.out
       case mo69 =>
        refine AllReadyH.cons (o:=?oi94) ?ho94 (fun K hK=>?st94) AllReadyH.nil
        case ho94=>(simp only [List.getElem?_toArray,List.getElem?_cons_zero,List.getElem?_cons_succ];rfl)
        go_simp
        have hb:Below w142.heap.size w142 (w142.alloc (.cells sub0 39)):=(Below.refl _ _).alloc (Nat.le_refl _) _
        have hk:Blk (w142.alloc (.cells sub0 39)) w142.heap.size 39 sub0:=Blk.new _ _ _
        have ht:=HT42.out.own (g:=w142.heap.size) hb (Nat.le_refl _) (by simp)
        have hbb:=thenB_ HB42.out hb
        have hy:=HY42.out.fr (Fr.of_below (F:=fun _=>False) hb) (fun h=>h)
        unfold sub0 at hb hk ht hbb hy
        obtain ⟨w194,hu⟩:∃ u,w142.alloc (.cells #[.int .i64 0,.string ⟨#[]⟩,.string ⟨#[]⟩,.string ⟨#[]⟩,.slice none 0 0,.int .i64 0,.string ⟨#[]⟩,.int .i64 0,.string ⟨#[]⟩,.string ⟨#[]⟩,.string ⟨#[]⟩,.string ⟨#[]⟩,.string ⟨#[]⟩,.int .i64 0,.slice none 0 0,.slice none 0 0,.slice none 0 0,.string ⟨#[]⟩,.string ⟨#[]⟩,.string ⟨#[]⟩,.string ⟨#[]⟩,.int .i64 0,.slice none 0 0,.slice none 0 0,.slice none 0 0,.string ⟨#[]⟩,.string ⟨#[]⟩,.string ⟨#[]⟩,.int .i64 0,.slice none 0 0,.slice none 0 0,.slice none 0 0,.int .i64 0,.int .i64 0] 39)=u:=⟨_,rfl⟩
        rw [hu] at hk ht hbb hy ⊢
        clear hu hb
        have hge:w.heap.size<=w142.heap.size:=HB42.out.size
        obtain ⟨gs94,hgs⟩:∃ gs,w142.heap.size=gs:=⟨_,rfl⟩
        simp only [hgs] at hk ht hge ⊢
        clear hgs
        have HGE_gs94:=hid hge
        clear hge
        have HK94:Hid (Blk w194 gs94 39 sub0):=hid hk
        have HT94:=hid ht
        have HB94:=hid hbb
        have HY94:=hid hy
        clear hk ht hbb hy
        refine hK.out _ _ trivial (fun hHeld=>?_)
        clear hK K
        try simp only [Act.put,List.setIfInBounds_toArray,List.set_cons_zero,List.set_cons_succ]
        refine wpAnyH_ready (rs:=[1,6]) (by kernel_rfl) (by simp) ?_
        refine AllReadyH.cons (o:=?oi95) ?ho95 (fun K hK=>?st95) ?mo95
        case ho95=>(simp only [List.getElem?_toArray,List.getElem?_cons_zero,List.getElem?_cons_succ];rfl)
        case st95 =>
         go_simp
         refine (HRQ.out _).mono ?_
         rintro e w195 ⟨q95,rfl,hr,hb⟩
         have HT95:=hid (HT94.out.below hb)
         have HB95:=hid (thenB_ HB94.out hb)
         have HQ95:=hid hr
         have HY95:=hid (HY94.out.fr (Fr.of_below (F:=fun _=>False) hb) (fun h=>h))
         have HK95:=hid (HK94.out.fr (Fr.of_below (F:=fun _=>False) hb) (fun h=>h))
         clear hr hb
         go_wp2_with fail
         refine hK.out _ _ trivial (fun hHeld=>?_)
         clear hK K
         try simp only [Act.put,List.setIfInBounds_toArray,List.set_cons_zero,List.set_cons_succ]
         refine wpAnyH_ready (rs:=[6]) (by kernel_rfl) (by simp) ?_
         refine AllReadyH.cons (o:=?oi96) ?ho96 (fun K hK=>?st96) AllReadyH.nil
         case ho96=>(simp only [List.getElem?_toArray,List.getElem?_cons_zero,List.getElem?_cons_succ];rfl)
         have hcv:=run_string_own (P:=Tryz.prog) 59 9 5 Tryz.underlying59 Tryz.underlying5 Tryz.underlying9 (one_row HY95.out)
         go_simp
         clear hcv
         refine hK.out _ _ trivial (fun hHeld=>?_)
         clear hK K
         try simp only [Act.put,List.setIfInBounds_toArray,List.set_cons_zero,List.set_cons_succ]
         have ha1:=HADD.out
         refine wpAnyH_take (i:=7) (oi:=?oi97) (v:=?v97) ?ho97 ?ka97 ?kb97 ?kc97 (fun _ _ _ h=>h) (Or.inl ⟨?kw97,?hy97⟩) (by assumption) ?rest97
         case ho97=>(simp only [List.getElem?_toArray,List.getElem?_cons_zero,List.getElem?_cons_succ];rfl)
         case ka97=>kernel_rfl
         case kb97=>kernel_rfl
         case kc97=>kernel_rfl
         case kw97=>rfl
         case hy97=>(intro wq hSw;(try dsimp only at hSw);go_simp;try with_reducible rfl)
         try simp only [Act.put,List.setIfInBounds_toArray,List.set_cons_zero,List.set_cons_succ]
         clear ha1
         refine wpAnyH_ready (rs:=[8]) (by kernel_rfl) (by simp) ?_
         refine AllReadyH.cons (o:=?oi98) ?ho98 (fun K hK=>?st98) AllReadyH.nil
         case ho98=>(simp only [List.getElem?_toArray,List.getElem?_cons_zero,List.getElem?_cons_succ];rfl)
         go_simp
         refine (HBE.out _ _ _ HT95.out HQ95.out).mono ?_
         rintro e w198 ⟨v98,rfl,m1,t1⟩
         have HM98:=hid m1
         have HT98:=hid t1.tab
         have HB98:Hid (Below w.heap.size w w198):=hid (HB95.out.trans (below_out t1.fr (fun k h=>.inl h) HB95.out.size))
         have HK98:=hid (HK95.out.out (.inr rfl) t1.fr)
         clear m1 t1
         go_wp2_with fail
         refine hK.out _ _ trivial (fun hHeld=>?_)
         clear hK K
         try simp only [Act.put,List.setIfInBounds_toArray,List.set_cons_zero,List.set_cons_succ]
         refine wpAnyH_take (i:=9) (oi:=?oi99) (v:=?v99) ?ho99 ?ka99 ?kb99 ?kc99 (fun _ _ _ h=>h) (Or.inl ⟨?kw99,?hy99⟩) (by assumption) ?rest99
         case ho99=>(simp only [List.getElem?_toArray,List.getElem?_cons_zero,List.getElem?_cons_succ];rfl)
         case ka99=>kernel_rfl
         case kb99=>kernel_rfl
         case kc99=>kernel_rfl
         case kw99=>rfl
         case hy99=>(intro wq hSw;(try dsimp only at hSw);go_simp;try with_reducible rfl)
         try simp only [Act.put,List.setIfInBounds_toArray,List.set_cons_zero,List.set_cons_succ]
         refine wpAnyH_take (i:=10) (oi:=?oi100) (v:=?v100) ?ho100 ?ka100 ?kb100 ?kc100 (fun _ _ _ h=>h) (Or.inl ⟨?kw100,?hy100⟩) (by assumption) ?rest100
         case ho100=>(simp only [List.getElem?_toArray,List.getElem?_cons_zero,List.getElem?_cons_succ];rfl)
         case ka100=>kernel_rfl
         case kb100=>kernel_rfl
         case kc100=>kernel_rfl
         case kw100=>rfl
         case hy100=>(intro wq hSw;(try dsimp only at hSw);go_simp;try with_reducible rfl)
         try simp only [Act.put,List.setIfInBounds_toArray,List.set_cons_zero,List.set_cons_succ]
         refine wpAnyH_take (i:=11) (oi:=?oi101) (v:=?v101) ?ho101 ?ka101 ?kb101 ?kc101 (fun _ _ _ h=>h) (Or.inl ⟨?kw101,?hy101⟩) (by assumption) ?rest101
         case ho101=>(simp only [List.getElem?_toArray,List.getElem?_cons_zero,List.getElem?_cons_succ];rfl)
         case ka101=>kernel_rfl
         case kb101=>kernel_rfl
         case kc101=>kernel_rfl
         case kw101=>rfl
         case hy101=>(intro wq hSw;(try dsimp only at hSw);go_simp;try with_reducible rfl)
         try simp only [Act.put,List.setIfInBounds_toArray,List.set_cons_zero,List.set_cons_succ]
         refine wpAnyH_ready (rs:=[13]) (by kernel_rfl) (by simp) ?_
         refine AllReadyH.cons (o:=?oi102) ?ho102 (fun K hK=>?st102) AllReadyH.nil
         case ho102=>(simp only [List.getElem?_toArray,List.getElem?_cons_zero,List.getElem?_cons_succ];rfl)
         rw [if_pos (by rfl)]
         refine wp_store_mid 39 (.tmp 6) (.tmp 35) rfl gs94 0 (subA R.sub v98) rfl rfl (blk_there HK98.out (Nat.le_refl 34)) (by kernel_rfl) (subA_one HM98.out.ok.1 HM98.out.ok.2) ?_
         have hk2:Blk (World.setCells w198 gs94 0 (subA R.sub v98).toList) gs94 39 (subA R.sub v98):=blk_setCells (subA R.sub v98).toList (off:=0) HK98.out (Nat.le_refl 34)
         have hf2:Fr (fun k=>k=gs94) w198 (World.setCells w198 gs94 0 (subA R.sub v98).toList):=fr_setCells gs94 (subA R.sub v98).toList 0 w198
         obtain ⟨w202,hu⟩:∃ u,World.setCells w198 gs94 0 (subA R.sub v98).toList=u:=⟨_,rfl⟩
         rw [hu] at hk2 hf2 ⊢
         clear hu
         have HFIN:Hid (FulCut w p m R (.pointer (some ⟨gs94,0,none⟩)) (.int .i64 R.err) w202):=hid ⟨gs94,rfl,rfl,hk2.cell 0,(HT98.out.set (.inr rfl) HK98.out (by decide) (by decide) hf2).mono (fun k h=>.inl h),HB98.out.trans (hf2.to_below HB98.out.size (fun k e=>e▸HGE_gs94.out))⟩
         clear hk2 hf2
         refine hK.out _ _ trivial (fun hHeld=>?_)
         clear hK K
         try simp only [Act.put,List.setIfInBounds_toArray,List.set_cons_zero,List.set_cons_succ]
         refine wpAnyH_take (i:=14) (oi:=?oi103) (v:=?v103) ?ho103 ?ka103 ?kb103 ?kc103 (fun _ _ _ h=>h) (Or.inl ⟨?kw103,?hy103⟩) (by assumption) ?rest103
         case ho103=>(simp only [List.getElem?_toArray,List.getElem?_cons_zero,List.getElem?_cons_succ];rfl)
         case ka103=>kernel_rfl
         case kb103=>kernel_rfl
         case kc103=>kernel_rfl
         case kw103=>rfl
         case hy103=>(intro wq hSw;(try dsimp only at hSw);go_simp;try with_reducible rfl)
         try simp only [Act.put,List.setIfInBounds_toArray,List.set_cons_zero,List.set_cons_succ]
         refine wpAnyH_done (by kernel_rfl) ?_ _
         refine NoPanic.normal ?_
         go_wp2_with fail
         go_meet
         exact HFIN.out
        case mo95 =>
         refine AllReadyH.cons (o:=?oi104) ?ho104 (fun K hK=>?st104) AllReadyH.nil
         case ho104=>(simp only [List.getElem?_toArray,List.getElem?_cons_zero,List.getElem?_cons_succ];rfl)
         have hcv:=run_string_own (P:=Tryz.prog) 59 9 5 Tryz.underlying59 Tryz.underlying5 Tryz.underlying9 (one_row HY94.out)
         go_simp
         clear hcv
         refine hK.out _ _ trivial (fun hHeld=>?_)
         clear hK K
         try simp only [Act.put,List.setIfInBounds_toArray,List.set_cons_zero,List.set_cons_succ]
         have ha1:=HADD.out
         refine wpAnyH_take (i:=7) (oi:=?oi105) (v:=?v105) ?ho105 ?ka105 ?kb105 ?kc105 (fun _ _ _ h=>h) (Or.inl ⟨?kw105,?hy105⟩) (by assumption) ?rest105
         case ho105=>(simp only [List.getElem?_toArray,List.getElem?_cons_zero,List.getElem?_cons_succ];rfl)
         case ka105=>kernel_rfl
         case kb105=>kernel_rfl
         case kc105=>kernel_rfl
         case kw105=>rfl
         case hy105=>(intro wq hSw;(try dsimp only at hSw);go_simp;try with_reducible rfl)
         try simp only [Act.put,List.setIfInBounds_toArray,List.set_cons_zero,List.set_cons_succ]
         clear ha1
         refine wpAnyH_ready (rs:=[1]) (by kernel_rfl) (by simp) ?_
         refine AllReadyH.cons (o:=?oi106) ?ho106 (fun K hK=>?st106) AllReadyH.nil
         case ho106=>(simp only [List.getElem?_toArray,List.getElem?_cons_zero,List.getElem?_cons_succ];rfl)
         go_simp
         refine (HRQ.out _).mono ?_
         rintro e w206 ⟨q106,rfl,hr,hb⟩
         have HT106:=hid (HT94.out.below hb)
         have HB106:=hid (thenB_ HB94.out hb)
         have HQ106:=hid hr
         have HY106:=hid (HY94.out.fr (Fr.of_below (F:=fun _=>False) hb) (fun h=>h))
         have HK106:=hid (HK94.out.fr (Fr.of_below (F:=fun _=>False) hb) (fun h=>h))
         clear hr hb
         go_wp2_with fail
         refine hK.out _ _ trivial (fun hHeld=>?_)
         clear hK K
         try simp only [Act.put,List.setIfInBounds_toArray,List.set_cons_zero,List.set_cons_succ]
         refine wpAnyH_ready (rs:=[8]) (by kernel_rfl) (by simp) ?_
         refine AllReadyH.cons (o:=?oi107) ?ho107 (fun K hK=>?st107) AllReadyH.nil
         case ho107=>(simp only [List.getElem?_toArray,List.getElem?_cons_zero,List.getElem?_cons_succ];rfl)
         go_simp
         refine (HBE.out _ _ _ HT106.out HQ106.out).mono ?_
         rintro e w207 ⟨v107,rfl,m1,t1⟩
         have HM107:=hid m1
         have HT107:=hid t1.tab
         have HB107:Hid (Below w.heap.size w w207):=hid (HB106.out.trans (below_out t1.fr (fun k h=>.inl h) HB106.out.size))
         have HK107:=hid (HK106.out.out (.inr rfl) t1.fr)
         clear m1 t1
         go_wp2_with fail
         refine hK.out _ _ trivial (fun hHeld=>?_)
         clear hK K
         try simp only [Act.put,List.setIfInBounds_toArray,List.set_cons_zero,List.set_cons_succ]
         refine wpAnyH_take (i:=9) (oi:=?oi108) (v:=?v108) ?ho108 ?ka108 ?kb108 ?kc108 (fun _ _ _ h=>h) (Or.inl ⟨?kw108,?hy108⟩) (by assumption) ?rest108
         case ho108=>(simp only [List.getElem?_toArray,List.getElem?_cons_zero,List.getElem?_cons_succ];rfl)
         case ka108=>kernel_rfl
         case kb108=>kernel_rfl
         case kc108=>kernel_rfl
         case kw108=>rfl
         case hy108=>(intro wq hSw;(try dsimp only at hSw);go_simp;try with_reducible rfl)
         try simp only [Act.put,List.setIfInBounds_toArray,List.set_cons_zero,List.set_cons_succ]
         refine wpAnyH_take (i:=10) (oi:=?oi109) (v:=?v109) ?ho109 ?ka109 ?kb109 ?kc109 (fun _ _ _ h=>h) (Or.inl ⟨?kw109,?hy109⟩) (by assumption) ?rest109
         case ho109=>(simp only [List.getElem?_toArray,List.getElem?_cons_zero,List.getElem?_cons_succ];rfl)
         case ka109=>kernel_rfl
         case kb109=>kernel_rfl
         case kc109=>kernel_rfl
         case kw109=>rfl
         case hy109=>(intro wq hSw;(try dsimp only at hSw);go_simp;try with_reducible rfl)
         try simp only [Act.put,List.setIfInBounds_toArray,List.set_cons_zero,List.set_cons_succ]
         refine wpAnyH_take (i:=11) (oi:=?oi110) (v:=?v110) ?ho110 ?ka110 ?kb110 ?kc110 (fun _ _ _ h=>h) (Or.inl ⟨?kw110,?hy110⟩) (by assumption) ?rest110
         case ho110=>(simp only [List.getElem?_toArray,List.getElem?_cons_zero,List.getElem?_cons_succ];rfl)
         case ka110=>kernel_rfl
         case kb110=>kernel_rfl
         case kc110=>kernel_rfl
         case kw110=>rfl
         case hy110=>(intro wq hSw;(try dsimp only at hSw);go_simp;try with_reducible rfl)
         try simp only [Act.put,List.setIfInBounds_toArray,List.set_cons_zero,List.set_cons_succ]
         refine wpAnyH_ready (rs:=[13]) (by kernel_rfl) (by simp) ?_
         refine AllReadyH.cons (o:=?oi111) ?ho111 (fun K hK=>?st111) AllReadyH.nil
         case ho111=>(simp only [List.getElem?_toArray,List.getElem?_cons_zero,List.getElem?_cons_succ];rfl)
         rw [if_pos (by rfl)]
         refine wp_store_mid 39 (.tmp 6) (.tmp 35) rfl gs94 0 (subA R.sub v107) rfl rfl (blk_there HK107.out (Nat.le_refl 34)) (by kernel_rfl) (subA_one HM107.out.ok.1 HM107.out.ok.2) ?_
         have hk2:Blk (World.setCells w207 gs94 0 (subA R.sub v107).toList) gs94 39 (subA R.sub v107):=blk_setCells (subA R.sub v107).toList (off:=0) HK107.out (Nat.le_refl 34)
         have hf2:Fr (fun k=>k=gs94) w207 (World.setCells w207 gs94 0 (subA R.sub v107).toList):=fr_setCells gs94 (subA R.sub v107).toList 0 w207
         obtain ⟨w211,hu⟩:∃ u,World.setCells w207 gs94 0 (subA R.sub v107).toList=u:=⟨_,rfl⟩
         rw [hu] at hk2 hf2 ⊢
         clear hu
         have HFIN:Hid (FulCut w p m R (.pointer (some ⟨gs94,0,none⟩)) (.int .i64 R.err) w211):=hid ⟨gs94,rfl,rfl,hk2.cell 0,(HT107.out.set (.inr rfl) HK107.out (by decide) (by decide) hf2).mono (fun k h=>.inl h),HB107.out.trans (hf2.to_below HB107.out.size (fun k e=>e▸HGE_gs94.out))⟩
         clear hk2 hf2
         refine hK.out _ _ trivial (fun hHeld=>?_)
         clear hK K
         try simp only [Act.put,List.setIfInBounds_toArray,List.set_cons_zero,List.set_cons_succ]
         refine wpAnyH_take (i:=14) (oi:=?oi112) (v:=?v112) ?ho112 ?ka112 ?kb112 ?kc112 (fun _ _ _ h=>h) (Or.inl ⟨?kw112,?hy112⟩) (by assumption) ?rest112
         case ho112=>(simp only [List.getElem?_toArray,List.getElem?_cons_zero,List.getElem?_cons_succ];rfl)
         case ka112=>kernel_rfl
         case kb112=>kernel_rfl
         case kc112=>kernel_rfl
         case kw112=>rfl
         case hy112=>(intro wq hSw;(try dsimp only at hSw);go_simp;try with_reducible rfl)
         try simp only [Act.put,List.setIfInBounds_toArray,List.set_cons_zero,List.set_cons_succ]
         refine wpAnyH_done (by kernel_rfl) ?_ _
         refine NoPanic.normal ?_
         go_wp2_with fail
         go_meet
         exact HFIN.out
     case mo42 =>
      refine AllReadyH.cons (o:=?oi113) ?ho113 (fun K hK=>?st113) AllReadyH.nil
      case ho113=>(simp only [List.getElem?_toArray,List.getElem?_cons_zero,List.getElem?_cons_succ];rfl)
      go_simp
      have hb:Below wd.heap.size wd (wd.alloc (.cells sub0 39)):=(Below.refl _ _).alloc (Nat.le_refl _) _
      have hk:Blk (wd.alloc (.cells sub0 39)) wd.heap.size 39 sub0:=Blk.new _ _ _
      have ht:=HT0.out.own (g:=wd.heap.size) hb (Nat.le_refl _) (by simp)
      have hbb:=thenB_ HB0.out hb
      unfold sub0 at hb hk ht hbb
      obtain ⟨w213,hu⟩:∃ u,wd.alloc (.cells #[.int .i64 0,.string ⟨#[]⟩,.string ⟨#[]⟩,.string ⟨#[]⟩,.slice none 0 0,.int .i64 0,.string ⟨#[]⟩,.int .i64 0,.string ⟨#[]⟩,.string ⟨#[]⟩,.string ⟨#[]⟩,.string ⟨#[]⟩,.string ⟨#[]⟩,.int .i64 0,.slice none 0 0,.slice none 0 0,.slice none 0 0,.string ⟨#[]⟩,.string ⟨#[]⟩,.string ⟨#[]⟩,.string ⟨#[]⟩,.int .i64 0,.slice none 0 0,.slice none 0 0,.slice none 0 0,.string ⟨#[]⟩,.string ⟨#[]⟩,.string ⟨#[]⟩,.int .i64 0,.slice none 0 0,.slice none 0 0,.slice none 0 0,.int .i64 0,.int .i64 0] 39)=u:=⟨_,rfl⟩
      rw [hu] at hk ht hbb ⊢
      clear hu hb
      have hge:w.heap.size<=wd.heap.size:=HB0.out.size
      obtain ⟨gs113,hgs⟩:∃ gs,wd.heap.size=gs:=⟨_,rfl⟩
      simp only [hgs] at hk ht hge ⊢
      clear hgs
      have HGE_gs113:=hid hge
      clear hge
      have HK113:Hid (Blk w213 gs113 39 sub0):=hid hk
      have HT113:=hid ht
      have HB113:=hid hbb
      clear hk ht hbb
      refine hK.out _ _ trivial (fun hHeld=>?_)
      clear hK K
      try simp only [Act.put,List.setIfInBounds_toArray,List.set_cons_zero,List.set_cons_succ]
      refine wpAnyH_ready (rs:=[1,5]) (by kernel_rfl) (by simp) ?_
      refine AllReadyH.cons (o:=?oi114) ?ho114 (fun K hK=>?st114) ?mo114
      case ho114=>(simp only [List.getElem?_toArray,List.getElem?_cons_zero,List.getElem?_cons_succ];rfl)
      case st114 =>
       go_simp
       refine (HRQ.out _).mono ?_
       rintro e w214 ⟨q114,rfl,hr,hb⟩
       have HT114:=hid (HT113.out.below hb)
       have HB114:=hid (thenB_ HB113.out hb)
       have HQ114:=hid hr
       have HK114:=hid (HK113.out.fr (Fr.of_below (F:=fun _=>False) hb) (fun h=>h))
       clear hr hb
       go_wp2_with fail
       refine hK.out _ _ trivial (fun hHeld=>?_)
       clear hK K
       try simp only [Act.put,List.setIfInBounds_toArray,List.set_cons_zero,List.set_cons_succ]
       refine wpAnyH_ready (rs:=[5]) (by kernel_rfl) (by simp) ?_
       refine AllReadyH.cons (o:=?oi115) ?ho115 (fun K hK=>?st115) AllReadyH.nil
       case ho115=>(simp only [List.getElem?_toArray,List.getElem?_cons_zero,List.getElem?_cons_succ];rfl)
       go_simp
       have hb:Below w214.heap.size w214 (w214.alloc (.cells #[.int .u8 (c.toNat:Int)] 5)):=(Below.refl _ _).alloc (Nat.le_refl _) _
       have hy:Blk (w214.alloc (.cells #[.int .u8 (c.toNat:Int)] 5)) w214.heap.size 5 #[.int .u8 (c.toNat:Int)]:=Blk.new _ _ _
       obtain ⟨w215,hu⟩:∃ u,(w214.alloc (.cells #[.int .u8 (c.toNat:Int)] 5))=u:=⟨_,rfl⟩
       rw [hu] at hb hy ⊢
       clear hu
       obtain ⟨gb115,hgb⟩:∃ gb,w214.heap.size=gb:=⟨_,rfl⟩
       simp only [hgb] at hy ⊢
       have HY115:=hid hy
       have HT115:=hid (HT114.out.below hb)
       have HB115:=hid (thenB_ HB114.out hb)
       have HQ115:=hid ((HQ114.out.below hb).up hb.size)
       have HK115:=hid (HK114.out.fr (Fr.of_below (F:=fun _=>False) hb) (fun h=>h))
       clear hy hb hgb
       refine hK.out _ _ trivial (fun hHeld=>?_)
       clear hK K
       try simp only [Act.put,List.setIfInBounds_toArray,List.set_cons_zero,List.set_cons_succ]
       refine wpAnyH_ready (rs:=[6]) (by kernel_rfl) (by simp) ?_
       refine AllReadyH.cons (o:=?oi116) ?ho116 (fun K hK=>?st116) AllReadyH.nil
       case ho116=>(simp only [List.getElem?_toArray,List.getElem?_cons_zero,List.getElem?_cons_succ];rfl)
       have hcv:=run_string_own (P:=Tryz.prog) 59 9 5 Tryz.underlying59 Tryz.underlying5 Tryz.underlying9 (one_row HY115.out)
       go_simp
       clear hcv
       refine hK.out _ _ trivial (fun hHeld=>?_)
       clear hK K
       try simp only [Act.put,List.setIfInBounds_toArray,List.set_cons_zero,List.set_cons_succ]
       have ha1:=HADD.out
       refine wpAnyH_take (i:=7) (oi:=?oi117) (v:=?v117) ?ho117 ?ka117 ?kb117 ?kc117 (fun _ _ _ h=>h) (Or.inl ⟨?kw117,?hy117⟩) (by assumption) ?rest117
       case ho117=>(simp only [List.getElem?_toArray,List.getElem?_cons_zero,List.getElem?_cons_succ];rfl)
       case ka117=>kernel_rfl
       case kb117=>kernel_rfl
       case kc117=>kernel_rfl
       case kw117=>rfl
       case hy117=>(intro wq hSw;(try dsimp only at hSw);go_simp;try with_reducible rfl)
       try simp only [Act.put,List.setIfInBounds_toArray,List.set_cons_zero,List.set_cons_succ]
       clear ha1
       refine wpAnyH_ready (rs:=[8]) (by kernel_rfl) (by simp) ?_
       refine AllReadyH.cons (o:=?oi118) ?ho118 (fun K hK=>?st118) AllReadyH.nil
       case ho118=>(simp only [List.getElem?_toArray,List.getElem?_cons_zero,List.getElem?_cons_succ];rfl)
       go_simp
       refine (HBE.out _ _ _ HT115.out HQ115.out).mono ?_
       rintro e w218 ⟨v118,rfl,m1,t1⟩
       have HM118:=hid m1
       have HT118:=hid t1.tab
       have HB118:Hid (Below w.heap.size w w218):=hid (HB115.out.trans (below_out t1.fr (fun k h=>.inl h) HB115.out.size))
       have HK118:=hid (HK115.out.out (.inr rfl) t1.fr)
       clear m1 t1
       go_wp2_with fail
       refine hK.out _ _ trivial (fun hHeld=>?_)
       clear hK K
       try simp only [Act.put,List.setIfInBounds_toArray,List.set_cons_zero,List.set_cons_succ]
       refine wpAnyH_take (i:=9) (oi:=?oi119) (v:=?v119) ?ho119 ?ka119 ?kb119 ?kc119 (fun _ _ _ h=>h) (Or.inl ⟨?kw119,?hy119⟩) (by assumption) ?rest119
       case ho119=>(simp only [List.getElem?_toArray,List.getElem?_cons_zero,List.getElem?_cons_succ];rfl)
       case ka119=>kernel_rfl
       case kb119=>kernel_rfl
       case kc119=>kernel_rfl
       case kw119=>rfl
       case hy119=>(intro wq hSw;(try dsimp only at hSw);go_simp;try with_reducible rfl)
       try simp only [Act.put,List.setIfInBounds_toArray,List.set_cons_zero,List.set_cons_succ]
       refine wpAnyH_take (i:=10) (oi:=?oi120) (v:=?v120) ?ho120 ?ka120 ?kb120 ?kc120 (fun _ _ _ h=>h) (Or.inl ⟨?kw120,?hy120⟩) (by assumption) ?rest120
       case ho120=>(simp only [List.getElem?_toArray,List.getElem?_cons_zero,List.getElem?_cons_succ];rfl)
       case ka120=>kernel_rfl
       case kb120=>kernel_rfl
       case kc120=>kernel_rfl
       case kw120=>rfl
       case hy120=>(intro wq hSw;(try dsimp only at hSw);go_simp;try with_reducible rfl)
       try simp only [Act.put,List.setIfInBounds_toArray,List.set_cons_zero,List.set_cons_succ]
       refine wpAnyH_take (i:=11) (oi:=?oi121) (v:=?v121) ?ho121 ?ka121 ?kb121 ?kc121 (fun _ _ _ h=>h) (Or.inl ⟨?kw121,?hy121⟩) (by assumption) ?rest121
       case ho121=>(simp only [List.getElem?_toArray,List.getElem?_cons_zero,List.getElem?_cons_succ];rfl)
       case ka121=>kernel_rfl
       case kb121=>kernel_rfl
       case kc121=>kernel_rfl
       case kw121=>rfl
       case hy121=>(intro wq hSw;(try dsimp only at hSw);go_simp;try with_reducible rfl)
       try simp only [Act.put,List.setIfInBounds_toArray,List.set_cons_zero,List.set_cons_succ]
       refine wpAnyH_ready (rs:=[13]) (by kernel_rfl) (by simp) ?_
       refine AllReadyH.cons (o:=?oi122) ?ho122 (fun K hK=>?st122) AllReadyH.nil
       case ho122=>(simp only [List.getElem?_toArray,List.getElem?_cons_zero,List.getElem?_cons_succ];rfl)
       rw [if_pos (by rfl)]
       refine wp_store_mid 39 (.tmp 6) (.tmp 35) rfl gs113 0 (subA R.sub v118) rfl rfl (blk_there HK118.out (Nat.le_refl 34)) (by kernel_rfl) (subA_one HM118.out.ok.1 HM118.out.ok.2) ?_
       have hk2:Blk (World.setCells w218 gs113 0 (subA R.sub v118).toList) gs113 39 (subA R.sub v118):=blk_setCells (subA R.sub v118).toList (off:=0) HK118.out (Nat.le_refl 34)
       have hf2:Fr (fun k=>k=gs113) w218 (World.setCells w218 gs113 0 (subA R.sub v118).toList):=fr_setCells gs113 (subA R.sub v118).toList 0 w218
       obtain ⟨w222,hu⟩:∃ u,World.setCells w218 gs113 0 (subA R.sub v118).toList=u:=⟨_,rfl⟩
       rw [hu] at hk2 hf2 ⊢
       clear hu
       have HFIN:Hid (FulCut w p m R (.pointer (some ⟨gs113,0,none⟩)) (.int .i64 R.err) w222):=hid ⟨gs113,rfl,rfl,hk2.cell 0,(HT118.out.set (.inr rfl) HK118.out (by decide) (by decide) hf2).mono (fun k h=>.inl h),HB118.out.trans (hf2.to_below HB118.out.size (fun k e=>e▸HGE_gs113.out))⟩
       clear hk2 hf2
       refine hK.out _ _ trivial (fun hHeld=>?_)
       clear hK K
       try simp only [Act.put,List.setIfInBounds_toArray,List.set_cons_zero,List.set_cons_succ]
       refine wpAnyH_take (i:=14) (oi:=?oi123) (v:=?v123) ?ho123 ?ka123 ?kb123 ?kc123 (fun _ _ _ h=>h) (Or.inl ⟨?kw123,?hy123⟩) (by assumption) ?rest123
       case ho123=>(simp only [List.getElem?_toArray,List.getElem?_cons_zero,List.getElem?_cons_succ];rfl)
       case ka123=>kernel_rfl
       case kb123=>kernel_rfl
       case kc123=>kernel_rfl
       case kw123=>rfl
       case hy123=>(intro wq hSw;(try dsimp only at hSw);go_simp;try with_reducible rfl)
       try simp only [Act.put,List.setIfInBounds_toArray,List.set_cons_zero,List.set_cons_succ]
       refine wpAnyH_done (by kernel_rfl) ?_ _
       refine NoPanic.normal ?_
       go_wp2_with fail
       go_meet
       exact HFIN.out
      case mo114 =>
       refine AllReadyH.cons (o:=?oi124) ?ho124 (fun K hK=>?st124) AllReadyH.nil
       case ho124=>(simp only [List.getElem?_toArray,List.getElem?_cons_zero,List.getElem?_cons_succ];rfl)
       go_simp
       have hb:Below w213.heap.size w213 (w213.alloc (.cells #[.int .u8 (c.toNat:Int)] 5)):=(Below.refl _ _).alloc (Nat.le_refl _) _
       have hy:Blk (w213.alloc (.cells #[.int .u8 (c.toNat:Int)] 5)) w213.heap.size 5 #[.int .u8 (c.toNat:Int)]:=Blk.new _ _ _
       obtain ⟨w224,hu⟩:∃ u,(w213.alloc (.cells #[.int .u8 (c.toNat:Int)] 5))=u:=⟨_,rfl⟩
       rw [hu] at hb hy ⊢
       clear hu
       obtain ⟨gb124,hgb⟩:∃ gb,w213.heap.size=gb:=⟨_,rfl⟩
       simp only [hgb] at hy ⊢
       have HY124:=hid hy
       have HT124:=hid (HT113.out.below hb)
       have HB124:=hid (thenB_ HB113.out hb)
       have HK124:=hid (HK113.out.fr (Fr.of_below (F:=fun _=>False) hb) (fun h=>h))
       clear hy hb hgb
       refine hK.out _ _ trivial (fun hHeld=>?_)
       clear hK K
       try simp only [Act.put,List.setIfInBounds_toArray,List.set_cons_zero,List.set_cons_succ]
       refine wpAnyH_ready (rs:=[1,6]) (by kernel_rfl) (by simp) ?_
       refine AllReadyH.cons (o:=?oi125) ?ho125 (fun K hK=>?st125) ?mo125
       case ho125=>(simp only [List.getElem?_toArray,List.getElem?_cons_zero,List.getElem?_cons_succ];rfl)
       case st125 =>
        go_simp
        refine (HRQ.out _).mono ?_
        rintro e w225 ⟨q125,rfl,hr,hb⟩
        have HT125:=hid (HT124.out.below hb)
        have HB125:=hid (thenB_ HB124.out hb)
        have HQ125:=hid hr
        have HY125:=hid (HY124.out.fr (Fr.of_below (F:=fun _=>False) hb) (fun h=>h))
        have HK125:=hid (HK124.out.fr (Fr.of_below (F:=fun _=>False) hb) (fun h=>h))
        clear hr hb
        go_wp2_with fail
        refine hK.out _ _ trivial (fun hHeld=>?_)
        clear hK K
        try simp only [Act.put,List.setIfInBounds_toArray,List.set_cons_zero,List.set_cons_succ]
        refine wpAnyH_ready (rs:=[6]) (by kernel_rfl) (by simp) ?_
        refine AllReadyH.cons (o:=?oi126) ?ho126 (fun K hK=>?st126) AllReadyH.nil
        case ho126=>(simp only [List.getElem?_toArray,List.getElem?_cons_zero,List.getElem?_cons_succ];rfl)
        have hcv:=run_string_own (P:=Tryz.prog) 59 9 5 Tryz.underlying59 Tryz.underlying5 Tryz.underlying9 (one_row HY125.out)
        go_simp
        clear hcv
        refine hK.out _ _ trivial (fun hHeld=>?_)
        clear hK K
        try simp only [Act.put,List.setIfInBounds_toArray,List.set_cons_zero,List.set_cons_succ]
        have ha1:=HADD.out
        refine wpAnyH_take (i:=7) (oi:=?oi127) (v:=?v127) ?ho127 ?ka127 ?kb127 ?kc127 (fun _ _ _ h=>h) (Or.inl ⟨?kw127,?hy127⟩) (by assumption) ?rest127
        case ho127=>(simp only [List.getElem?_toArray,List.getElem?_cons_zero,List.getElem?_cons_succ];rfl)
        case ka127=>kernel_rfl
        case kb127=>kernel_rfl
        case kc127=>kernel_rfl
        case kw127=>rfl
        case hy127=>(intro wq hSw;(try dsimp only at hSw);go_simp;try with_reducible rfl)
        try simp only [Act.put,List.setIfInBounds_toArray,List.set_cons_zero,List.set_cons_succ]
        clear ha1
        refine wpAnyH_ready (rs:=[8]) (by kernel_rfl) (by simp) ?_
        refine AllReadyH.cons (o:=?oi128) ?ho128 (fun K hK=>?st128) AllReadyH.nil
        case ho128=>(simp only [List.getElem?_toArray,List.getElem?_cons_zero,List.getElem?_cons_succ];rfl)
        go_simp
        refine (HBE.out _ _ _ HT125.out HQ125.out).mono ?_
        rintro e w228 ⟨v128,rfl,m1,t1⟩
        have HM128:=hid m1
        have HT128:=hid t1.tab
        have HB128:Hid (Below w.heap.size w w228):=hid (HB125.out.trans (below_out t1.fr (fun k h=>.inl h) HB125.out.size))
        have HK128:=hid (HK125.out.out (.inr rfl) t1.fr)
        clear m1 t1
        go_wp2_with fail
        refine hK.out _ _ trivial (fun hHeld=>?_)
        clear hK K
        try simp only [Act.put,List.setIfInBounds_toArray,List.set_cons_zero,List.set_cons_succ]
        refine wpAnyH_take (i:=9) (oi:=?oi129) (v:=?v129) ?ho129 ?ka129 ?kb129 ?kc129 (fun _ _ _ h=>h) (Or.inl ⟨?kw129,?hy129⟩) (by assumption) ?rest129
        case ho129=>(simp only [List.getElem?_toArray,List.getElem?_cons_zero,List.getElem?_cons_succ];rfl)
        case ka129=>kernel_rfl
        case kb129=>kernel_rfl
        case kc129=>kernel_rfl
        case kw129=>rfl
        case hy129=>(intro wq hSw;(try dsimp only at hSw);go_simp;try with_reducible rfl)
        try simp only [Act.put,List.setIfInBounds_toArray,List.set_cons_zero,List.set_cons_succ]
        refine wpAnyH_take (i:=10) (oi:=?oi130) (v:=?v130) ?ho130 ?ka130 ?kb130 ?kc130 (fun _ _ _ h=>h) (Or.inl ⟨?kw130,?hy130⟩) (by assumption) ?rest130
        case ho130=>(simp only [List.getElem?_toArray,List.getElem?_cons_zero,List.getElem?_cons_succ];rfl)
        case ka130=>kernel_rfl
        case kb130=>kernel_rfl
        case kc130=>kernel_rfl
        case kw130=>rfl
        case hy130=>(intro wq hSw;(try dsimp only at hSw);go_simp;try with_reducible rfl)
        try simp only [Act.put,List.setIfInBounds_toArray,List.set_cons_zero,List.set_cons_succ]
        refine wpAnyH_take (i:=11) (oi:=?oi131) (v:=?v131) ?ho131 ?ka131 ?kb131 ?kc131 (fun _ _ _ h=>h) (Or.inl ⟨?kw131,?hy131⟩) (by assumption) ?rest131
        case ho131=>(simp only [List.getElem?_toArray,List.getElem?_cons_zero,List.getElem?_cons_succ];rfl)
        case ka131=>kernel_rfl
        case kb131=>kernel_rfl
        case kc131=>kernel_rfl
        case kw131=>rfl
        case hy131=>(intro wq hSw;(try dsimp only at hSw);go_simp;try with_reducible rfl)
        try simp only [Act.put,List.setIfInBounds_toArray,List.set_cons_zero,List.set_cons_succ]
        refine wpAnyH_ready (rs:=[13]) (by kernel_rfl) (by simp) ?_
        refine AllReadyH.cons (o:=?oi132) ?ho132 (fun K hK=>?st132) AllReadyH.nil
        case ho132=>(simp only [List.getElem?_toArray,List.getElem?_cons_zero,List.getElem?_cons_succ];rfl)
        rw [if_pos (by rfl)]
        refine wp_store_mid 39 (.tmp 6) (.tmp 35) rfl gs113 0 (subA R.sub v128) rfl rfl (blk_there HK128.out (Nat.le_refl 34)) (by kernel_rfl) (subA_one HM128.out.ok.1 HM128.out.ok.2) ?_
        have hk2:Blk (World.setCells w228 gs113 0 (subA R.sub v128).toList) gs113 39 (subA R.sub v128):=blk_setCells (subA R.sub v128).toList (off:=0) HK128.out (Nat.le_refl 34)
        have hf2:Fr (fun k=>k=gs113) w228 (World.setCells w228 gs113 0 (subA R.sub v128).toList):=fr_setCells gs113 (subA R.sub v128).toList 0 w228
        obtain ⟨w232,hu⟩:∃ u,World.setCells w228 gs113 0 (subA R.sub v128).toList=u:=⟨_,rfl⟩
        rw [hu] at hk2 hf2 ⊢
        clear hu
        have HFIN:Hid (FulCut w p m R (.pointer (some ⟨gs113,0,none⟩)) (.int .i64 R.err) w232):=hid ⟨gs113,rfl,rfl,hk2.cell 0,(HT128.out.set (.inr rfl) HK128.out (by decide) (by decide) hf2).mono (fun k h=>.inl h),HB128.out.trans (hf2.to_below HB128.out.size (fun k e=>e▸HGE_gs113.out))⟩
        clear hk2 hf2
        refine hK.out _ _ trivial (fun hHeld=>?_)
        clear hK K
        try simp only [Act.put,List.setIfInBounds_toArray,List.set_cons_zero,List.set_cons_succ]
        refine wpAnyH_take (i:=14) (oi:=?oi133) (v:=?v133) ?ho133 ?ka133 ?kb133 ?kc133 (fun _ _ _ h=>h) (Or.inl ⟨?kw133,?hy133⟩) (by assumption) ?rest133
        case ho133=>(simp only [List.getElem?_toArray,List.getElem?_cons_zero,List.getElem?_cons_succ];rfl)
        case ka133=>kernel_rfl
        case kb133=>kernel_rfl
        case kc133=>kernel_rfl
        case kw133=>rfl
        case hy133=>(intro wq hSw;(try dsimp only at hSw);go_simp;try with_reducible rfl)
        try simp only [Act.put,List.setIfInBounds_toArray,List.set_cons_zero,List.set_cons_succ]
        refine wpAnyH_done (by kernel_rfl) ?_ _
        refine NoPanic.normal ?_
        go_wp2_with fail
        go_meet
        exact HFIN.out
       case mo125 =>
        refine AllReadyH.cons (o:=?oi134) ?ho134 (fun K hK=>?st134) AllReadyH.nil
        case ho134=>(simp only [List.getElem?_toArray,List.getElem?_cons_zero,List.getElem?_cons_succ];rfl)
        have hcv:=run_string_own (P:=Tryz.prog) 59 9 5 Tryz.underlying59 Tryz.underlying5 Tryz.underlying9 (one_row HY124.out)
        go_simp
        clear hcv
        refine hK.out _ _ trivial (fun hHeld=>?_)
        clear hK K
        try simp only [Act.put,List.setIfInBounds_toArray,List.set_cons_zero,List.set_cons_succ]
        have ha1:=HADD.out
        refine wpAnyH_take (i:=7) (oi:=?oi135) (v:=?v135) ?ho135 ?ka135 ?kb135 ?kc135 (fun _ _ _ h=>h) (Or.inl ⟨?kw135,?hy135⟩) (by assumption) ?rest135
        case ho135=>(simp only [List.getElem?_toArray,List.getElem?_cons_zero,List.getElem?_cons_succ];rfl)
        case ka135=>kernel_rfl
        case kb135=>kernel_rfl
        case kc135=>kernel_rfl
        case kw135=>rfl
        case hy135=>(intro wq hSw;(try dsimp only at hSw);go_simp;try with_reducible rfl)
        try simp only [Act.put,List.setIfInBounds_toArray,List.set_cons_zero,List.set_cons_succ]
        clear ha1
        refine wpAnyH_ready (rs:=[1]) (by kernel_rfl) (by simp) ?_
        refine AllReadyH.cons (o:=?oi136) ?ho136 (fun K hK=>?st136) AllReadyH.nil
        case ho136=>(simp only [List.getElem?_toArray,List.getElem?_cons_zero,List.getElem?_cons_succ];rfl)
        go_simp
        refine (HRQ.out _).mono ?_
        rintro e w236 ⟨q136,rfl,hr,hb⟩
        have HT136:=hid (HT124.out.below hb)
        have HB136:=hid (thenB_ HB124.out hb)
        have HQ136:=hid hr
        have HY136:=hid (HY124.out.fr (Fr.of_below (F:=fun _=>False) hb) (fun h=>h))
        have HK136:=hid (HK124.out.fr (Fr.of_below (F:=fun _=>False) hb) (fun h=>h))
        clear hr hb
        go_wp2_with fail
        refine hK.out _ _ trivial (fun hHeld=>?_)
        clear hK K
        try simp only [Act.put,List.setIfInBounds_toArray,List.set_cons_zero,List.set_cons_succ]
        refine wpAnyH_ready (rs:=[8]) (by kernel_rfl) (by simp) ?_
        refine AllReadyH.cons (o:=?oi137) ?ho137 (fun K hK=>?st137) AllReadyH.nil
        case ho137=>(simp only [List.getElem?_toArray,List.getElem?_cons_zero,List.getElem?_cons_succ];rfl)
        go_simp
        refine (HBE.out _ _ _ HT136.out HQ136.out).mono ?_
        rintro e w237 ⟨v137,rfl,m1,t1⟩
        have HM137:=hid m1
        have HT137:=hid t1.tab
        have HB137:Hid (Below w.heap.size w w237):=hid (HB136.out.trans (below_out t1.fr (fun k h=>.inl h) HB136.out.size))
        have HK137:=hid (HK136.out.out (.inr rfl) t1.fr)
        clear m1 t1
        go_wp2_with fail
        refine hK.out _ _ trivial (fun hHeld=>?_)
        clear hK K
        try simp only [Act.put,List.setIfInBounds_toArray,List.set_cons_zero,List.set_cons_succ]
        refine wpAnyH_take (i:=9) (oi:=?oi138) (v:=?v138) ?ho138 ?ka138 ?kb138 ?kc138 (fun _ _ _ h=>h) (Or.inl ⟨?kw138,?hy138⟩) (by assumption) ?rest138
        case ho138=>(simp only [List.getElem?_toArray,List.getElem?_cons_zero,List.getElem?_cons_succ];rfl)
        case ka138=>kernel_rfl
        case kb138=>kernel_rfl
        case kc138=>kernel_rfl
        case kw138=>rfl
        case hy138=>(intro wq hSw;(try dsimp only at hSw);go_simp;try with_reducible rfl)
        try simp only [Act.put,List.setIfInBounds_toArray,List.set_cons_zero,List.set_cons_succ]
        refine wpAnyH_take (i:=10) (oi:=?oi139) (v:=?v139) ?ho139 ?ka139 ?kb139 ?kc139 (fun _ _ _ h=>h) (Or.inl ⟨?kw139,?hy139⟩) (by assumption) ?rest139
        case ho139=>(simp only [List.getElem?_toArray,List.getElem?_cons_zero,List.getElem?_cons_succ];rfl)
        case ka139=>kernel_rfl
        case kb139=>kernel_rfl
        case kc139=>kernel_rfl
        case kw139=>rfl
        case hy139=>(intro wq hSw;(try dsimp only at hSw);go_simp;try with_reducible rfl)
        try simp only [Act.put,List.setIfInBounds_toArray,List.set_cons_zero,List.set_cons_succ]
        refine wpAnyH_take (i:=11) (oi:=?oi140) (v:=?v140) ?ho140 ?ka140 ?kb140 ?kc140 (fun _ _ _ h=>h) (Or.inl ⟨?kw140,?hy140⟩) (by assumption) ?rest140
        case ho140=>(simp only [List.getElem?_toArray,List.getElem?_cons_zero,List.getElem?_cons_succ];rfl)
        case ka140=>kernel_rfl
        case kb140=>kernel_rfl
        case kc140=>kernel_rfl
        case kw140=>rfl
        case hy140=>(intro wq hSw;(try dsimp only at hSw);go_simp;try with_reducible rfl)
        try simp only [Act.put,List.setIfInBounds_toArray,List.set_cons_zero,List.set_cons_succ]
        refine wpAnyH_ready (rs:=[13]) (by kernel_rfl) (by simp) ?_
        refine AllReadyH.cons (o:=?oi141) ?ho141 (fun K hK=>?st141) AllReadyH.nil
        case ho141=>(simp only [List.getElem?_toArray,List.getElem?_cons_zero,List.getElem?_cons_succ];rfl)
        rw [if_pos (by rfl)]
        refine wp_store_mid 39 (.tmp 6) (.tmp 35) rfl gs113 0 (subA R.sub v137) rfl rfl (blk_there HK137.out (Nat.le_refl 34)) (by kernel_rfl) (subA_one HM137.out.ok.1 HM137.out.ok.2) ?_
        have hk2:Blk (World.setCells w237 gs113 0 (subA R.sub v137).toList) gs113 39 (subA R.sub v137):=blk_setCells (subA R.sub v137).toList (off:=0) HK137.out (Nat.le_refl 34)
        have hf2:Fr (fun k=>k=gs113) w237 (World.setCells w237 gs113 0 (subA R.sub v137).toList):=fr_setCells gs113 (subA R.sub v137).toList 0 w237
        obtain ⟨w241,hu⟩:∃ u,World.setCells w237 gs113 0 (subA R.sub v137).toList=u:=⟨_,rfl⟩
        rw [hu] at hk2 hf2 ⊢
        clear hu
        have HFIN:Hid (FulCut w p m R (.pointer (some ⟨gs113,0,none⟩)) (.int .i64 R.err) w241):=hid ⟨gs113,rfl,rfl,hk2.cell 0,(HT137.out.set (.inr rfl) HK137.out (by decide) (by decide) hf2).mono (fun k h=>.inl h),HB137.out.trans (hf2.to_below HB137.out.size (fun k e=>e▸HGE_gs113.out))⟩
        clear hk2 hf2
        refine hK.out _ _ trivial (fun hHeld=>?_)
        clear hK K
        try simp only [Act.put,List.setIfInBounds_toArray,List.set_cons_zero,List.set_cons_succ]
        refine wpAnyH_take (i:=14) (oi:=?oi142) (v:=?v142) ?ho142 ?ka142 ?kb142 ?kc142 (fun _ _ _ h=>h) (Or.inl ⟨?kw142,?hy142⟩) (by assumption) ?rest142
        case ho142=>(simp only [List.getElem?_toArray,List.getElem?_cons_zero,List.getElem?_cons_succ];rfl)
        case ka142=>kernel_rfl
        case kb142=>kernel_rfl
        case kc142=>kernel_rfl
        case kw142=>rfl
        case hy142=>(intro wq hSw;(try dsimp only at hSw);go_simp;try with_reducible rfl)
        try simp only [Act.put,List.setIfInBounds_toArray,List.set_cons_zero,List.set_cons_succ]
        refine wpAnyH_done (by kernel_rfl) ?_ _
        refine NoPanic.normal ?_
        go_wp2_with fail
        go_meet
        exact HFIN.out
   case rest =>
    obtain ⟨g,rfl,rfl,c0,ht,hb⟩:=hcut
    have HTX:=hid ht
    have HBX:=hid hb
    obtain ⟨n1,n2,n3⟩:=HNX.out
    have HN1:=hid n1
    clear ht hb n1 HBE HADD HKB hkb
    by_cases hkm:k<m
    .obtain ⟨he,hs⟩:=n2 hkm
     rw [hs] at c0
     rw [he]
     have y1:(k:Int)<m:=by omega
     have y2:decide ((k:Int)<m)=true:=decide_eq_true y1
     have y3:¬(m:Int)<=k:=by omega
     clear n2 n3 he hs hkm
     go_wp2_with fail
     go_roundw
     case rel=>exact ⟨k+1,by omega,by go_num,_,_,HN1.out,HTX.out,HBX.out⟩
     case measure=>simp [intOf] <;> omega
    .have he:=n3 (by omega)
     rw [he]
     have y1:¬(k:Int)<m:=by omega
     have y2:decide ((k:Int)<m)=false:=decide_eq_false y1
     have y3:(m:Int)<=k:=by omega
     clear n2 n3 he hkm
     go_wp2_with fail
     go_roundw
     case rel=>exact ⟨k+1,by omega,by go_num,_,_,HN1.out,HTX.out,HBX.out⟩
     case measure=>simp [intOf] <;> omega
  .obtain rfl:k=m+2:=by omega
   obtain ⟨m',rfl⟩:∃ m',m=m'+1:=⟨m-1,by omega⟩
   have hla:last=(m':Int)+1:=by have:=HI.out.la;omega
   have hnu:L.map (·.number)=numsT (m'+1):=by have h9:=HI.out.nu;rw [show min (m'+1+2) (m'+1)=m'+1 by omega] at h9;exact h9
   obtain ⟨g1,g2,g3,g4⟩:=drop_nums hnu
   subst hla
   have HD1:Hid (Calls Tryz.prog 20 #[.pointer (some ⟨p,0,none⟩),.int .i64 1] wr fun e w'=>e=.returned (.bool true)/\TbTo (fun k=>k<w.heap.size) p (plS ((m'+1:Nat):Int)) ((m':Int)+1) (dropS L 1) wr w'):=hid (by
    have h9:=drop_x (n:=1) HT.out
    rw [g1] at h9
    exact h9)
   have HD2:Hid (∀ W,TbX (fun k=>k<w.heap.size) W p (plS ((m'+1:Nat):Int)) ((m':Int)+1) (dropS L 1)->Calls Tryz.prog 20 #[.pointer (some ⟨p,0,none⟩),.int .i64 1] W fun e w'=>e=.returned (.bool false)/\TbTo (fun k=>k<w.heap.size) p (plS ((m'+1:Nat):Int)) ((m':Int)+1) (dropS L 1) W w'):=hid (fun W H=>by
    have h9:=drop_x (n:=1) H
    rw [g2,g4] at h9
    exact h9)
   have HBY:Hid (∀ W q,TbX (fun k=>k<w.heap.size) W p (plS ((m'+1:Nat):Int)) ((m':Int)+1) (dropS L 1)->ReqB W W.heap.size (reqT 1 [] 60) q->Calls Tryz.prog 12 #[.pointer (some ⟨p,0,none⟩),.int .i64 0,.agg (reqA (reqT 1 [] 60) q),.string ⟨#[97,64,98]⟩,.string ⟨#[99,64,100]⟩,.int .i64 1,.string ⟨#[121]⟩] W fun e w'=>∃ s v' L2,s.number=(m':Int)+1+1/\L2.length=m'+1/\e=.returned (.tuple #[.agg (subA s v'),.int .i64 0])/\SubM w' s v'/\TbTo (fun k=>k<w.heap.size) p (plS ((m'+1:Nat):Int)) ((m':Int)+1+1) L2 W w'):=hid (fun W q H hr=>by
    have h9:=begin_x (now:=0) (state:=1) (who:=abT) (watcher:=cdT) (tag:=[121]) H (by omega) (Nat.le_refl _) hr (reqT_z _ _ _) (by decide)
    rw [begS_T rfl (.inr rfl) tag_y.1 tag_y.2 rfl (by rw [g3];omega)] at h9
    refine h9.mono ?_
    rintro e w' ⟨v',rfl,hm,ht⟩
    exact ⟨_,v',_,lasts_num _ _ _,by rw [List.length_append,g3];rfl,rfl,hm,ht⟩)
   clear hnu g1 g2 g3 g4
   go_wp2_with fail
   refine (HD1.out).mono ?_
   rintro e w3 ⟨rfl,t3⟩
   have HT3:=hid t3
   have HB3:Hid (Below w.heap.size w w3):=hid (HB.out.trans (below_out t3.fr (fun k h=>h) HB.out.size))
   clear t3
   go_wp2_with fail
   refine (HD2.out _ HT3.out.tab).mono ?_
   rintro e w4 ⟨rfl,t4⟩
   have HT4:=hid t4
   have HB4:Hid (Below w.heap.size w w4):=hid (HB3.out.trans (below_out t4.fr (fun k h=>h) HB3.out.size))
   clear t4
   go_wp2_with fail
   refine (HRQ.out _).mono ?_
   rintro e w5 ⟨q5,rfl,hr5,hb5⟩
   have HT5:=hid (HT4.out.tab.below hb5)
   have HB5:=hid (thenB_ HB4.out hb5)
   have HRQ5:=hid hr5
   clear hr5 hb5
   go_wp2_with fail
   refine (HBY.out _ _ HT5.out HRQ5.out).mono ?_
   rintro e w6 ⟨s6,v6,L6,hs6,hl6,rfl,m6,t6⟩
   have HT6:=hid t6
   have HON6:=hid (subA_one (s:=s6) m6.ok.1 m6.ok.2)
   have HB6:Hid (Below w.heap.size w w6):=hid (HB5.out.trans (below_out t6.fr (fun k h=>h) HB5.out.size))
   have HS6:=hid hs6
   have HL6:=hid hl6
   clear m6 t6 hs6 hl6
   go_upto_region 14 with (refine wpl_store rfl 39 (.tmp 8) (.tmp 75) rfl w6.heap.size 0 rfl (subA s6 v6) rfl (sub_blk0 w6) (Nat.le_refl 34) (subA s6 v6) rfl (by kernel_rfl) HON6.out ?_;intro w7 hk7 hf7)
   obtain ⟨t7,b7⟩:=HT6.out.tab.loc hf7
   have HALL:=hid (all_x t7)
   have HB7:=hid (thenB_ HB6.out b7)
   have a0:w7.cell? ⟨w6.heap.size,0,none⟩=some (.int .i64 s6.number):=hk7.cell 0
   rw [HS6.out] at a0
   clear hk7 hf7 t7 b7
   unfold SaPost at HALL
   go_wp2_with fail
   refine (HALL.out).mono ?_
   rintro e w8 ⟨v8,rfl,ho8,hb8⟩
   obtain ⟨ys,hys,hown,_⟩:=ho8.ex
   obtain ⟨A8,c8,rfl,_⟩:=RdV.of_own hown
   rw [HL6.out]
   have HB8:=hid (thenB_ HB7.out hb8)
   clear ho8 hys hown hb8
   go_wp2_with fail
   refine (HAW.out _).mono ?_
   rintro e w9 ⟨rfl,hb9⟩
   have HB9:=hid (thenB_ HB8.out hb9)
   clear hb9
   go_wp2
   go_ret
   exact ⟨rfl,HB9.out⟩
end Go.Proofs.YthkadehlclcggaaGreatDoor
