/- Chapter 3: uri.pair, rosterref03.pair. Chapter 3: (*strings.Builder).WriteString. Chapter 3: what is printed, part by part. Chapter 3: uri.Print. -/
import Derived.Test.YthfmekdbcoaolaaGreatDoorGy17
import Derived.Test.YthfmekdbcoaolaaGreatDoorGy02
import Derived.Deep.DeepCutAuto
import Derived.Deep.CutBlock
import Derived.Deep.RegionHeld3
namespace Go.Proofs.YthfmekdbcoaolaaGreatDoor
set_option linter.unusedSimpArgs false
set_option linter.unusedVariables false
open Go.RowKit
open Go.Lib (hid)
def parV (p:Par):Value:=.agg #[.string (str p.name),.string (str p.value),.bool p.has]
def PairPost (p:Par) (keep:T) (w:World) (e:Ending) (w':World):Prop:=e=.returned (.string (str (pairT keep p)))/\Below w.heap.size w w'
theorem pair_has {p:Par} (keep:T) (h:p.has=true):str (esc keep p.name)++(⟨#[61]⟩++str (esc keep p.value))=str (pairT keep p):=by
 unfold pairT
 rw [if_pos h,show (⟨#[61]⟩:ByteArray)=str [61] from rfl,str_app,str_app]
 rfl
theorem pair_bare {p:Par} (keep:T) (h:p.has=false):str (esc keep p.name)=str (pairT keep p):=by
 unfold pairT
 rw [if_neg (by rw [h];simp),List.append_nil]
theorem esc_len (keep:T):∀ l:T,(esc keep l).length<=3*l.length
 | []=>by simp [esc]
 | c::r=>by
   have ih:=esc_len keep r
   have h1:esc keep (c::r)=esc1 keep c++esc keep r:=rfl
   have:=esc1_len keep c
   rw [h1,List.length_append,List.length_cons]
   omega
theorem add_any (a b:ByteArray) (W:World) (h:a.size+b.size<=1000000000):(Op.stringOp .add a b).run Tryz.prog W=.ok (.string (a++b)) W:=by
 exact run_string_add_sum W a b (by omega)
set_option maxRecDepth 100000 in
set_option maxHeartbeats 1000000 in
theorem pair_any {p:Par} {keep:T} {w:World} (hn:p.name.length<=1000000) (hv:p.value.length<=1000000) (hk:keep.length<=100) :
 Calls Tryz.prog 152 #[parV p,.string (str keep)] w (PairPost p keep w):=by
 unfold parV
 have HE1:Hid (∀ w,Calls Tryz.prog 150 #[.string (str p.name),.string (str keep)] w (EscPost (str keep) (str p.name) w)):=hid (fun w=>Escape_any _ _ w (by show p.name.length<=_;omega) (by show keep.length<=_;omega))
 have HE2:Hid (∀ w,Calls Tryz.prog 150 #[.string (str p.value),.string (str keep)] w (EscPost (str keep) (str p.value) w)):=hid (fun w=>Escape_any _ _ w (by show p.value.length<=_;omega) (by show keep.length<=_;omega))
 have l1:(str (esc keep p.name)).size<=3000000:=by have:=esc_len keep p.name;show (esc keep p.name).length<=_;omega
 have l2:(str (esc keep p.value)).size<=3000000:=by have:=esc_len keep p.value;show (esc keep p.value).length<=_;omega
 have HP:Hid (p.has=true->str (esc keep p.name)++(⟨#[61]⟩++str (esc keep p.value))=str (pairT keep p)):=hid (pair_has keep)
 have HP0:Hid (p.has=false->str (esc keep p.name)=str (pairT keep p)):=hid (pair_bare keep)
 have q1:escS (str keep) (str p.name)=str (esc keep p.name):=rfl
 have q2:escS (str keep) (str p.value)=str (esc keep p.value):=rfl
 unfold EscPost at HE1 HE2
 rw [q1] at HE1
 rw [q2] at HE2
 generalize str (esc keep p.name)=X at *
 generalize str (esc keep p.value)=Y at *
 have ha1:∀ W:World,(Op.stringOp .add ⟨#[61]⟩ Y).run Tryz.prog W=.ok (.string (⟨#[61]⟩++Y)) W:=fun W=>add_any _ _ W (by show 1+Y.size<=_;omega)
 have ha2:∀ W:World,(Op.stringOp .add X (⟨#[61]⟩++Y)).run Tryz.prog W=.ok (.string (X++(⟨#[61]⟩++Y))) W:=fun W=>add_any _ _ W (by rw [ByteArray.size_append];show X.size+(1+Y.size)<=_;omega)
 have HAL:Hid (∀ o,Below w.heap.size w (w.alloc o)):=hid (fun o=>(Below.refl _ _).alloc (Nat.le_refl _) o)
 cases hh:p.has with
 | false =>
   have HX:=hid (HP0.out hh)
   clear hh
   go_enter Tryz.func152,Tryz.ntmps152
   go_wp2_with fail
   have hsz:=(HAL.out (.cells #[.string (str p.name),.string (str p.value),.bool false] 207)).size
   refine (HE1.out _).mono ?_
   rintro e w1 ⟨rfl,hb1⟩
   have k2:w1.cell? ⟨w.heap.size,2,none⟩=some (.bool false):=(((Blk.new w 207 #[.string (str p.name),.string (str p.value),.bool false])).fr (Fr.of_below (F:=fun _=>False) hb1) (fun h=>h)).cell 2
   have HB1:=hid ((HAL.out _).trans (hb1.mono hsz))
   clear hb1
   go_wp2
   go_ret
   exact ⟨ret_s HX.out,HB1.out⟩
 | true =>
   have HX:=hid (HP.out hh)
   clear hh
   go_enter Tryz.func152,Tryz.ntmps152
   go_wp2_with fail
   have hsz:=(HAL.out (.cells #[.string (str p.name),.string (str p.value),.bool true] 207)).size
   refine (HE1.out _).mono ?_
   rintro e w1 ⟨rfl,hb1⟩
   have hk1:=((Blk.new w 207 #[.string (str p.name),.string (str p.value),.bool true])).fr (Fr.of_below (F:=fun _=>False) hb1) (fun h=>h)
   have k2:w1.cell? ⟨w.heap.size,2,none⟩=some (.bool true):=hk1.cell 2
   have k1:w1.cell? ⟨w.heap.size,1,none⟩=some (.string (str p.value)):=hk1.cell 1
   have HB1:=hid ((HAL.out _).trans (hb1.mono hsz))
   have hs1:=hb1.size
   clear hb1 hk1
   go_wp2_with fail
   refine (HE2.out _).mono ?_
   rintro e w2 ⟨rfl,hb2⟩
   have HB2:=hid (HB1.out.trans (hb2.mono (Nat.le_trans hsz hs1)))
   clear hb2
   go_wp2
   go_ret
   exact ⟨ret_s HX.out,HB2.out⟩
def Bld (B b:Nat) (l:T) (w:World):Prop:=Lib.IsBuilder 214 5 B b (Lib.byteCells l) w
theorem sizeBld:(Tryz.prog.info? 214).map (·.size)=some 2:=by kernel_rfl
theorem liesBld:liesAt Tryz.prog Tryz.prog.depth 214 (2 / Tryz.prog.cellsOf 214) 0 214 1=true:=by kernel_rfl
def Kept (w w':World):Prop:=∀ (g:Nat) (t:TypeId) (cs:Array Value),t≠214->t≠5->Blk w g t cs->Blk w' g t cs
theorem Kept.refl (w:World):Kept w w:=fun _ _ _ _ _ h=>h
theorem Kept.trans {a b c:World} (h:Kept a b) (k:Kept b c):Kept a c:=fun g t cs h1 h2 hb=>k g t cs h1 h2 (h g t cs h1 h2 hb)
set_option maxHeartbeats 1000000 in
set_option maxRecDepth 100000 in
theorem copyCheck_used (b:Nat) (w:World) (h0:w.cell? ⟨b,0,none⟩=some (.pointer (some ⟨b,0,none⟩))) :
 Calls Tryz.prog 173 #[.pointer (some ⟨b,0,none⟩)] w fun e w'=>e=.returned (.tuple #[])/\w'=w:=by
 obtain ⟨j,hj,_⟩:=Option.map_eq_some_iff.1 sizeBld
 go_enter Tryz.func173,Tryz.ntmps173
 go_wp2
 rw [Lib.run_neq_ptr_same w _ Tryz.underlying212 hj]
 go_wp2
 go_end0
 exact ⟨rfl,rfl⟩
set_option maxHeartbeats 1000000 in
set_option maxRecDepth 100000 in
theorem copyCheck_fresh (b:Nat) (w:World) (h0:w.cell? ⟨b,0,none⟩=some (.pointer none)) (hsh:w.shape? b=some (214,2)) (hfz:w.frozen? ⟨b,0,none⟩=false) :
 Calls Tryz.prog 173 #[.pointer (some ⟨b,0,none⟩)] w fun e w'=>e=.returned (.tuple #[])/\w'=w.setCell ⟨b,0,none⟩ (.pointer (some ⟨b,0,none⟩)):=by
 obtain ⟨j,hj,hjs⟩:=Option.map_eq_some_iff.1 sizeBld
 go_enter Tryz.func173,Tryz.ntmps173
 go_wp2
 rw [Lib.run_to_unsafe w ⟨b,0,none⟩ Tryz.underlying212 Tryz.underlying240 hj (by rw [hjs];decide) hsh (Nat.zero_lt_succ 1)]
 simp only [Result.andThen]
 rw [Oper.upon_value]
 go_wp2
 rw [run_callFunc_extern Tryz.func187 (by kernel_rfl) (by kernel_rfl) (by kernel_rfl) (e:=Extern.AbiNoEscape.same) (by kernel_rfl)]
 rw [Lib.run_noEscape]
 simp only [Result.andThen]
 rw [Oper.upon_value]
 go_wp2
 rw [Lib.run_from_unsafe w ⟨b,0,none⟩ Tryz.underlying240 Tryz.underlying212 hj hsh liesBld]
 simp only [Result.andThen]
 rw [Oper.upon_value]
 go_wp2
 go_end0
 exact ⟨rfl,rfl⟩
theorem copyCheck_any (B b:Nat) (bs:List Value) (w:World) (h:Lib.IsBuilder 214 5 B b bs w) :
 Calls Tryz.prog 173 #[.pointer (some ⟨b,0,none⟩)] w fun e w'=>e=.returned (.tuple #[])/\(Lib.BuilderAt 214 5 B b (.pointer (some ⟨b,0,none⟩)) bs w'/\Below B w w'/\Kept w w'):=by
 rcases h with h|h
 .refine (copyCheck_fresh b w h.cell0 h.shape h.frozen0).mono ?_
  rintro e w' ⟨rfl,rfl⟩
  refine ⟨rfl,h.used _,(Below.refl B w).setCell (p:=⟨b,0,none⟩) h.1 _,fun g t cs h1 h2 hb=>?_⟩
  obtain ⟨_,v,hbk,_⟩:=h
  exact hb.far (p:=⟨b,0,none⟩) (Blk.ne_ hb hbk h1) _
 .refine (copyCheck_used b w h.cell0).mono ?_
  rintro e w' ⟨rfl,rfl⟩
  exact ⟨rfl,h,Below.refl B _,Kept.refl _⟩
set_option maxHeartbeats 2000000 in
set_option maxRecDepth 100000 in
theorem WriteString_any {B b:Nat} {l:T} {s:ByteArray} {w:World} (h:Bld B b l w) (hlen:l.length+s.size<=1000000000) (hBw:B<=w.heap.size) :
 Calls Tryz.prog 149 #[.pointer (some ⟨b,0,none⟩),.string s] w fun e w'=>e=.returned (.tuple #[.int .i64 s.size,.nilIface])/\Bld B b (l++s.data.toList) w'/\Below B w w'/\Kept w w':=by
 obtain ⟨i0,hi,hz0,hz1,hz2⟩:=info_parts (show (Tryz.prog.info? 5).map (fun i=>(i.zero,i.size,i.bytes))=some (some (.int .u8 0),1,1) by kernel_rfl)
 have hbl:(Lib.byteCells l).length=l.length:=by simp [Lib.byteCells]
 have happ:Lib.byteCells l++Lib.strCells s=Lib.byteCells (l++s.data.toList):=by simp [Lib.byteCells,Lib.strCells]
 unfold Bld at h ⊢
 rw [<-happ]
 clear happ
 generalize Lib.byteCells l=bs at *
 go_enter Tryz.func149,Tryz.ntmps149
 go_wp2_with (go_at_call 173;refine (copyCheck_any B b bs _ h).mono ?_)
 rintro e w1 ⟨rfl,h1,hb1,hk1⟩
 have HK1:=hid hk1
 clear hk1
 obtain ⟨hB,v,hbk,hown,hne⟩:=h1
 have HBK:=hid hbk
 have HOWN:=hid hown
 have c0:w1.cell? ⟨b,0,none⟩=some (.pointer (some ⟨b,0,none⟩)):=by rw [Lib.cell_of_heap hbk];rfl
 have c1:w1.cell? ⟨b,1,none⟩=some v:=by rw [Lib.cell_of_heap hbk];rfl
 go_wp2_with (at_builtin;refine Lib.wpList_append_own_string _ rfl _ _ 71 9 rfl B 5 i0 Tryz.underlying71 Tryz.underlying9 hi hz0 hz1 hz2 _ _ _ rfl hown s rfl ?c3 ?c4 ?c5 ?_)
 case c3=>unfold maxLen;omega
 case c4=>omega
 case c5=>have:=hb1.size;omega
 intro v' w2 hown' hgrow _
 have hlt:b<w1.heap.size:=by
  rcases Nat.lt_or_ge b w1.heap.size with h'|h'
  .exact h'
  .simp [Array.getElem?_eq_none h'] at hbk
 have hb2:w2.heap[b]?=some (.cells #[.pointer (some ⟨b,0,none⟩),v] 214 (0,0)):=by
  rw [hgrow.block b hlt (fun e=>hne e.symm)]
  exact hbk
 have d0:w2.cell? ⟨b,0,none⟩=some (.pointer (some ⟨b,0,none⟩)):=by rw [Lib.cell_of_heap hb2];rfl
 have d1:w2.cell? ⟨b,1,none⟩=some v:=by rw [Lib.cell_of_heap hb2];rfl
 have f1:w2.frozen? ⟨b,1,none⟩=false:=Lib.frozen_of_heap hb2 1
 obtain ⟨ao,n',cap,rfl⟩:∃ ao n' cap,v'=.slice ao n' cap:=by
  rcases hown'.2 with ⟨hv,_⟩|⟨g,cap,cur,hv,_⟩
  .exact ⟨_,_,_,hv⟩
  .exact ⟨_,_,_,hv⟩
 go_wp2
 go_ret2
 refine ⟨rfl,.inr ?_,?_,?_⟩
 .exact Lib.BuilderAt.put (T:=214) (e:=5) hB hb2 (bs':=bs++Lib.strCells s) (by simpa [Lib.strCells_length,hbl] using hown') (by decide)
 .exact (hb1.grown hgrow (by have:=hb1.size;omega) (fun k hk=>(hown.lt k hk).1)).setCell (p:=⟨b,1,none⟩) hB _
 .intro g t cs h1 h2 hg
  have hg1:=HK1.out g t cs h1 h2 hg
  have hg2:Blk w2 g t cs:=Blk.of_grown hgrow hg1 (own_blk_ne HOWN.out hg1 (Ne.symm h2))
  exact hg2.far (p:=⟨b,1,none⟩) (Blk.ne_ hg1 HBK.out h1) _
theorem Bld.fresh (w:World):Bld w.heap.size w.heap.size [] (w.alloc (.cells #[.pointer none,.slice none 0 0] 214)):=Lib.fresh_isBuilder _ _ _
theorem Bld.fr {B b:Nat} {l:T} {w w':World} (h:Bld B b l w) (hb:Below w.heap.size w w'):Bld B b l w':=by
 have hf:Fr (fun _=>False) w w':=Fr.of_below hb
 unfold Bld at *
 have one:∀ p,Lib.BuilderAt 214 5 B b p (Lib.byteCells l) w->Lib.BuilderAt 214 5 B b p (Lib.byteCells l) w':=fun p h=>by
  have hlt:=h.lt
  obtain ⟨h1,v,h2,h3,h4⟩:=h
  exact ⟨h1,v,(hf.block b hlt (fun h=>h)).trans h2,own_fr h3 hf (fun _ _ h=>h),h4⟩
 rcases h with h|h
 .exact .inl (one _ h)
 .exact .inr (one _ h)
theorem Bld.drewN {B b:Nat} {l:T} {w:World} (h:Bld B b l w) (n:Nat):Bld B b l (w.drewN n):=h
def prScheme (u:Uri):T:=u.scheme++[58]
def prUser (u:Uri):T:=if u.user=[] then [] else esc users u.user++[64]
def prPort (u:Uri):T:=if 0<u.port then 58::digs u.port.toNat else []
def prPars (l:List Par) (j:Nat):T:=(l.take j).flatMap fun p=>59::pairT params p
def prHdrs (l:List Par) (j:Nat):T:=hdrsT (l.take j)
def prBase (u:Uri):T:=prScheme u++prUser u++u.host++prPort u
theorem print_parts (u:Uri):printT u=prBase u++prPars u.params u.params.length++prHdrs u.headers u.headers.length:=by
 unfold printT prBase prScheme prUser prPort prPars prHdrs
 rw [List.take_length,List.take_length]
theorem pars_step {l:List Par} {j:Nat} (h:j<l.length):prPars l (j+1)=prPars l j++59::pairT params l[j]:=by
 unfold prPars
 rw [List.take_succ_eq_append_getElem h,List.flatMap_append]
 simp
theorem hdrs_snoc:∀ (l:List Par) (p:Par),hdrsT (l++[p])=hdrsT l++(if l=[] then 63 else 38)::pairT headers p
 | [],p=>by simp [hdrsT]
 | a::r,p=>by simp [hdrsT]
theorem hdrs_step {l:List Par} {j:Nat} (h:j<l.length):prHdrs l (j+1)=prHdrs l j++(if j=0 then 63 else 38)::pairT headers l[j]:=by
 unfold prHdrs
 rw [List.take_succ_eq_append_getElem h,hdrs_snoc]
 have e:(l.take j=[])<->j=0:=by
  constructor
  .intro q
   have:=congrArg List.length q
   rw [List.length_take] at this
   simp only [List.length_nil] at this
   omega
  .rintro rfl
   simp
 by_cases q:j=0
 .rw [if_pos q,if_pos (e.2 q)]
 .rw [if_neg q,if_neg (fun h=>q (e.1 h))]
theorem pair_len (keep:T) {p:Par} (h:parOk p=true):(pairT keep p).length<=400:=by
 unfold parOk at h
 simp only [Bool.and_eq_true,decide_eq_true_eq] at h
 have h1:=esc_len keep p.name
 have h2:=esc_len keep p.value
 have:=h.1.1.2
 have:=h.1.2
 unfold pairT
 split
 .simp only [List.length_append,List.length_cons];omega
 .simp only [List.length_append,List.length_nil];omega
theorem pars_len {l:List Par} (h:listB l=true):∀ j,j<=l.length->(prPars l j).length<=500*j
 | 0,_=>by simp [prPars]
 | j+1,hj=>by
   have ih:=pars_len h j (by omega)
   have:=pair_len params (list_ok h _ (List.getElem_mem (show j<l.length by omega)))
   rw [pars_step (by omega),List.length_append,List.length_cons]
   omega
theorem hdrs_len {l:List Par} (h:listB l=true):∀ j,j<=l.length->(prHdrs l j).length<=500*j
 | 0,_=>by simp [prHdrs,hdrsT]
 | j+1,hj=>by
   have ih:=hdrs_len h j (by omega)
   have:=pair_len headers (list_ok h _ (List.getElem_mem (show j<l.length by omega)))
   rw [hdrs_step (by omega),List.length_append,List.length_cons]
   omega
theorem host_len {l:T} (h:hostB l=true):l.length<=64:=by
 unfold hostB at h
 simp only [Bool.and_eq_true,decide_eq_true_eq] at h
 exact h.1.1.2
theorem scheme_len {l:T} (h:schemeB l=true):l.length<=4:=by
 rcases scheme_cases h with q|q|q <;> rw [q] <;> simp
theorem list_len {l:List Par} (h:listB l=true):l.length<=16:=by
 unfold listB at h
 simp only [Bool.and_eq_true,decide_eq_true_eq] at h
 exact h.1.1
theorem port_len {n:Nat} (h:n<=65535):(digs n).length<=5:=digs_len 5 n (by omega) (by omega)
theorem user_len {u:Uri} (h:u.user.length<=64):(prUser u).length<=193:=by
 unfold prUser
 have:=esc_len users u.user
 split
 .simp
 .simp only [List.length_append,List.length_cons,List.length_nil];omega
theorem base_len {u:Uri} (h:checkE u=0):(prBase u).length<=300:=by
 obtain ⟨h1,h2,h3,h4,h5,_⟩:=check_parts h
 have a:=scheme_len h1
 have b:=user_len h2
 have c:=host_len h3
 have d:=port_len (n:=u.port.toNat) (by omega)
 unfold prBase prScheme prPort
 split <;> simp only [List.length_append,List.length_cons,List.length_nil] <;> omega
def printV (u:Uri):Value:=if checkE u=0 then .tuple #[.string (str (printT u)),.int .i64 0] else .tuple #[.string ⟨#[]⟩,.int .i64 (checkE u)]
theorem printV_ok {u:Uri} (h:checkE u=0):printV u=.tuple #[.string (str (printT u)),.int .i64 0]:=if_pos h
theorem printV_no {u:Uri} (h:checkE u≠0):printV u=.tuple #[.string ⟨#[]⟩,.int .i64 (checkE u)]:=if_neg h
def PrintPost (u:Uri) (w:World) (e:Ending) (w':World):Prop:=e=.returned (printV u)/\Below w.heap.size w w'
theorem str_cons (c:UInt8) (l:T):(⟨#[c]⟩:ByteArray)++str l=str (c::l):=by
 rw [show (⟨#[c]⟩:ByteArray)=str [c] from rfl,str_app]
 rfl
theorem str_snoc (c:UInt8) (l:T):str l++(⟨#[c]⟩:ByteArray)=str (l++[c]):=by
 rw [show (⟨#[c]⟩:ByteArray)=str [c] from rfl,str_app]
theorem add_cons (c:UInt8) (l:T) (h:l.length<=100000000) (W:World):(Op.stringOp .add ⟨#[c]⟩ (str l)).run Tryz.prog W=.ok (.string (str (c::l))) W:=by
 rw [add_any _ _ W (by show 1+l.length<=_;omega),str_cons]
theorem add_snoc (c:UInt8) (l:T) (h:l.length<=100000000) (W:World):(Op.stringOp .add (str l) ⟨#[c]⟩).run Tryz.prog W=.ok (.string (str (l++[c]))) W:=by
 rw [add_any _ _ W (by show l.length+1<=_;omega),str_snoc]
theorem add_str (a b:T) (h:a.length+b.length<=100000000) (W:World):(Op.stringOp .add (str a) (str b)).run Tryz.prog W=.ok (.string (str (a++b))) W:=by
 rw [add_any _ _ W (by show a.length+b.length<=_;omega),str_app]
structure Wri (b:Nat) (w2:World) (l:T) (wr:World):Prop where
 bld:Bld b b l wr
 be:Below b w2 wr
 sz:b<=wr.heap.size
theorem Wri.write {b:Nat} {w2:World} {l:T} {wr w':World} {s:T} (h:Wri b w2 l wr) (hb:Bld b b (l++(str s).data.toList) w') (hw:Below b wr w'):Wri b w2 (l++s) w' :=
 ⟨hb,h.be.trans hw,Nat.le_trans h.sz hw.size⟩
theorem Wri.on {b:Nat} {w2:World} {l:T} {wr w':World} (h:Wri b w2 l wr) (hw:Below wr.heap.size wr w'):Wri b w2 l w' :=
 ⟨h.bld.fr hw,h.be.trans (hw.mono h.sz),Nat.le_trans h.sz hw.size⟩
theorem Wri.drew {b:Nat} {w2:World} {l:T} {wr:World} (h:Wri b w2 l wr):Wri b w2 l wr.drew:=⟨h.bld,h.be.drew,h.sz⟩
theorem write_wri {b:Nat} {w2:World} {l s:T} {wr:World} (h:Wri b w2 l wr) (hl:l.length+s.length<=1000000000) :
 Calls Tryz.prog 149 #[.pointer (some ⟨b,0,none⟩),.string (str s)] wr fun e w'=>e=.returned (.tuple #[.int .i64 (s.length:Int),.nilIface])/\Wri b w2 (l++s) w'/\Kept wr w' :=
 (WriteString_any h.bld (s:=str s) hl h.sz).mono fun e w' ⟨he,hb,hw,hk⟩=>⟨he,h.write hb hw,hk⟩
set_option maxRecDepth 100000 in
set_option maxHeartbeats 4000000 in
theorem Print_any {u:Uri} {vp vh:Value} {B:Nat} {w:World} (hB:B<=w.heap.size) (hp:PrmB w B vp u.params) (hh:PrmB w B vh u.headers) (hs:UriS u) :
 Calls Tryz.prog 129 #[uriV u vp vh] w (PrintPost u w):=by
 have HCK:Hid (∀ W:World,B<=W.heap.size->PrmB W B vp u.params->PrmB W B vh u.headers->Calls Tryz.prog 128 #[uriV u vp vh] W (CheckPost u W)):=hid (fun W h1 h2 h3=>Check_any h1 h2 h3 hs)
 have HP0:=hid hp
 have HH0:=hid hh
 obtain ⟨Ap,cp,rfl,hp⟩:=hp
 obtain ⟨Ah,ch,rfl,hh⟩:=hh
 have HP:=hid hp
 have HH:=hid hh
 clear hp hh hs
 unfold uriV at *
 obtain ⟨w0,hw0⟩:∃ w0,w.alloc (.cells #[.string (str u.scheme),.string (str u.user),.string (str u.host),.int .i64 u.port,.slice Ap u.params.length cp,.slice Ah u.headers.length ch] 155)=w0:=⟨_,rfl⟩
 have hk0:Blk w0 w.heap.size 155 #[.string (str u.scheme),.string (str u.user),.string (str u.host),.int .i64 u.port,.slice Ap u.params.length cp,.slice Ah u.headers.length ch]:=hw0▸Blk.new w _ _
 have HB0:Hid (Below w.heap.size w w0):=hid (hw0▸(Below.refl _ _).alloc (Nat.le_refl _) _)
 have hlt0:=hk0.lt
 have HK0:=hid hk0
 have c0:=hk0.cell 0
 have c1:=hk0.cell 1
 have c2:=hk0.cell 2
 have c3:=hk0.cell 3
 have c4:=hk0.cell 4
 have c5:=hk0.cell 5
 clear hk0
 by_cases hc:checkE u=0
 .have HV:=hid (printV_ok hc)
  have HPR:=hid (print_parts u)
  obtain ⟨hc1,hc2,hc3,hc4,hc5,hc6,hc7,hc8⟩:=check_parts hc
  have HL6:=hid (fun j hj=>pars_len hc6 j hj)
  have HL7:=hid (fun j hj=>hdrs_len hc7 j hj)
  have HO6:=hid (list_ok hc6)
  have HO7:=hid (list_ok hc7)
  have hl6:=list_len hc6
  have hl7:=list_len hc7
  have hl1:=scheme_len hc1
  have hl3:=host_len hc3
  have HBL:=hid (base_len hc)
  have ha1:=fun W=>add_snoc 58 u.scheme (by omega) W
  have hesc:=esc_len users u.user
  have ha2:=fun W=>add_snoc 64 (esc users u.user) (by omega) W
  have hpl:=port_len (n:=u.port.toNat) (by omega)
  have ha3:=fun W=>add_cons 58 (digs u.port.toNat) (by omega) W
  have HES:Hid (∀ w,Calls Tryz.prog 150 #[.string (str u.user),.string ⟨#[38,61,43,36,44,59,63,47]⟩] w fun e w'=>e=.returned (.string (str (esc users u.user)))/\Below w.heap.size w w'):=hid (fun w=>Escape_any (str u.user) ⟨#[38,61,43,36,44,59,63,47]⟩ w (by show u.user.length<=_;omega) (by show 8<=_;omega))
  have HDG:Hid (∀ w,Calls Tryz.prog 151 #[.int .i64 u.port] w fun e w'=>e=.returned (.string (str (digs u.port.toNat)))/\Below w.heap.size w w'):=hid (fun w=>by
   have:=Digits_any u.port.toNat w (by omega)
   rw [show ((u.port.toNat:Nat):Int)=u.port by omega] at this
   exact this)
  have HPU:Hid (u.user=[]->prUser u=[]):=hid (fun h=>if_pos h)
  have HPU2:Hid (u.user≠[]->prUser u=esc users u.user++[64]):=hid (fun h=>if_neg h)
  have HPP:Hid (0<u.port->prPort u=58::digs u.port.toNat):=hid (fun h=>if_pos h)
  have HPP2:Hid (u.port<=0->prPort u=[]):=hid (fun h=>if_neg (by omega))
  have hHC:Hid (checkE u=0):=hid hc
  have x1:(u.scheme++[58]).length<=5:=by simp;omega
  have x2:(esc users u.user++[64]).length<=193:=by simp;omega
  have x3:(58::digs u.port.toNat).length<=6:=by simp;omega
  have x4:(prUser u).length<=193:=user_len hc2
  have x5:(prPort u).length<=6:=by unfold prPort;split <;> simp <;> omega
  have hpair:∀ p,parOk p=true->p.name.length<=64/\p.value.length<=64:=fun p h=>by
   unfold parOk at h
   simp only [Bool.and_eq_true,decide_eq_true_eq] at h
   exact ⟨h.1.1.2,h.1.2⟩
  have HPL:=hid hpair
  clear hc1 hc3 hc4 hc6 hc7 hc8 hpl hesc hc hpair
  go_enter Tryz.func129,Tryz.ntmps129
  go_wp2_with fail
  refine (HCK.out w0 (by omega) (HP0.out.below (HB0.out.mono hB)) (HH0.out.below (HB0.out.mono hB))).mono ?_
  rintro e w1 ⟨rfl,hb1⟩
  rw [hHC.out]
  obtain ⟨g,hg⟩:∃ g,w.heap.size=g:=⟨_,rfl⟩
  have HG:=hid hg
  have HB1:Hid (Below g w w1):=hid (by rw [<-hg];exact HB0.out.trans (hb1.mono (by omega)))
  have hk1:Blk w1 g 155 #[.string (str u.scheme),.string (str u.user),.string (str u.host),.int .i64 u.port,.slice Ap u.params.length cp,.slice Ah u.headers.length ch]:=by
   rw [<-hg];exact HK0.out.fr (Fr.of_below (F:=fun _=>False) hb1) (fun h=>h)
  have HW0:Hid (Wri w1.heap.size w1 [] (w1.alloc (.cells #[.pointer none,.slice none 0 0] 214))):=hid ⟨Bld.fresh w1,(Below.refl _ _).alloc (Nat.le_refl _) _,by simp⟩
  have hgb:g<w1.heap.size:=hk1.lt
  have HC:Hid (∀ W,Below w1.heap.size w1 W->W.cell? ⟨g,0,none⟩=some (.string (str u.scheme))/\W.cell? ⟨g,1,none⟩=some (.string (str u.user))/\W.cell? ⟨g,2,none⟩=some (.string (str u.host))/\W.cell? ⟨g,3,none⟩=some (.int .i64 u.port)/\W.cell? ⟨g,4,none⟩=some (.slice Ap u.params.length cp)/\W.cell? ⟨g,5,none⟩=some (.slice Ah u.headers.length ch)):=hid (fun W h=>by
   have hk:=hk1.fr (Fr.of_below (F:=fun _=>False) h) (fun h=>h)
   exact ⟨hk.cell 0,hk.cell 1,hk.cell 2,hk.cell 3,hk.cell 4,hk.cell 5⟩)
  have HP1:=hid (HP.out.below (show Below B w w1 from HB1.out.mono (by omega)))
  have HH1:=hid (HH.out.below (show Below B w w1 from HB1.out.mono (by omega)))
  have hBb:B<=w1.heap.size:=by omega
  have HPO:Hid (∀ W,Below w1.heap.size w1 W->PrintPost u w (.returned (.tuple #[.string (str (printT u)),.int .i64 0])) W):=hid (fun W h=>⟨by rw [HV.out],by rw [HG.out];exact HB1.out.trans (h.mono (by omega))⟩)
  obtain ⟨b,hb⟩:∃ b,w1.heap.size=b:=⟨_,rfl⟩
  rw [hb] at HW0 hgb HC hBb HPO
  clear hk1 c0 c1 c2 c3 c4 c5 hw0 HK0 HCK HP0 HH0 hb1
  have d0:=(HC.out _ HW0.out.be).1
  go_wp2_with fail
  refine (write_wri HW0.out (by simp;omega)).mono ?_
  rintro e w3 ⟨rfl,hw3,hkp⟩
  clear hkp
  have HW3:=hid hw3
  obtain ⟨e0,e1,e2,e3,e4,e5⟩:=HC.out _ hw3.be
  clear hw3 d0
  have HU0:Hid (u.user=[]<->str u.user=⟨#[]⟩):=hid ⟨fun h=>by rw [h];rfl,fun h=>str_inj h⟩
  go_upto_if 21 with (fail)
  go_cut [] (fun wx=>Wri b w1 (prScheme u++prUser u) wx)
  case first =>
   by_cases hu:str u.user=⟨#[]⟩
   .have HX:=hid (HPU.out (HU0.out.2 hu))
    have qe:(str u.user).toList.isEmpty=true:=by rw [hu,Lib.toList_data];rfl
    clear hu
    simp only [qe,Bool.not_true]
    go_wp2_with fail
    go_meet
    exact (by rw [HX.out,List.append_nil];exact HW3.out)
   .have HX:=hid (HPU2.out (fun q=>hu (HU0.out.1 q)))
    have qe:=emp_no hu
    clear hu
    simp only [qe,Bool.not_false]
    go_wp2_with fail
    refine (HES.out w3).mono ?_
    rintro e w4 ⟨rfl,hb4⟩
    have HW4:=hid (HW3.out.on hb4)
    clear hb4 e0 e1 e2 e3 e4 e5
    go_wp2_with fail
    refine (write_wri HW4.out (by simp at *;omega)).mono ?_
    rintro e w5 ⟨rfl,hw5,hkp⟩
    clear hkp
    have HW5:=hid hw5
    clear hw5
    go_wp2_with fail
    go_meet
    exact (by rw [HX.out];exact HW5.out)
  case rest =>
   obtain ⟨w6,hw6⟩:∃ w6,w6=wc:=⟨_,rfl⟩
   subst hw6
   have HW6:=hid hcut
   clear e0 e1 e2 e3 e4 e5 HW3
   obtain ⟨e0,e1,e2,e3,e4,e5⟩:=HC.out _ hcut.be
   clear hcut
   go_wp2_with fail
   refine (write_wri HW6.out (by simp only [prScheme,List.length_append] at *;omega)).mono ?_
   rintro e w7 ⟨rfl,hw7,hkp⟩
   clear hkp
   have HW7:=hid hw7
   clear e0 e1 e2 e3 e4 e5
   obtain ⟨e0,e1,e2,e3,e4,e5⟩:=HC.out _ hw7.be
   clear hw7
   go_upto_if 32 with (fail)
   go_cut [] (fun wx=>Wri b w1 (prBase u) wx)
   case first =>
    by_cases hu:0<u.port
    .have HX:=hid (HPP.out hu)
     go_wp2_with fail
     refine (HDG.out w7).mono ?_
     rintro e w8 ⟨rfl,hb8⟩
     have HW8:=hid (HW7.out.on hb8)
     clear hb8 e0 e1 e2 e3 e4 e5
     go_wp2_with fail
     refine (write_wri HW8.out (by simp only [prScheme,List.length_append] at *;omega)).mono ?_
     rintro e w9 ⟨rfl,hw9,hkp⟩
     clear hkp
     have HW9:=hid hw9
     clear hw9
     go_wp2_with fail
     go_meet
     exact (by unfold prBase;rw [HX.out];exact HW9.out)
    .have HX:=hid (HPP2.out (by omega))
     go_wp2_with fail
     go_meet
     exact (by unfold prBase;rw [HX.out,List.append_nil];exact HW7.out)
   case rest =>
    obtain ⟨w10,hw10⟩:∃ w10,w10=wc:=⟨_,rfl⟩
    subst hw10
    have HW10:=hid hcut
    clear e0 e1 e2 e3 e4 e5 HW7 HW6
    obtain ⟨e0,e1,e2,e3,e4,e5⟩:=HC.out _ hcut.be
    clear hcut
    go_wp2_with fail
    go_loopw [41] (fun i wr=>∃ j:Nat,j<=u.params.length/\i=.int .i64 j/\Wri b w1 (prBase u++prPars u.params j) wr) (fun i _=>u.params.length-(intOf i).toNat)
    case atStart=>exact ⟨0,by omega,rfl,by rw [show prPars u.params 0=[] from rfl,List.append_nil];exact HW10.out⟩
    case round =>
     obtain ⟨j,hj,rfl,hW⟩:=hrel
     have HW:=hid hW
     have hbe:=hW.be
     have hszb:=hW.sz
     by_cases hlt:j<u.params.length
     .have x0:(0:Int)<=j:=by omega
      have x1':(j:Int)<u.params.length:=by omega
      obtain ⟨gb,off,rfl,hgb,zc0,zc1,zc2⟩:=PrmB.at_ (HP1.out.below (hbe.mono hBb)) hlt
      have hok:=HO6.out _ (List.getElem_mem hlt)
      have hpn:=HPL.out _ hok
      have hpl:=pair_len params hok
      have hjl:=HL6.out j (by omega)
      have hbl:=HBL.out
      have HST:=hid (pars_step hlt)
      have hadd:=fun W=>add_cons 59 (pairT params u.params[j]) (by omega) W
      have HAL:Hid (∀ o,Wri b w1 (prBase u++prPars u.params j) (wr.alloc o)):=hid (fun o=>HW.out.on ((Below.refl _ _).alloc (Nat.le_refl _) o))
      have HPA:Hid (∀ W,Calls Tryz.prog 152 #[.agg #[.string (str u.params[j].name),.string (str u.params[j].value),.bool u.params[j].has],.string ⟨#[91,93,47,58,38,43,36]⟩] W (PairPost u.params[j] params W)):=hid (fun W=>pair_any (keep:=params) (by omega) (by omega) (by show 7<=_;omega))
      clear hW hbe
      go_wp2_with fail
      refine (HPA.out _).mono ?_
      rintro e wa ⟨rfl,hba⟩
      have HWa:=hid ((HAL.out _).on hba)
      clear hba
      go_wp2_with fail
      refine (write_wri HWa.out (by simp only [List.length_append,List.length_cons] at *;omega)).mono ?_
      rintro e wb ⟨rfl,hwb,hkp⟩
      clear hkp
      have HWb:Hid (Wri b w1 (prBase u++prPars u.params (j+1)) wb):=hid (by rw [HST.out,<-List.append_assoc];exact hwb)
      clear hwb
      go_wp2
      go_roundw
      case rel=>exact ⟨j+1,by omega,by go_num,HWb.out⟩
      case measure=>simp [intOf] <;> omega
     .have x1':¬(j:Int)<u.params.length:=by omega
      have hjj:j=u.params.length:=by omega
      have HWE:Hid (Wri b w1 (prBase u++prPars u.params u.params.length) wr):=hid (by rw [<-hjj];exact hW)
      have HTL:=hid (HL6.out u.params.length (Nat.le_refl _))
      clear e0 e1 e2 e3 e4 e5 hjj HW
      obtain ⟨e0,e1,e2,e3,e4,e5⟩:=HC.out _ hbe
      clear hW hbe
      go_wp2_with fail
      obtain ⟨wp,hwp⟩:∃ wp,wp=wr:=⟨_,rfl⟩
      have HWE:Hid (Wri b w1 (prBase u++prPars u.params u.params.length) wp):=by rw [hwp];exact HWE
      clear e0 e1 e2 e3 e4 e5 hszb hj hlt x1'
      go_loopw [53] (fun i wr=>∃ k:Nat,k<=u.headers.length/\i=.int .i64 k/\Wri b w1 (prBase u++prPars u.params u.params.length++prHdrs u.headers k) wr) (fun i _=>u.headers.length-(intOf i).toNat)
      case atStart=>exact ⟨0,by omega,rfl,by rw [show prHdrs u.headers 0=[] from rfl,List.append_nil,<-hwp];exact HWE.out⟩
      case round =>
       obtain ⟨k,hk,rfl,hW⟩:=hrel
       have HW:=hid hW
       have hbe:=hW.be
       have hszb:=hW.sz
       by_cases hkt:k<u.headers.length
       .have x0:(0:Int)<=k:=by omega
        have x1'':(k:Int)<u.headers.length:=by omega
        obtain ⟨gb,off,rfl,hgb,zc0,zc1,zc2⟩:=PrmB.at_ (HH1.out.below (hbe.mono hBb)) hkt
        have hok:=HO7.out _ (List.getElem_mem hkt)
        have hpn:=HPL.out _ hok
        have hpl:=pair_len headers hok
        have hkl:=HL7.out k (by omega)
        have htl:=HTL.out
        have hbl:=HBL.out
        have HST:=hid (hdrs_step hkt)
        have HAL:Hid (∀ o,Wri b w1 (prBase u++prPars u.params u.params.length++prHdrs u.headers k) (wr.alloc o)):=hid (fun o=>HW.out.on ((Below.refl _ _).alloc (Nat.le_refl _) o))
        have HPA:Hid (∀ W,Calls Tryz.prog 152 #[.agg #[.string (str u.headers[k].name),.string (str u.headers[k].value),.bool u.headers[k].has],.string ⟨#[91,93,47,63,58,43,36]⟩] W (PairPost u.headers[k] headers W)):=hid (fun W=>pair_any (keep:=headers) (by omega) (by omega) (by show 7<=_;omega))
        clear hW hbe
        go_wp2_with fail
        obtain ⟨wm,hwm⟩:∃ wm,wr.alloc (.cells #[.string (str u.headers[k].name),.string (str u.headers[k].value),.bool u.headers[k].has] 207)=wm:=⟨_,rfl⟩
        have HWm:Hid (Wri b w1 (prBase u++prPars u.params u.params.length++prHdrs u.headers k) wm):=hid (hwm▸HAL.out _)
        have hbk0:Blk wm wr.heap.size 207 #[.string (str u.headers[k].name),.string (str u.headers[k].value),.bool u.headers[k].has]:=hwm▸Blk.new wr _ _
        have HSS:Hid (∀ W,Below wm.heap.size wm W->W.cell? ⟨wr.heap.size,0,none⟩=some (.string (str u.headers[k].name))/\W.cell? ⟨wr.heap.size,1,none⟩=some (.string (str u.headers[k].value))/\W.cell? ⟨wr.heap.size,2,none⟩=some (.bool u.headers[k].has)):=hid (fun W h=>by
         have hbk:=hbk0.fr (Fr.of_below (F:=fun _=>False) h) (fun h=>h)
         exact ⟨hbk.cell 0,hbk.cell 1,hbk.cell 2⟩)
        have HSK:Hid (∀ W W2,Below wm.heap.size wm W->Kept W W2->W2.cell? ⟨wr.heap.size,0,none⟩=some (.string (str u.headers[k].name))/\W2.cell? ⟨wr.heap.size,1,none⟩=some (.string (str u.headers[k].value))/\W2.cell? ⟨wr.heap.size,2,none⟩=some (.bool u.headers[k].has)):=hid (fun W W2 h h2=>by
         have hbk:=h2 _ _ _ (by decide) (by decide) (hbk0.fr (Fr.of_below (F:=fun _=>False) h) (fun h=>h))
         exact ⟨hbk.cell 0,hbk.cell 1,hbk.cell 2⟩)
        have hmn:(k=0/\min (k:Int) 1=0)\/(k≠0/\min (k:Int) 1=1):=by omega
        rw [hwm]
        clear hwm hbk0
        have hlen2:∀ c:UInt8,(c::pairT headers u.headers[k]).length<=401:=fun c=>by simp only [List.length_cons];omega
        have hlen3:(prBase u++prPars u.params u.params.length++prHdrs u.headers k).length<=17000:=by simp only [List.length_append];omega
        rcases hmn with ⟨hk0,hmn⟩|⟨hk0,hmn⟩
        .rw [if_pos hk0] at HST
         have hadd:∀ W:World,(Op.stringOp .add (((⟨#[63,38]⟩:ByteArray).extract 0 2).extract 0 1) (str (pairT headers u.headers[k]))).run Tryz.prog W=.ok (.string (str (63::pairT headers u.headers[k]))) W:=fun W=>by
          rw [show ((⟨#[63,38]⟩:ByteArray).extract 0 2).extract 0 1=⟨#[63]⟩ by decide]
          exact add_cons 63 _ (by omega) W
         clear hk0
         go_region_held3 (fun w'=>w'.cell? ⟨wr.heap.size,0,none⟩=some (.string (str u.headers[k].name))/\w'.cell? ⟨wr.heap.size,1,none⟩=some (.string (str u.headers[k].value))/\w'.cell? ⟨wr.heap.size,2,none⟩=some (.bool u.headers[k].has))
          (first|exact HSS.out _ (Below.refl _ _)|exact HSS.out _ (Below.refl _ _).drew|exact HSS.out _ ((Below.refl _ _).drew.trans hba)|exact HSK.out _ _ ((Below.refl _ _).drew.trans hba) hkp)
          (first|(go_at_call 152;(with_reducible refine (HPA.out _).mono ?_);rintro e wa ⟨rfl,hba⟩;have HWa:=hid (HWm.out.drew.on hba))|(go_at_call 149;(with_reducible refine (write_wri HWa.out (by have:=hlen2 63;omega)).mono ?_);rintro e wb ⟨rfl,hwb,hkp⟩))
         all_goals
          have HWb:Hid (Wri b w1 (prBase u++prPars u.params u.params.length++prHdrs u.headers (k+1)) wb):=hid (by rw [HST.out,<-List.append_assoc];exact hwb)
          clear hwb hkp
          go_wp2
          go_roundw
          case rel=>exact ⟨k+1,by omega,by go_num,HWb.out⟩
          case measure=>simp [intOf] <;> omega
        .rw [if_neg hk0] at HST
         have hadd:∀ W:World,(Op.stringOp .add (((⟨#[63,38]⟩:ByteArray).extract 1 2).extract 0 1) (str (pairT headers u.headers[k]))).run Tryz.prog W=.ok (.string (str (38::pairT headers u.headers[k]))) W:=fun W=>by
          rw [show ((⟨#[63,38]⟩:ByteArray).extract 1 2).extract 0 1=⟨#[38]⟩ by decide]
          exact add_cons 38 _ (by omega) W
         clear hk0
         go_region_held3 (fun w'=>w'.cell? ⟨wr.heap.size,0,none⟩=some (.string (str u.headers[k].name))/\w'.cell? ⟨wr.heap.size,1,none⟩=some (.string (str u.headers[k].value))/\w'.cell? ⟨wr.heap.size,2,none⟩=some (.bool u.headers[k].has))
          (first|exact HSS.out _ (Below.refl _ _)|exact HSS.out _ (Below.refl _ _).drew|exact HSS.out _ ((Below.refl _ _).drew.trans hba)|exact HSK.out _ _ ((Below.refl _ _).drew.trans hba) hkp)
          (first|(go_at_call 152;(with_reducible refine (HPA.out _).mono ?_);rintro e wa ⟨rfl,hba⟩;have HWa:=hid (HWm.out.drew.on hba))|(go_at_call 149;(with_reducible refine (write_wri HWa.out (by have:=hlen2 38;omega)).mono ?_);rintro e wb ⟨rfl,hwb,hkp⟩))
         all_goals
          have HWb:Hid (Wri b w1 (prBase u++prPars u.params u.params.length++prHdrs u.headers (k+1)) wb):=hid (by rw [HST.out,<-List.append_assoc];exact hwb)
          clear hwb hkp
          go_wp2
          go_roundw
          case rel=>exact ⟨k+1,by omega,by go_num,HWb.out⟩
          case measure=>simp [intOf] <;> omega
       .have x1'':¬(k:Int)<u.headers.length:=by omega
        have hkk:k=u.headers.length:=by omega
        have HWF:Hid (Wri b w1 (printT u) wr):=hid (by rw [HPR.out,<-hkk];exact hW)
        clear hW hkk HW
        go_wp2_with fail
        refine (Tryz.Builder_String_any b b (printT u) wr HWF.out.bld hszb).mono ?_
        rintro e wz ⟨rfl,hbz⟩
        have HZ:=hid (HPO.out wz (hbe.trans hbz))
        clear hbe hbz
        go_wp2
        go_ret2
        exact HZ.out
 .have HV:=hid (printV_no hc)
  have hcb:(checkE u != 0)=true:=by simpa using hc
  have HG0:Hid (w.heap.size<=w0.heap.size):=hid (by omega)
  go_enter Tryz.func129,Tryz.ntmps129
  go_wp2_with fail
  refine (HCK.out w0 (by omega) (HP0.out.below (HB0.out.mono hB)) (HH0.out.below (HB0.out.mono hB))).mono ?_
  rintro e w1 ⟨rfl,hb1⟩
  have HBF:=hid (HB0.out.trans (hb1.mono HG0.out))
  clear hb1
  go_wp2
  go_ret2
  exact ⟨by rw [HV.out];rfl,HBF.out⟩
end Go.Proofs.YthfmekdbcoaolaaGreatDoor
