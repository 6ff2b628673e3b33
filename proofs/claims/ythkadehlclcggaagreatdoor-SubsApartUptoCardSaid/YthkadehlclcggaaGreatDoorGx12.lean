/- The reference's timers in a plain list: plain laws. The wheel as an object: When, Next, Stop. The wheel as an object: Set. The wheel as an object: Due. The reference's wheel: When, Ahead, Same. The laws of the wheel: awake, filled. -/
import Derived.Test.YthkadehlclcggaaGreatDoorGx11
import Derived.Deep.LoopGhost
import Derived.Test.YthkadehlclcggaaGreatDoorGx02
import Derived.Test.YthkadehlclcggaaGreatDoorGx14
namespace Go.Proofs.YthkadehlclcggaaGreatDoor
set_option linter.unusedSimpArgs false
set_option linter.unusedVariables false
open Go.Lib (hid)
def rStop (l:List TM) (id:Int):List TM:=l.filter fun t=>decide (t.2≠id)
def rIns (t:TM):List TM->List TM
 | []=>[t]
 | s::r=>if ah s t then s::rIns t r else t::s::r
def rSetE (l:List TM) (id at_:Int):Int:=if id<0\/at_<0\/1099511627776<at_ then 1 else if (rStop l id).length=l.length/\4096<=l.length then 5 else 0
def rSetL (l:List TM) (id at_:Int):List TM:=if rSetE l id at_=0 then rIns (at_,id) (rStop l id) else l
def rDueA (l:List TM) (now:Int):List TM:=l.takeWhile fun t=>decide (t.1<=now)
def rDueB (l:List TM) (now:Int):List TM:=l.dropWhile fun t=>decide (t.1<=now)
def rTop (l:List TM):TM:=l.headD (0,0)
theorem ins_perm (t:TM):∀ l:List TM,(rIns t l).Perm (t::l)
 | []=>List.Perm.refl _
 | s::r=>by
   unfold rIns
   split
   .exact ((ins_perm t r).cons s).trans (List.Perm.swap _ _ _)
   .exact List.Perm.refl _
theorem ah_total {a b:TM} (h:a.2≠b.2) (h':¬ah a b):ah b a:=by unfold ah at *;omega
theorem ah_trans {a b c:TM} (h:ah a b) (h':ah b c):ah a c:=by unfold ah at *;omega
theorem ins_sorted (t:TM):∀ l:List TM,l.Pairwise ah->(∀ s∈l,s.2≠t.2)->(rIns t l).Pairwise ah
 | [],_,_=>by simp [rIns]
 | s::r,h,hn=>by
   rw [List.pairwise_cons] at h
   unfold rIns
   split
   .rename_i hs
    refine List.pairwise_cons.2 ⟨fun u hu=>?_,ins_sorted t r h.2 fun u hu=>hn u (by simp [hu])⟩
    rcases List.mem_cons.1 ((ins_perm t r).mem_iff.1 hu) with rfl|hu
    .exact hs
    .exact h.1 u hu
   .rename_i hs
    have hts:ah t s:=ah_total (hn s (by simp)) hs
    refine List.pairwise_cons.2 ⟨fun u hu=>?_,List.pairwise_cons.2 h⟩
    rcases List.mem_cons.1 hu with rfl|hu
    .exact hts
    .exact ah_trans hts (h.1 u hu)
theorem stop_none {l:List TM} {id:Int} (h:id∉l.map (·.2)):rStop l id=l:=by
 unfold rStop
 rw [List.filter_eq_self]
 intro t ht
 exact decide_eq_true fun e=>h (List.mem_map.2 ⟨t,ht,e⟩)
theorem stop_perm:∀ {l:List TM} {t:TM},(l.map (·.2)).Nodup->t∈l->(t::rStop l t.2).Perm l
 | [],_,_,h=>by cases h
 | s::r,t,hn,h=>by
   rw [List.map_cons,List.nodup_cons] at hn
   unfold rStop
   rcases List.mem_cons.1 h with e|e
   .subst e
    rw [List.filter_cons_of_neg (by simp)]
    have:=stop_none hn.1
    unfold rStop at this
    rw [this]
   .have hne:s.2≠t.2:=fun q=>hn.1 (q▸List.mem_map.2 ⟨t,e,rfl⟩)
    rw [List.filter_cons_of_pos (by simpa using hne)]
    exact (List.Perm.swap _ _ _).trans ((stop_perm hn.2 e).cons s)
theorem stop_sub (l:List TM) (id:Int):(rStop l id).Sublist l:=List.filter_sublist
theorem stop_sorted {l:List TM} (h:l.Pairwise ah) (id:Int):(rStop l id).Pairwise ah:=h.sublist (stop_sub l id)
theorem stop_nodup {l:List TM} (h:(l.map (·.2)).Nodup) (id:Int):((rStop l id).map (·.2)).Nodup:=h.sublist ((stop_sub l id).map _)
theorem stop_ne {l:List TM} {id:Int}:∀ s∈rStop l id,s.2≠id:=fun s hs=>by
 unfold rStop at hs
 rw [List.mem_filter] at hs
 simpa using hs.2
theorem ins_nodup {l:List TM} {id a:Int} (h:(l.map (·.2)).Nodup):((rIns (a,id) (rStop l id)).map (·.2)).Nodup:=by
 have:=((ins_perm (a,id) (rStop l id)).map (·.2)).nodup_iff
 rw [this,List.map_cons,List.nodup_cons]
 refine ⟨fun hm=>?_,stop_nodup h id⟩
 obtain ⟨t,ht,e⟩:=List.mem_map.1 hm
 exact stop_ne t ht e
theorem ins_len (t:TM) (l:List TM):(rIns t l).length=l.length+1:=by have:=(ins_perm t l).length_eq;simpa using this
theorem stop_len_in {l:List TM} {t:TM} (hn:(l.map (·.2)).Nodup) (h:t∈l):(rStop l t.2).length+1=l.length:=by have:=(stop_perm hn h).length_eq;simpa using this
theorem stop_head {t:TM} {r:List TM} (hn:((t::r).map (·.2)).Nodup):rStop (t::r) t.2=r:=by
 rw [List.map_cons,List.nodup_cons] at hn
 unfold rStop
 rw [List.filter_cons_of_neg (by simp)]
 exact stop_none hn.1
theorem set_perm {α:Type}:∀ (l:List α) (i:Nat) (a:α),i<l.length->(l.set i a).Perm (a::l.eraseIdx i)
 | [],_,_,h=>by simp at h
 | x::r,0,a,_=>by simp
 | x::r,i+1,a,h=>by
   simp only [List.set_cons_succ,List.eraseIdx_cons_succ]
   exact ((set_perm r i a (by simpa using h)).cons x).trans (List.Perm.swap _ _ _)
theorem at_perm {α:Type}:∀ (l:List α) (i:Nat) (a:α),l[i]?=some a->l.Perm (a::l.eraseIdx i)
 | [],_,_,h=>by simp at h
 | x::r,0,a,h=>by simp at h;subst h;simp
 | x::r,i+1,a,h=>by
   simp only [List.eraseIdx_cons_succ]
   exact ((at_perm r i a (by simpa using h)).cons x).trans (List.Perm.swap _ _ _)
theorem top_of {l:List TM} {t:TM} (hs:l.Pairwise ah) (hm:t∈l) (hl:∀ s∈l,¬ah s t):∃ r,l=t::r:=by
 cases l with
 | nil=>cases hm
 | cons s r =>
   rw [List.pairwise_cons] at hs
   rcases List.mem_cons.1 hm with e|e
   .exact ⟨r,by rw [e]⟩
   .exact absurd (hs.1 t e) (hl s (by simp))
end Go.Proofs.YthkadehlclcggaaGreatDoor
namespace Go.Proofs.YthkadehlclcggaaGreatDoor
set_option linter.unusedSimpArgs false
set_option linter.unusedVariables false
open Go.RowKit
open Go.Lib (hid)
def NextPost (l:List TM) (w:World) (e:Ending) (w':World):Prop :=
 e=.returned (.tuple #[.agg #[.int .i64 (rTop l).1,.int .i64 (rTop l).2],.bool (!l.isEmpty)])/\Below w.heap.size w w'
set_option maxHeartbeats 400000 in
theorem next_any {w:World} {p:Nat} {l:List TM} {F:Nat->Prop} (H:Wh w p l F) :
 Calls Tryz.prog 89 #[.pointer (some ⟨p,0,none⟩)] w (NextPost l w):=by
 obtain ⟨bm,hv,xs,kvs,H⟩:=H
 have hlen:=H.len
 have hp:=H.hp.top.lt
 cases l with
 | nil =>
   obtain ⟨A,cap,e⟩:=H.hp.form0
   rw [hlen] at e
   subst e
   have hm:=hid (made_any (H.hp.top.alloc (.cells #[.int .i64 0,.int .i64 0] 111)))
   have hc:=(H.hp.top.alloc (.cells #[.int .i64 0,.int .i64 0] 111)).cell 0
   clear H hlen
   go_enter Tryz.func89,Tryz.ntmps89
   go_wp2_with fail
   refine (hm.out).mono ?_
   rintro e w' ⟨rfl,rfl⟩
   go_wp2
   exact bodyPost_ret (v:=.tuple #[.agg #[.int .i64 0,.int .i64 0],.bool false]) (by simp [results,Tryz.results89,go_sem]) rfl
    ⟨rfl,by repeat (first|exact Below.refl _ _|refine Below.setCell ?_ (by simp) _|refine Below.alloc ?_ (by simp) _)⟩
 | cons t r =>
   have hx0:0<xs.length:=by rw [hlen];simp
   have hi0:=H.hp.it hx0
   obtain ⟨r',hr⟩:=top_of H.so (H.get_l (i:=0) (x:=g xs 0) (by rw [g_at hx0];exact List.getElem?_eq_getElem hx0)) (fun s hs=>by
    obtain ⟨y,hy,rfl⟩:=List.mem_map.1 (H.lp.mem_iff.1 hs)
    obtain ⟨j,hj⟩:=List.getElem?_of_mem hy
    have hjl:=(List.getElem?_eq_some_iff.1 hj).1
    have e:g xs j=y:=by rw [g_at hjl];exact (List.getElem?_eq_some_iff.1 hj).2
    have:=heap_top H.hh j hjl
    rw [e] at this
    exact this)
   obtain ⟨rfl,rfl⟩:t=(g xs 0).2/\r=r':=by injection hr with h1 h2;exact ⟨h1,h2⟩
   obtain ⟨gb,cap,e,hcap,hle⟩:=H.hp.form hx0
   have hrc:=H.hp.rowcell e hx0
   have hgl:=(H.hp.row.lt gb (by rw [e];rfl)).2
   have hc:=(H.hp.top.alloc (.cells #[.int .i64 0,.int .i64 0] 111)).cell 0
   have hrc':(w.alloc (.cells #[.int .i64 0,.int .i64 0] 111)).cell? ⟨gb,0,none⟩=some (.pointer (some ⟨(g xs 0).1,0,none⟩)):=by rw [World.cell?_alloc_lt _ _ _ hgl];exact hrc
   have hc0:=(hi0.alloc (.cells #[.int .i64 0,.int .i64 0] 111)).cell 0
   have hc1:=(hi0.alloc (.cells #[.int .i64 0,.int .i64 0] 111)).cell 1
   have hm:=hid (made_any (H.hp.top.alloc (.cells #[.int .i64 0,.int .i64 0] 111)))
   have hne:((xs.length:Int) == 0)=false:=by rw [beq_eq_false_iff_ne];omega
   have hxi:(0:Int)<xs.length:=by omega
   subst e
   clear H hlen hr hi0 hrc hcap hle
   generalize ha:(g xs 0).2.1=a at *
   have HA:=hid ha
   generalize hd:(g xs 0).2.2=d at *
   have HD:=hid hd
   clear ha hd
   generalize xs.length=n at *
   go_enter Tryz.func89,Tryz.ntmps89
   go_wp2_with fail
   refine (hm.out).mono ?_
   rintro e w' ⟨rfl,rfl⟩
   go_wp2
   exact bodyPost_ret (v:=.tuple #[.agg #[.int .i64 a,.int .i64 d],.bool true]) (by simp [results,Tryz.results89,go_sem]) rfl
    ⟨by show _=Ending.returned (.tuple #[.agg #[.int .i64 (g xs 0).2.1,.int .i64 (g xs 0).2.2],.bool true]);rw [HA.out,HD.out],by repeat (first|exact Below.refl _ _|refine Below.setCell ?_ (by simp) _|refine Below.alloc ?_ (by simp) _)⟩
def StopPost (p:Nat) (l:List TM) (id:Int) (F:Nat->Prop) (w:World) (e:Ending) (w':World):Prop :=
 e=.returned (.bool (decide (id∈l.map (·.2))))/\∃ F',Wh w' p (rStop l id) F'/\Fr F w w'/\∀ k,F' k->F k
theorem stop_end {w w1 w2:World} {p bm:Nat} {l:List TM} {F:Nat->Prop} {hv hv':Value} {xs ys:List X} {kvs:List (Int × Value)} {i:Nat} {x:X}
 (H:WhI w p l F bm hv xs kvs) (hx:xs[i]?=some x) (hg:mget x.2.2 kvs=some (ptr x.1)) (ho:hv'.ownBlock=hv.ownBlock) (hp:(ys++[g xs i]).Perm xs) (hh:heap ys ys.length) (H1:Hp w1 p bm hv' ys) (hf:Fr (fun k=>k=p\/Foot hv xs k) w w1)
 (hm:MapIs w2 bm intKey (mdel x.2.2 kvs)) (hf2:Fr (fun k=>k=bm) w1 w2):∃ F',Wh w2 p (rStop l x.2.2) F'/\Fr F w w2/\∀ k,F' k->F k:=by
 have hgx:g xs i=x:=by have:=List.getElem?_eq_some_iff.1 hx;rw [g_at this.1];exact this.2
 rw [hgx] at hp
 have hsub:∀ k,Foot hv' ys k->Foot hv xs k:=fun k hk=>by
  rcases hk with hk|hk
  .exact .inl (ho▸hk)
  .exact .inr (((hp.map (·.1)).mem_iff).1 (by rw [List.map_append];exact List.mem_append_left _ hk))
 have hxl:=H.get_l hx
 have hp':xs.Perm (x::ys):=hp.symm.trans (List.perm_append_comm)
 refine ⟨WF p bm hv' ys,⟨bm,hv',ys,mdel x.2.2 kvs,⟨H1.fr hf2 (fun e=>H.bmp e.symm) (fun k hk e=>H.bmf (e▸hsub k hk)),hh,hm,?_,?_,stop_nodup H.nd _,stop_sorted H.so _,?_,fun k=>Iff.rfl⟩⟩,?_,?_⟩
 .have h1:=(mdel_perm hg).trans (H.kp.trans (hp'.map fun x=>(x.2.2,ptr x.1)))
  exact List.Perm.cons_inv h1
 .have h1:=(stop_perm H.nd hxl).trans (H.lp.trans (hp'.map (·.2)))
  exact List.Perm.cons_inv h1
 .have:=stop_len_in H.nd hxl;have:=H.le;omega
 .exact (hf.mono fun k _ q=>(H.ff k).2 (q.elim (fun e=>.inl e) fun e=>.inr (.inr e))).trans hf2 fun k _ e=>(H.ff k).2 (.inr (.inl e))
 .intro k hk
  rcases hk with e|e|e
  .exact (H.ff k).2 (.inl e)
  .exact (H.ff k).2 (.inr (.inl e))
  .exact (H.ff k).2 (.inr (.inr (hsub k e)))
set_option maxRecDepth 100000 in
set_option maxHeartbeats 1000000 in
theorem stop_any {w:World} {p:Nat} {l:List TM} {F:Nat->Prop} (H:Wh w p l F) (id:Int) :
 Calls Tryz.prog 49 #[.pointer (some ⟨p,0,none⟩),.int .i64 id] w (StopPost p l id F w):=by
 obtain ⟨bm,hv,xs,kvs,H⟩:=H
 have hc:=H.hp.top.cell 1
 have hlk:=H.mp.lookup (T:=165) (E:=161) (intLaw Tryz.underlying3) Tryz.underlying165 (zitem w) id true
 have hm:=hid (made_any H.hp.top)
 rcases H.get id with ⟨hg,hn⟩|⟨i,x,hx,rfl,hg⟩
 .have hlk':(Instr.lookup 165 (.map (some bm)) (.int .i64 id) true).run Tryz.prog w=.ok (.tuple #[.pointer none,.bool false]) w:=by rw [hg] at hlk;exact hlk
  have HP:Hid (StopPost p l id F w (.returned (.bool false)) w):=hid ⟨by simp [hn],F,by rw [stop_none hn];exact ⟨bm,hv,xs,kvs,H⟩,Fr.refl _ _,fun _ h=>h⟩
  clear hlk hg hn H
  go_enter Tryz.func49,Tryz.ntmps49
  go_wp2_with fail
  refine (hm.out).mono ?_
  rintro e w' ⟨rfl,rfl⟩
  go_wp2
  go_ret
  exact HP.out
 .have hlk':(Instr.lookup 165 (.map (some bm)) (.int .i64 x.2.2) true).run Tryz.prog w=.ok (.tuple #[.pointer (some ⟨x.1,0,none⟩),.bool true]) w:=by rw [hg] at hlk;exact hlk
  have hxi:i<xs.length:=(List.getElem?_eq_some_iff.1 hx).1
  have hci:=(H.hp.its i x hx).cell 2
  have hmax:xs.length<=50000:=by have:=H.len;have:=H.le;omega
  obtain ⟨n,hn⟩:∃ n,xs.length=n+1:=⟨xs.length-1,by omega⟩
  have HR:=hid (hrem_any p bm i n hv xs w.drew (H.drewN 1).hp hn (by omega) hmax H.hh)
  have HM:=hid H
  have HX:=hid hx
  have HG:=hid hg
  have HN:=hid hn
  clear hlk hg H hx hn hmax
  go_enter Tryz.func49,Tryz.ntmps49
  go_wp2_with fail
  refine (hm.out).mono ?_
  rintro e w' ⟨rfl,rfl⟩
  go_wp2_with fail
  go_still_tail 8,(by kernel_rfl)
  go_wp2_with fail
  refine (HR.out).mono ?_
  rintro e w1 ⟨rfl,hv',ys,ho,hp,hh,H1,hf⟩
  have hc1:=H1.top.cell 1
  have hyl:ys.length=n:=by have h1:=hp.length_eq;have h2:=HN.out;simp at h1;omega
  rw [<-hyl] at hh
  have hfw:Fr (fun k=>k=p\/Foot hv xs k) w w1:=⟨hf.os,hf.tape,hf.output,hf.size,hf.block⟩
  obtain ⟨w2,hdel,hm2,hf2⟩:=(HM.out.mp.fr hfw (fun e=>e.elim HM.out.bmp HM.out.bmf)).delete (intLaw Tryz.underlying3) Tryz.underlying165 x.2.2 3 0
  have hdel':(Builtin.delete_ #[165,3] 0 #[.map (some bm),.int .i64 x.2.2]).run Tryz.prog w1=.ok (.tuple #[]) w2:=hdel
  have HE:=hid (stop_end HM.out HX.out HG.out ho hp hh H1 hfw hm2 hf2)
  have HT:=hid (show decide (x.2.2∈l.map (·.2))=true from decide_eq_true (List.mem_map.2 ⟨_,HM.out.get_l HX.out,rfl⟩))
  clear hdel hyl ho hp hh H1 hf hfw hm2 hf2
  go_wp2
  go_ret
  exact ⟨ret_bool HT.out.symm,HE.out⟩
def SetPost (p:Nat) (l:List TM) (id at_:Int) (F:Nat->Prop) (w:World) (e:Ending) (w':World):Prop :=
 e=.returned (.int .i64 (rSetE l id at_))/\∃ F',Wh w' p (rSetL l id at_) F'/\Fr F w w'/\Ext F F' w
theorem g_set {xs:List X} {i:Nat} (y:X) {k:Nat} (hki:k≠i):g (xs.set i y) k=g xs k:=by
 simp only [g,List.getD_eq_getElem?_getD,List.getElem?_set,if_neg (Ne.symm hki)]
theorem hp_change {w:World} {p bm:Nat} {hv:Value} {xs:List X} {i:Nat} {x:X} (H:Hp w p bm hv xs) (hx:xs[i]?=some x) (at_:Int) :
 Hp (w.setCell ⟨x.1,0,none⟩ (.int .i64 at_)) p bm hv (xs.set i (x.1,at_,x.2.2)):=by
 have hb:=H.its i x hx
 have hi:i<xs.length:=(List.getElem?_eq_some_iff.1 hx).1
 have hmap:(xs.set i (x.1,at_,x.2.2)).map (·.1)=xs.map (·.1):=by
  rw [List.map_set]
  apply List.ext_getElem?
  intro k
  rw [List.getElem?_set]
  by_cases hk:i=k
  .subst hk
   rw [if_pos rfl,List.getElem?_map,hx]
   simp [hi]
  .rw [if_neg hk]
 have hfr:Fr (fun k=>k=x.1) w (w.setCell ⟨x.1,0,none⟩ (.int .i64 at_)):=(Fr.refl (fun k=>k=x.1) w).set (p:=⟨x.1,0,none⟩) (fun _=>rfl) _
 refine ⟨H.top.far (p:=⟨x.1,0,none⟩) (H.top.ne_ hb (by decide)) _,?_,fun k y hy=>?_,by rw [hmap];exact H.nd⟩
 .have:=own_fr H.row hfr (fun k hk e=>by subst e;exact own_blk_ne H.row hb (by decide) hk)
  rw [List.length_set]
  have e:(xs.set i (x.1,at_,x.2.2)).map (fun x=>ptr x.1)=xs.map (fun x=>ptr x.1):=by
   have:=congrArg (List.map ptr) hmap
   simpa [List.map_map,Function.comp_def] using this
  rw [e];exact this
 .rw [List.getElem?_set] at hy
  by_cases hk:i=k
  .subst hk
   rw [if_pos rfl,if_pos hi] at hy
   injection hy with hy
   subst hy
   exact hb.set_ 0 _
  .rw [if_neg hk] at hy
   have hne:y.1≠x.1:=by
    have h1:=H.ne (i:=k) (j:=i) (List.getElem?_eq_some_iff.1 hy).1 hi (Ne.symm hk)
    rw [g_at (List.getElem?_eq_some_iff.1 hy).1,g_at hi,(List.getElem?_eq_some_iff.1 hy).2,(List.getElem?_eq_some_iff.1 hx).2] at h1
    exact h1
   exact (H.its k y hy).far (p:=⟨x.1,0,none⟩) hne _
theorem setE_in {l:List TM} {id at_:Int} (hn:(l.map (·.2)).Nodup) (h:id∈l.map (·.2)) (h0:0<=id) (h1:0<=at_) (h2:at_<=1099511627776):rSetE l id at_=0:=by
 obtain ⟨t,ht,rfl⟩:=List.mem_map.1 h
 have:=stop_len_in hn ht
 unfold rSetE
 rw [if_neg (by omega),if_neg (by omega)]
theorem setE_new {l:List TM} {id at_:Int} (h:id∉l.map (·.2)) (h0:0<=id) (h1:0<=at_) (h2:at_<=1099511627776) (hl:l.length<4096):rSetE l id at_=0:=by
 unfold rSetE
 rw [if_neg (by omega),if_neg (by omega)]
theorem setE_full {l:List TM} {id at_:Int} (h:id∉l.map (·.2)) (h0:0<=id) (h1:0<=at_) (h2:at_<=1099511627776) (hl:4096<=l.length):rSetE l id at_=5:=by
 unfold rSetE
 rw [if_neg (by omega),if_pos ⟨by rw [stop_none h],hl⟩]
theorem setE_arg {l:List TM} {id at_:Int} (h:id<0\/at_<0\/1099511627776<at_):rSetE l id at_=1:=by unfold rSetE;rw [if_pos h]
theorem setPost_same {w:World} {p:Nat} {l:List TM} {id at_ n:Int} {F:Nat->Prop} (H:Wh w p l F) (h:rSetE l id at_=n) (hn:n≠0):SetPost p l id at_ F w (.returned (.int .i64 n)) w:=by
 refine ⟨by rw [h],F,?_,Fr.refl _ _,fun k hk=>.inl hk⟩
 unfold rSetL
 rw [if_neg (by omega)];exact H
theorem set_end_in {w w2:World} {p bm:Nat} {l:List TM} {F:Nat->Prop} {hv:Value} {xs ys:List X} {kvs:List (Int × Value)} {i:Nat} {x:X} {at_:Int}
 (H:WhI w p l F bm hv xs kvs) (hx:xs[i]?=some x) (h0:0<=x.2.2) (h1:0<=at_) (h2:at_<=1099511627776) (hp:ys.Perm (xs.set i (x.1,at_,x.2.2))) (hh:heap ys (xs.set i (x.1,at_,x.2.2)).length)
 (H2:Hp w2 p bm hv ys) (hf:Fr (Foot hv (xs.set i (x.1,at_,x.2.2))) (w.setCell ⟨x.1,0,none⟩ (.int .i64 at_)) w2):SetPost p l x.2.2 at_ F w (.returned (.int .i64 0)) w2:=by
 have hxl:=H.get_l hx
 have hi:i<xs.length:=(List.getElem?_eq_some_iff.1 hx).1
 have hE:=setE_in (id:=x.2.2) H.nd (List.mem_map.2 ⟨_,hxl,rfl⟩) h0 h1 h2
 have hsp:=set_perm xs i (x.1,at_,x.2.2) hi
 have hap:=at_perm xs i x hx
 have hmem:x.1∈xs.map (·.1):=List.mem_map.2 ⟨x,List.mem_of_getElem? hx,rfl⟩
 have hmap:(ys.map (·.1)).Perm (xs.map (·.1)):=by
  have e1:=((hp.trans hsp).map (·.1))
  have e2:=(hap.map (·.1))
  exact e1.trans e2.symm
 have hsub:∀ k,Foot hv ys k->Foot hv xs k:=fun k hk=>hk.elim .inl fun hk=>.inr (hmap.mem_iff.1 hk)
 have hsub':∀ k,Foot hv (xs.set i (x.1,at_,x.2.2)) k->Foot hv xs k:=fun k hk=>hk.elim .inl fun hk=>.inr (hmap.mem_iff.1 ((hp.map (·.1)).mem_iff.2 hk))
 have hfr:Fr (Foot hv xs) w w2:=((Fr.refl (Foot hv xs) w).set (p:=⟨x.1,0,none⟩) (fun _=>.inr hmem) (.int .i64 at_)).trans hf fun k _ q=>hsub' k q
 have hFF:∀ k,Foot hv xs k->F k:=fun k hk=>(H.ff k).2 (.inr (.inr hk))
 refine ⟨by rw [hE],WF p bm hv ys,⟨bm,hv,ys,kvs,⟨H2,?_,H.mp.fr hfr H.bmf,?_,?_,?_,?_,?_,fun k=>Iff.rfl⟩⟩,hfr.mono fun k _ q=>hFF k q,?_⟩
 .have:=hp.length_eq;rw [this];exact hh
 .have e1:=((hp.trans hsp).map fun x=>(x.2.2,ptr x.1))
  have e2:=(hap.map fun x=>(x.2.2,ptr x.1))
  exact H.kp.trans (e2.trans e1.symm)
 .have e1:=((hp.trans hsp).map (·.2))
  have e2:=(hap.map (·.2))
  have e3:=(stop_perm H.nd hxl).trans (H.lp.trans e2)
  unfold rSetL
  rw [if_pos hE]
  exact (ins_perm _ _).trans (((List.Perm.cons_inv e3).cons (at_,x.2.2)).trans e1.symm)
 .unfold rSetL;rw [if_pos hE];exact ins_nodup H.nd
 .unfold rSetL;rw [if_pos hE];exact ins_sorted _ _ (stop_sorted H.so _) stop_ne
 .unfold rSetL;rw [if_pos hE,ins_len,stop_len_in H.nd hxl];exact H.le
 .intro k hk
  rcases hk with e|e|e
  .exact .inl ((H.ff k).2 (.inl e))
  .exact .inl ((H.ff k).2 (.inr (.inl e)))
  .exact .inl (hFF k (hsub k e))
theorem set_end_new {w w1 w2:World} {p bm:Nat} {l:List TM} {F:Nat->Prop} {hv hv':Value} {xs ys:List X} {kvs:List (Int × Value)} {id at_:Int} {b:Nat}
 (H:WhI w p l F bm hv xs kvs) (hn:id∉l.map (·.2)) (hg:mget id kvs=none) (h0:0<=id) (h1:0<=at_) (h2:at_<=1099511627776) (hl:l.length<4096) (hb:w.heap.size<=b)
 (hf1:Fr (fun k=>k=bm) w w1) (hm:MapIs w1 bm intKey (mput id (ptr b) kvs)) (hs:b<w1.heap.size)
 (hat:hv'.ownBlock=hv.ownBlock\/∃ gb,hv'.ownBlock=some gb/\w1.heap.size<=gb) (hp:ys.Perm (xs++[(b,at_,id)])) (hh:heap ys (xs.length+1)) (H2:Hp w2 p bm hv' ys)
 (hf:Fr (fun k=>k=p\/Foot hv xs k\/k=b) w1 w2):SetPost p l id at_ F w (.returned (.int .i64 0)) w2:=by
 have hE:=setE_new hn h0 h1 h2 hl
 have hws:=hf1.size
 have hFF:∀ k,Foot hv xs k->F k:=fun k hk=>(H.ff k).2 (.inr (.inr hk))
 have hperm:ys.Perm ((b,at_,id)::xs):=hp.trans List.perm_append_comm
 have hbm:¬(bm=p\/Foot hv xs bm\/bm=b):=by
  rintro (e|e|e)
  .exact H.bmp e
  .exact H.bmf e
  .have:=H.mp.lt;omega
 have hsub:∀ k,Foot hv' ys k->Foot hv xs k\/w.heap.size<=k:=fun k hk=>by
  rcases hk with hk|hk
  .rcases hat with e|⟨gb,e1,e2⟩
   .exact .inl (.inl (e▸hk))
   .rw [hk] at e1;injection e1 with e1;exact .inr (by omega)
  .have:=((hperm.map (·.1)).mem_iff).1 hk
   rw [List.map_cons,List.mem_cons] at this
   rcases this with e|e
   .exact .inr (by rw [e];exact hb)
   .exact .inl (.inr e)
 have hfr:Fr F w w2:=(hf1.mono fun k _ e=>(H.ff k).2 (.inr (.inl e))).trans hf fun k hk q=>by
  rcases q with e|e|e
  .exact (H.ff k).2 (.inl e)
  .exact hFF k e
  .omega
 refine ⟨by rw [hE],WF p bm hv' ys,⟨bm,hv',ys,mput id (ptr b) kvs,⟨H2,?_,hm.fr hf hbm,?_,?_,?_,?_,?_,fun k=>Iff.rfl⟩⟩,hfr,?_⟩
 .have:=hp.length_eq;rw [this];simpa using hh
 .rw [mput_new _ (mget_none' hg)]
  have e1:=hperm.map fun x=>(x.2.2,ptr x.1)
  have e2:(kvs++[(id,ptr b)]).Perm ((id,ptr b)::kvs):=List.perm_append_comm
  exact e2.trans ((H.kp.cons _).trans e1.symm)
 .unfold rSetL
  rw [if_pos hE,stop_none hn]
  have e1:=hperm.map (·.2)
  exact (ins_perm _ _).trans ((H.lp.cons _).trans e1.symm)
 .unfold rSetL;rw [if_pos hE];exact ins_nodup H.nd
 .unfold rSetL;rw [if_pos hE];exact ins_sorted _ _ (stop_sorted H.so _) stop_ne
 .unfold rSetL;rw [if_pos hE,ins_len,stop_none hn];omega
 .intro k hk
  rcases hk with e|e|e
  .exact .inl ((H.ff k).2 (.inl e))
  .exact .inl ((H.ff k).2 (.inr (.inl e)))
  .exact (hsub k e).imp (hFF k) (fun q=>q)
set_option maxRecDepth 100000 in
set_option maxHeartbeats 1000000 in
theorem set_any {w:World} {p:Nat} {l:List TM} {F:Nat->Prop} (H:Wh w p l F) (id at_:Int) :
 Calls Tryz.prog 69 #[.pointer (some ⟨p,0,none⟩),.int .i64 id,.int .i64 at_] w (SetPost p l id at_ F w):=by
 by_cases hA:id<0\/at_<0\/1099511627776<at_
 .have HP:=hid (setPost_same H (setE_arg hA) (by omega))
  obtain ⟨bm,hv,xs,kvs,H⟩:=H
  have hm:=hid (made_any H.hp.top)
  clear H
  rcases hA with hA|hA|hA
  all_goals
   go_enter Tryz.func69,Tryz.ntmps69
   go_wp2_with (go_at_call 92;refine (hm.out).mono ?_;rintro e w' ⟨rfl,rfl⟩)
   all_goals
    go_ret
    exact HP.out
 have h0:0<=id:=by omega
 have h1:0<=at_:=by omega
 have h2:at_<=1099511627776:=by omega
 clear hA
 obtain ⟨bm,hv,xs,kvs,H⟩:=H
 have hm:=hid (made_any H.hp.top)
 have hc:=H.hp.top.cell 1
 have hlk:=H.mp.lookup (T:=165) (E:=161) (intLaw Tryz.underlying3) Tryz.underlying165 (zitem w) id true
 rcases H.get id with ⟨hg,hn⟩|⟨i,x,hx,rfl,hg⟩
 .have hlk':(Instr.lookup 165 (.map (some bm)) (.int .i64 id) true).run Tryz.prog w=.ok (.tuple #[.pointer none,.bool false]) w:=by rw [hg] at hlk;exact hlk
  obtain ⟨A,cap,e⟩:=H.hp.form0
  have hc0:=H.hp.top.cell 0
  have hlen:=H.len
  by_cases hl:4096<=l.length
  .have HP:=hid (setPost_same ⟨bm,hv,xs,kvs,H⟩ (setE_full hn h0 h1 h2 hl) (by omega))
   have hx4:4096<=xs.length:=by omega
   subst e
   clear hlk H hg hn hlen
   go_enter Tryz.func69,Tryz.ntmps69
   go_wp2_with (go_at_call 92;refine (hm.out).mono ?_;rintro e w' ⟨rfl,rfl⟩)
   go_ret
   exact HP.out
  .have hx4:xs.length<4096:=by omega
   have HE:=hid e
   have H1:=hid H
   have HG:=hid hg
   have HN:=hid hn
   have HLE:=hid hlen
   have hpt:=H.hp.top
   subst e
   clear hlk H hg hn hlen
   go_enter Tryz.func69,Tryz.ntmps69
   go_wp2_with fail
   refine (hm.out).mono ?_
   rintro e w' ⟨rfl,rfl⟩
   have hbm:=H1.out.mp.fr ((Fr.refl (fun _=>False) w).alloc (.cells #[.int .i64 at_,.int .i64 id,.int .i64 0] 171)) (fun h=>h)
   have hc1:=(hpt.alloc (.cells #[.int .i64 at_,.int .i64 id,.int .i64 0] 171)).cell 1
   obtain ⟨w2,hup,hm2,hf2⟩:=hbm.update (T:=165) (E:=161) (intLaw Tryz.underlying3) Tryz.underlying165 id (ptr w.heap.size)
   have hup':(Instr.mapUpdate 165 (.map (some bm)) (.int .i64 id) (.pointer (some ⟨w.heap.size,0,none⟩))).run Tryz.prog (w.alloc (.cells #[.int .i64 at_,.int .i64 id,.int .i64 0] 171))=.ok () w2:=hup
   have hf02:Fr (fun k=>k=bm) w w2:=((Fr.refl (fun _=>False) w).alloc (.cells #[.int .i64 at_,.int .i64 id,.int .i64 0] 171) |>.mono fun _ _ q=>q.elim).trans hf2 fun _ _ q=>q
   have hp2:=hid (H1.out.hp.fr hf02 (fun e=>H1.out.bmp e.symm) (fun k hk e=>H1.out.bmf (e▸hk)))
   have hnb:¬(w.heap.size=bm):=fun e=>by have:=H1.out.mp.lt;omega
   have hb2:=hid ((Blk.new w 171 #[.int .i64 at_,.int .i64 id,.int .i64 0]).fr hf2 hnb)
   have hnew:Hid (w.heap.size∉xs.map (·.1)):=hid (fun hk=>by
    have:=H1.out.lt ((H1.out.ff _).2 (.inr (.inr (.inr hk))));omega)
   have HF:=hid hf02
   have HM2:=hid hm2
   clear hup hm2 hf2 hf02 hbm hnb
   go_wp2_with fail
   refine (hpush_any p bm w.heap.size _ xs (at_,id) _ w2 hp2.out (by omega) H1.out.hh hb2.out hnew.out).mono ?_
   rintro e w3 ⟨rfl,hv',ys,hat,hp,hh,H2,hf⟩
   have HX:=hid (set_end_new H1.out HN.out HG.out h0 h1 h2 (by omega) (Nat.le_refl _) HF.out HM2.out hb2.out.lt hat hp hh H2 hf)
   clear hat hp hh H2 hf
   go_wp2
   go_ret
   exact HX.out
 .have hlk':(Instr.lookup 165 (.map (some bm)) (.int .i64 x.2.2) true).run Tryz.prog w=.ok (.tuple #[.pointer (some ⟨x.1,0,none⟩),.bool true]) w:=by rw [hg] at hlk;exact hlk
  have hb:=H.hp.its i x hx
  have hci:=hb.cell 0
  have hfi:=hb.frozen 0
  have hci2:(w.setCell ⟨x.1,0,none⟩ (.int .i64 at_)).cell? ⟨x.1,2,none⟩=some (.int .i64 i):=(hb.set_ 0 (.int .i64 at_)).cell 2
  have hi:i<xs.length:=(List.getElem?_eq_some_iff.1 hx).1
  have hlen:=H.len
  have hle:=H.le
  have hmax:xs.length<=50000:=by omega
  have hHp:=hp_change H.hp hx at_
  have hdn:=heap_change (ys:=xs.set i (x.1,at_,x.2.2)) H.hh hi (fun k _ hk=>g_set _ hk)
  have HFX:=hid (fix_any p bm i hv (xs.set i (x.1,at_,x.2.2)) ((w.setCell ⟨x.1,0,none⟩ (.int .i64 at_)).drew) (hHp.drewN 1) (by rw [List.length_set];exact hi) (by rw [List.length_set];omega) (by rw [List.length_set];exact hdn))
  have H1:=hid H
  have HX:=hid hx
  clear hlk H hg hx hlen hle hmax hHp hdn hb
  go_enter Tryz.func69,Tryz.ntmps69
  go_wp2_with fail
  refine (hm.out).mono ?_
  rintro e w' ⟨rfl,rfl⟩
  go_wp2_with fail
  generalize hu:w.setCell ⟨x.1,0,none⟩ (.int .i64 at_)=u at *
  have HU:=hid hu
  clear hu
  go_still_tail 8,(by kernel_rfl)
  go_wp2_with fail
  refine (HFX.out).mono ?_
  rintro e w3 ⟨rfl,ys,hp,hh,_,H2,hf⟩
  have HE:=hid (set_end_in H1.out HX.out h0 h1 h2 hp hh H2 (HU.out▸⟨hf.os,hf.tape,hf.output,hf.size,hf.block⟩))
  clear hp hh H2 hf
  go_wp2
  go_ret
  exact HE.out
theorem e111i:ElemInfo Tryz.prog 111 2 16 (.agg #[.int .i64 0,.int .i64 0]):=ElemInfo.mk' (by kernel_rfl)
def tcells (l:List TM):List Value:=l.flatMap fun t=>[.int .i64 t.1,.int .i64 t.2]
theorem tcells_snoc (l:List TM) (t:TM):tcells (l++[t])=tcells l++[.int .i64 t.1,.int .i64 t.2]:=by simp [tcells]
def DuePost (p:Nat) (l:List TM) (now:Int) (F:Nat->Prop) (w:World) (e:Ending) (w':World):Prop :=
 ∃ v F',e=.returned v/\w'.ownsRow w.heap.size 111 2 v (rDueA l now).length (tcells (rDueA l now))/\Wh w' p (rDueB l now) F'/\Fr F w w'/\∀ k,F' k->F k
def DueRel (p:Nat) (l:List TM) (now:Int) (F:Nat->Prop) (w:World) (gk:Nat) (v t ok:Value) (wr:World):Prop :=
 ∃ (j:Nat) (tb:Nat) (F':Nat->Prop),j+gk=l.length/\(∀ s∈l.take j,s.1<=now)/\t=.pointer (some ⟨tb,0,none⟩)/\ok=.bool (!(l.drop j).isEmpty)/\Blk wr tb 111 #[.int .i64 (rTop (l.drop j)).1,.int .i64 (rTop (l.drop j)).2] /\
  w.heap.size<=tb/\v.ownBlock≠some tb/\wr.ownsRow w.heap.size 111 2 v j (tcells (l.take j))/\Wh wr p (l.drop j) F'/\Fr F w wr/\∀ k,F' k->F k
theorem due_split {l:List TM} {j:Nat} {now:Int} (hj:j<=l.length) (h:∀ s∈l.take j,s.1<=now) (he:∀ t r,l.drop j=t::r->now<t.1):rDueA l now=l.take j/\rDueB l now=l.drop j:=by
 unfold rDueA rDueB
 have e:l=l.take j++l.drop j:=(List.take_append_drop j l).symm
 have hd:(l.drop j).takeWhile (fun t=>decide (t.1<=now))=[]/\(l.drop j).dropWhile (fun t=>decide (t.1<=now))=l.drop j:=by
  cases hq:l.drop j with
  | nil=>simp
  | cons t r =>
    have:=he t r hq
    simp [show ¬(t.1<=now) by omega]
 have h1:∀ s∈l.take j,decide (s.1<=now)=true:=fun s hs=>decide_eq_true (h s hs)
 constructor
 .conv=>lhs;rw [e]
  rw [List.takeWhile_append_of_pos h1,hd.1,List.append_nil]
 .conv=>lhs;rw [e]
  rw [List.dropWhile_append_of_pos h1,hd.2]
theorem top_drop {l:List TM} {j k:Nat} (h:j+(k+1)=l.length):∃ t r,l.drop j=t::r/\l.drop (j+1)=r/\l.take (j+1)=l.take j++[t]/\t∈l:=by
 have hj:j<l.length:=by omega
 exact ⟨l[j],l.drop (j+1),List.drop_eq_getElem_cons hj,rfl,List.take_succ_eq_append_getElem hj,List.getElem_mem hj⟩
set_option maxRecDepth 100000 in
set_option maxHeartbeats 2000000 in
theorem due_any {w:World} {p:Nat} {l:List TM} {F:Nat->Prop} (H:Wh w p l F) (now:Int) :
 Calls Tryz.prog 47 #[.pointer (some ⟨p,0,none⟩),.int .i64 now] w (DuePost p l now F w):=by
 have hFw:=hid fun k (hk:F k)=>H.lt hk
 have hle:l.length<=4096:=by obtain ⟨_,_,_,_,H⟩:=H;exact H.le
 have hn:=hid (next_any H)
 have HW:=hid H
 clear H
 go_enter Tryz.func47,Tryz.ntmps47
 go_wp2_with fail
 refine (hn.out).mono ?_
 rintro e w1 ⟨rfl,hb1⟩
 go_wp2_with fail
 have hst:DueRel p l now F w l.length (.slice none 0 0) (.pointer (some ⟨w1.heap.size,0,none⟩)) (.bool (!l.isEmpty)) (w1.alloc (.cells #[.int .i64 (rTop l).1,.int .i64 (rTop l).2] 111)) :=
  ⟨0,w1.heap.size,F,by omega,by simp,rfl,rfl,Blk.new _ _ _,hb1.size,by simp [Value.ownBlock],⟨rfl,.inl ⟨rfl,rfl⟩⟩,(HW.out.below hb1).fr ((Fr.refl (fun _=>False) _).alloc _) (fun _ _ h=>h),(Fr.of_below hb1).alloc _,fun _ h=>h⟩
 have HST:=hid hst
 clear hst
 go_loopg [5,6,7] l.length (fun k v t ok wr=>DueRel p l now F w k v t ok wr)
 case atStart=>exact HST.out
 case round =>
  obtain ⟨j,tb,F',hj,hall,rfl,rfl,hblk,hwt,hnt,hown,hwh,hf,hsub⟩:=hrel
  have hws:=hf.size
  rcases gk with _|k
  .have he:l.drop j=[]:=List.drop_eq_nil_of_le (by omega)
   have HS:=hid (due_split (now:=now) (by omega) hall (fun t r q=>by rw [he] at q;cases q))
   have HP:Hid (DuePost p l now F w (.returned u5) wr):=hid ⟨u5,F',rfl,by
    rw [HS.out.1,List.length_take,Nat.min_eq_left (by omega)];exact hown,by rw [HS.out.2];exact hwh,hf,hsub⟩
   rw [he]
   clear hblk hown hwh hf hall hnt
   go_wp2
   go_ret
   exact HP.out
  .obtain ⟨t,r,hd,hd',htk,htl⟩:=top_drop hj
   rw [hd] at hblk hwh
   rw [hd]
   have hnd:(((t::r).map (·.2))).Nodup:=by obtain ⟨_,_,_,_,H⟩:=hwh;exact H.nd
   have hsr:=stop_head hnd
   by_cases hle:t.1<=now
   .have hc0:=hblk.cell 0
    have hc1:=hblk.cell 1
    have htt:(rTop (t::r)).1<=now:=hle
    have hoB:=hid hown
    have hBK:=hid hblk
    have hWH:=hid hwh
    have HF:=hid hf
    have hj4:j<=4096:=by omega
    have hrt:rTop (t::r)=t:=rfl
    have hnFb:Hid (¬F' tb):=hid (fun q=>by have:=hFw.out _ (hsub _ q);omega)
    have hKB:Hid (∀ w1:World,wr.grownBy w1 u5.ownBlock->Blk w1 tb 111 #[.int .i64 t.1,.int .i64 t.2]):=hid (fun w1 hg=>(hg.block tb hBK.out.lt (fun e=>hnt e.symm)).trans hBK.out)
    have hKW:Hid (∀ w1:World,wr.grownBy w1 u5.ownBlock->Wh w1 p (t::r) F'):=hid (fun w1 hg=>hWH.out.fr (Fr.of_grown (F:=fun k=>u5.ownBlock=some k) hg (fun k h=>h)) (fun k hk e=>by
     have h1:=hFw.out _ (hsub _ hk);have h2:=(hoB.out.lt k e).1;omega))
    clear hblk hwh hf hown
    go_wp2_with (at_builtin;go_must (refine wpList_app1' rfl (.tmp 25) (.tmp 27) 108 rfl w.heap.size 111 2 16 _ Tryz.underlying108 e111i rfl (by omega) _ _ _ rfl hoB.out [_,_] _ rfl (by simp) rfl (by simp [Value.oneCell']) (by unfold maxLen;omega) (by omega) (by omega) ?_);intro v1 w1 hown1 hb1 hg1 hat1;have hc1:=(hKB.out _ hg1).cell 1)
    refine (stop_any (hKW.out _ hg1) t.2).mono ?_
    rintro e w2 ⟨rfl,F2,hW2,hf2,hs2⟩
    rw [hsr] at hW2
    have hB2:=(hKB.out _ hg1).fr hf2 hnFb.out
    have hc20:=hB2.cell 0
    have hc21:=hB2.cell 1
    have hW3:=hW2.fr ((Fr.refl (fun _=>False) _).alloc (.cells #[.int .i64 t.1,.int .i64 t.2] 111)) (fun _ _ h=>h)
    have hn3:=hid (next_any hW3)
    have hB3:=hid (Blk.new w2 111 #[.int .i64 t.1,.int .i64 t.2])
    have HW3:=hid hW3
    have HH:=hid hb1
    have HO1:=hid hown1
    have HF2:=hid hf2
    clear hB2 hW2 hW3 hb1 hf2 hown1
    go_wp2_with fail
    refine (hn3.out).mono ?_
    rintro e w4 ⟨rfl,hb4⟩
    have hB4:=hB3.out.fr (Fr.of_below (F:=fun _=>False) hb4) (fun h=>h)
    have hc40:=hB4.cell 0
    have hc41:=hB4.cell 1
    have hf40:=hB4.frozen 0
    have hf41:=hB4.frozen 1
    have HB4:=hid hb4
    have HBB:=hid hB4
    clear hb4 hB4
    go_wp2
    go_roundg k
    case measure=>omega
    case rel =>
     have s1:=HH.out.size
     have s2:=HF2.out.size
     have s4:=HB4.out.size
     simp at s4
     have hlt1:∀ k,v1.ownBlock=some k->w.heap.size<=k/\k<w1.heap.size:=fun k hk=>HO1.out.lt k hk
     have hsu:∀ k,F2 k->k<w.heap.size:=fun k hk=>hFw.out k (hsub k (hs2 k hk))
     have fs:Fr (fun k=>k=w2.heap.size) w4 ((w4.setCell ⟨w2.heap.size,0,none⟩ (.int .i64 (rTop r).1)).setCell ⟨w2.heap.size,1,none⟩ (.int .i64 (rTop r).2)) :=
      ((Fr.refl (fun k=>k=w2.heap.size) w4).set (p:=⟨w2.heap.size,0,none⟩) (fun _=>rfl) _).set (p:=⟨w2.heap.size,1,none⟩) (fun _=>rfl) _
     have f4:Fr (fun k=>k=w2.heap.size) (w2.alloc (.cells #[.int .i64 t.1,.int .i64 t.2] 111)) _:=(Fr.of_below HB4.out).trans fs (fun _ _ q=>q)
     have f2:Fr (fun k=>k=w2.heap.size) w2 _:=((Fr.refl (fun _=>False) w2).alloc (.cells #[.int .i64 t.1,.int .i64 t.2] 111) |>.mono fun _ _ q=>q.elim).trans f4 (fun _ _ q=>q)
     have f1:Fr (fun k=>F' k\/k=w2.heap.size) w1 _:=(HF2.out.mono fun _ _ q=>Or.inl q).trans f2 (fun _ _ q=>Or.inr q)
     have f0:Fr (fun k=>u5.ownBlock=some k\/F' k\/k=w2.heap.size) wr _:=(Fr.of_grown hg1 (fun k e=>Or.inl e)).trans f1 (fun _ _ q=>Or.inr q)
     refine ⟨j+1,w2.heap.size,F2,by omega,?_,rfl,?_,?_,by omega,?_,?_,?_,?_,fun k hk=>hsub k (hs2 k hk)⟩
     .rw [htk]
      intro s hs
      rcases List.mem_append.1 hs with h|h
      .exact hall s h
      .simp at h;subst h;exact hle
     .rw [hd']
     .rw [hd'];exact (HBB.out.set_ 0 _).set_ 1 _
     .intro e;have:=(hlt1 _ e).2;omega
     .rw [htk,tcells_snoc]
      refine own_fr (by simpa using HO1.out) f1 (fun k hk q=>?_)
      have h1:=hlt1 k hk
      rcases q with q|q
      .have:=hFw.out k (hsub k q);omega
      .omega
     .rw [hd']
      exact (HW3.out.below HB4.out).fr fs (fun k hk e=>by have:=hsu k hk;omega)
     .refine HF.out.trans f0 (fun k hk q=>?_)
      rcases q with q|q|q
      .have:=(hoB.out.lt k q).1;omega
      .exact hsub k q
      .omega
   .have HS:=hid (due_split (now:=now) (by omega) hall (fun t' r' q=>by rw [hd] at q;injection q with q1 q2;subst q1;omega))
    have HP:Hid (DuePost p l now F w (.returned u5) wr):=hid ⟨u5,F',rfl,by
     rw [HS.out.1,List.length_take,Nat.min_eq_left (by omega)];exact hown,by rw [HS.out.2,hd];exact hwh,hf,hsub⟩
    have hc0:=hblk.cell 0
    have htt:now<(rTop (t::r)).1:=by show now<t.1;omega
    clear hblk hown hwh hf hall hnt hd hd' htk hsr hnd
    go_wp2
    go_ret
    exact HP.out
theorem tcells_at:∀ {l:List TM} {i:Nat} (h:i<l.length),(tcells l)[i*2]?=some (.int .i64 l[i].1)/\(tcells l)[i*2+1]?=some (.int .i64 l[i].2)
 | t::r,0,_=>⟨rfl,rfl⟩
 | t::r,i+1,h=>by
   have:=tcells_at (l:=r) (i:=i) (by simpa using h)
   simp only [tcells,List.flatMap_cons] at this ⊢
   rw [show (i+1)*2=i*2+2 from by omega]
   simpa using this
theorem rd_tm {w:World} {l:List TM} {A:Option Addr} (h:Rd w 111 2 l.length A (tcells l)) {i:Nat} (hi:i<l.length) :
 ∃ gb off,A=some ⟨gb,off,none⟩/\w.cell? ⟨gb,off+i*2,none⟩=some (.int .i64 l[i].1)/\w.cell? ⟨gb,off+i*2+1,none⟩=some (.int .i64 l[i].2):=by
 obtain ⟨gb,off,e,_,hc⟩:=h.at_ (by omega)
 exact ⟨gb,off,e,hc _ _ (tcells_at hi).1,by rw [Nat.add_assoc];exact hc _ _ (tcells_at hi).2⟩
theorem Wh.notT {w:World} {p:Nat} {l:List TM} {F:Nat->Prop} (H:Wh w p l F) {b:Nat} {cs:Array Value} {T:TypeId} {fr:Nat × Nat} (hb:w.heap[b]?=some (.cells cs T fr)) (h1:T≠167) (h2:T≠171) (h3:T≠161):¬F b:=by
 intro hF
 obtain ⟨bm,hv,xs,kvs,H⟩:=H
 rcases (H.ff b).1 hF with rfl|rfl|e|e
 .have:=H.hp.top;unfold Blk at this;rw [hb] at this;injection this with this;injection this with _ q;exact h1 q
 .obtain ⟨es,c,h,_⟩:=H.mp;rw [hb] at h;cases h
 .rcases H.hp.row.2 with ⟨e',_⟩|⟨gb,cap,cur,e',_,hg,_⟩
  .rw [e'] at e;cases e
  .rw [e'] at e
   have:gb=b:=by simpa [Value.ownBlock] using e
   subst this
   rw [hb] at hg;injection hg with hg;injection hg with _ q;exact h3 q
 .obtain ⟨x,hx,rfl⟩:=List.mem_map.1 e
  obtain ⟨i,hi⟩:=List.getElem?_of_mem hx
  have:=H.hp.its i x hi
  unfold Blk at this;rw [hb] at this;injection this with this;injection this with _ q;exact h2 q
end Go.Proofs.YthkadehlclcggaaGreatDoor
