/- Chapter 19 in plain Lean: addresses, events, dialogs, subscriptions. Chapter 19 in plain Lean: a table of subscriptions as a list, and its timers. Chapter 19: the table of subscriptions as an object. Chapter 19: subs.New, made, tick. Whole structs by value: a load or store of many cells at once, at any place of a block; a  Chapter 19: over, lasts. Chapter 19: how the table's memory goes on: one subscription has turned, or is taken away. Chapter 19: Drop, Sent. -/
import Derived.Test.YthkadehlclcggaaGreatDoorGx03
import Derived.Test.YthkadehlclcggaaGreatDoorGx02
import Derived.Test.YthkadehlclcggaaGreatDoorGx17
import Derived.Test.YthkadehlclcggaaGreatDoorGx27
import Derived.Deep.MidRow
import Derived.Laws.ResultCell
import Derived.Test.YthkadehlclcggaaGreatDoorGx12
import Derived.StillTailTactics
import Derived.Test.YthkadehlclcggaaGreatDoorGx25
namespace Go.Proofs.YthkadehlclcggaaGreatDoor
set_option linter.unusedSimpArgs false
set_option linter.unusedVariables false
open Go.RowKit
open Go.Lib (hid)
structure AddrP where
 display:T
 uri:Uri
 params:List Par
structure EvP where
 name:T
 params:List Par
structure Dlg where
 callid:T
 loc:AddrP
 rem:AddrP
 tgt:Uri
 routes:List T
 lastIn:Int
 lastOut:Int
structure SubP where
 number:Int
 who:T
 watcher:T
 ev:EvP
 state:Int
 reason:T
 until_:Int
 dlg:Dlg
structure ReqP where
 method:T
 target:Uri
 branch:T
 sentby:T
 from_:AddrP
 to_:AddrP
 ftag:T
 ttag:T
 callid:T
 seq:Int
 exp:Int
 ev:EvP
 contact:List AddrP
 routes:List T
 accept:List T
 typ:T
 mtch:T
 body:T
def tagN:T:=[116,97,103]
def idN:T:=[105,100]
def valP (l:List Par) (n:T):T × Bool:=match findP n l with
 | some p=>(p.value,true)
 | none=>([],false)
def tagA (a:AddrP):T:=(valP a.params tagN).1
def matchB (d:Dlg) (r:ReqP):Bool:=decide (r.callid=d.callid)&&decide (r.ttag=tagA d.loc)&&decide (r.ftag=tagA d.rem)
def quoB (s:T):Bool:=s.all fun c=>!(decide (c=0) || decide (c=13) || decide (c=10))
def badP (l:List Par) (p:Par):Bool:=!tokB p.name || (valP l p.name).2 || decide (64<p.value.length) || (!p.has&&decide (p.value≠[])) || !quoB p.value
def badAt:List Par->List Par->Bool
 | _,[]=>false
 | done,p::r=>badP done p || badAt (done++[p]) r
def textE (l:List Par):Int:=if 16<l.length then 4 else if badAt [] l=true then 34 else 0
def addrE (a:AddrP):Int:=if quoB a.display=false\/64<a.display.length then 50 else if checkE a.uri≠0 then checkE a.uri else textE a.params
def tagged (a:AddrP) (t:T):AddrP:=⟨a.display,a.uri,a.params++[⟨tagN,t,true⟩]⟩
structure BegR where
 dlg:Option Dlg
 err:Int
def begR (r:ReqP) (t:T):BegR :=
 if r.ttag≠[]\/r.ftag=[]\/tokB t=false then ⟨none,1⟩
 else match r.contact with
  | [k]=>if addrE (tagged r.to_ t)≠0 then ⟨none,addrE (tagged r.to_ t)⟩ else ⟨some ⟨r.callid,tagged r.to_ t,r.from_,k.uri,r.routes,r.seq,0⟩,0⟩
  | _=>⟨none,100⟩
structure TakR where
 dlg:Dlg
 err:Int
def takR (d:Dlg) (r:ReqP):TakR :=
 if matchB d r=false then ⟨d,6⟩
 else if r.seq<=d.lastIn then ⟨d,180⟩
 else ⟨{ d with lastIn:=r.seq,tgt:=match r.contact with|[k]=>k.uri|_=>d.tgt },0⟩
def evIs (a b:EvP):Bool:=decide (a.name=b.name)&&decide (valP a.params idN=valP b.params idN)
def lastsS (s:SubP) (now n:Int):SubP:=if n=0 then { s with until_:=now,state:=2,reason:=[116,105,109,101,111,117,116] } else { s with until_:=now+10*n }
def noAddr:AddrP:=⟨[],noUri,[]⟩
def noDlg:Dlg:=⟨[],noAddr,noAddr,noUri,[],0,0⟩
def noSub:SubP:=⟨0,[],[],⟨[],[]⟩,0,[],0,noDlg⟩
def timeoutN:T:=[116,105,109,101,111,117,116]
def livS (s:SubP):Bool:=decide (s.state≠2)
def tmS (L:List SubP):List TM:=(L.filter livS).map fun s=>(s.until_,s.number)
def dropS (L:List SubP) (n:Int):List SubP:=L.filter fun s=>decide (s.number≠n)
def setS (L:List SubP) (q:SubP):List SubP:=L.map fun s=>if s.number=q.number then q else s
structure SubZ (s:SubP):Prop where
 ev:s.ev.params.length<=2000000
 lp:s.dlg.loc.uri.params.length<=2000000
 lh:s.dlg.loc.uri.headers.length<=2000000
 la:s.dlg.loc.params.length<=2000000
 rp:s.dlg.rem.uri.params.length<=2000000
 rh:s.dlg.rem.uri.headers.length<=2000000
 ra:s.dlg.rem.params.length<=2000000
 tp:s.dlg.tgt.params.length<=2000000
 th:s.dlg.tgt.headers.length<=2000000
 ro:s.dlg.routes.length<=2000000
 pe:∀ p∈s.ev.params,parS p
 pl:∀ p∈s.dlg.loc.params,parS p
 pr:∀ p∈s.dlg.rem.params,parS p
structure SbQ (c:Conf) (last:Int) (L:List SubP) (l:List TM):Prop where
 right:rightB c=true
 ids:L.Pairwise fun a b=>a.number<b.number
 low:∀ s∈L,1<=s.number/\s.number<=last
 last:0<=last
 len:L.length<=c.subs
 time:∀ s∈L,s.state≠2->0<=s.until_/\s.until_<=1099511627776
 z:∀ s∈L,SubZ s
 lp:l.Perm (tmS L)
section
variable {c:Conf} {last:Int} {L L':List SubP} {l l':List TM} {s s0 q:SubP}
theorem SbQ.subs (H:SbQ c last L l):1<=c.subs/\c.subs<=200:=by
 have h:=H.right
 unfold rightB at h
 simp only [Bool.and_eq_true,decide_eq_true_eq] at h
 exact ⟨h.1.1.1.1.1.1.1.2,h.1.1.1.1.1.1.2⟩
theorem SbQ.nil (h:rightB c=true):SbQ c 0 [] []:=by
 refine ⟨h,List.Pairwise.nil,by simp,Int.le_refl _,?_,by simp,by simp,List.Perm.refl _⟩
 unfold rightB at h
 simp only [Bool.and_eq_true,decide_eq_true_eq] at h
 have:=h.1.1.1.1.1.1.1.2
 simp
 omega
theorem subs_idnd (h:L.Pairwise fun a b=>a.number<b.number):(L.map (·.number)).Nodup:=by
 rw [List.nodup_iff_pairwise_ne,List.pairwise_map]
 exact h.imp fun h=>by omega
theorem setS_num (L:List SubP) (q:SubP):(setS L q).map (·.number)=L.map (·.number):=by
 unfold setS
 rw [List.map_map]
 apply List.map_congr_left
 intro p hp
 show (if p.number=q.number then q else p).number=p.number
 split
 .next h=>exact h.symm
 .rfl
theorem setS_mem (h:s∈setS L q):s=q\/s∈L/\s.number≠q.number:=by
 obtain ⟨r,hr,rfl⟩:=List.mem_map.1 h
 by_cases hn:r.number=q.number
 .rw [if_pos hn];exact .inl rfl
 .rw [if_neg hn];exact .inr ⟨hr,hn⟩
theorem setS_perm:∀ {L:List SubP} {s0 q:SubP},(L.map (·.number)).Nodup->s0∈L->q.number=s0.number->(setS L q).Perm (q::dropS L s0.number)
 | [],_,_,_,h,_=>by cases h
 | p::r,s0,q,hn,h,hq=>by
   rw [List.map_cons,List.nodup_cons] at hn
   have e:setS (p::r) q=(if p.number=q.number then q else p)::setS r q:=rfl
   rcases List.mem_cons.1 h with rfl|h
   .have hr:setS r q=r:=by
     have h9:setS r q=r.map id:=List.map_congr_left (fun s hs=>if_neg fun k=>hn.1 (List.mem_map.2 ⟨s,hs,Eq.trans k hq⟩))
     rw [h9,List.map_id]
    have hd:dropS (s0::r) s0.number=r:=by
     unfold dropS
     rw [List.filter_cons_of_neg (by simp),List.filter_eq_self]
     intro s hs
     exact decide_eq_true fun k=>hn.1 (List.mem_map.2 ⟨s,hs,k⟩)
    rw [e,if_pos hq.symm,hr,hd]
   .have hne:p.number≠s0.number:=fun k=>hn.1 (List.mem_map.2 ⟨s0,h,k.symm⟩)
    have hd:dropS (p::r) s0.number=p::dropS r s0.number:=by
     unfold dropS
     rw [List.filter_cons_of_pos (by simp [hne])]
    rw [e,if_neg (by rw [hq];exact hne),hd]
    exact ((setS_perm hn.2 h hq).cons p).trans (List.Perm.swap _ _ _)
theorem tmS_perm (h:L.Perm L'):(tmS L).Perm (tmS L'):=(h.filter _).map _
theorem tmS_drop (L:List SubP) (n:Int):tmS (dropS L n)=rStop (tmS L) n:=by
 unfold tmS dropS rStop
 rw [List.filter_map,List.filter_filter,List.filter_filter]
 congr 1
 apply List.filter_congr
 intro a _
 exact Bool.and_comm _ _
theorem tmS_cons (q:SubP) (L:List SubP):tmS (q::L)=tmS [q]++tmS L:=by
 unfold tmS
 cases h:livS q
 .rw [List.filter_cons_of_neg (by simp [h]),List.filter_cons_of_neg (by simp [h])];rfl
 .rw [List.filter_cons_of_pos h,List.filter_cons_of_pos h];rfl
theorem tmS_live (h:q.state≠2):tmS [q]=[(q.until_,q.number)]:=by
 unfold tmS
 rw [List.filter_cons_of_pos (show livS q=true from decide_eq_true h)]
 rfl
theorem tmS_over (h:q.state=2):tmS [q]=[]:=by
 unfold tmS
 rw [List.filter_cons_of_neg (by unfold livS;simp [h])]
 rfl
theorem SbQ.wnum (H:SbQ c last L l):(l.map (·.2)).Perm ((L.filter livS).map (·.number)):=by
 have:=H.lp.map (·.2)
 unfold tmS at this
 simpa [Function.comp_def] using this
theorem SbQ.wnd (H:SbQ c last L l):(l.map (·.2)).Nodup :=
 (H.wnum.nodup_iff).2 ((subs_idnd H.ids).sublist (List.filter_sublist.map _))
theorem SbQ.wlen (H:SbQ c last L l):l.length<=L.length:=by
 have h:=H.lp.length_eq
 unfold tmS at h
 rw [List.length_map] at h
 rw [h]
 exact List.length_filter_le _ _
theorem num_eq (h:(L.map (·.number)).Nodup) (h1:s∈L) (h2:s0∈L) (e:s.number=s0.number):s=s0:=by
 induction L with
 | nil=>cases h1
 | cons r t ih =>
   rw [List.map_cons,List.nodup_cons] at h
   rcases List.mem_cons.1 h1 with e1|h1'
   .rcases List.mem_cons.1 h2 with e2|h2'
    .rw [e1,e2]
    .exact absurd (List.mem_map.2 ⟨s0,h2',by rw [<-e,e1]⟩) h.1
   .rcases List.mem_cons.1 h2 with e2|h2'
    .exact absurd (List.mem_map.2 ⟨s,h1',by rw [e,e2]⟩) h.1
    .exact ih h.2 h1' h2'
theorem SbQ.wout (H:SbQ c last L l) (h:s∈L) (ho:s.state=2):s.number∉l.map (·.2):=fun hm=>by
 obtain ⟨r,hr,e⟩:=List.mem_map.1 (H.wnum.mem_iff.1 hm)
 have h9:=List.mem_filter.1 hr
 have:=num_eq (subs_idnd H.ids) h9.1 h e
 subst this
 have:=of_decide_eq_true h9.2
 exact this ho
theorem SbQ.wnew (H:SbQ c last L l) {n:Int} (h:n∉L.map (·.number)):n∉l.map (·.2):=fun hm=>by
 obtain ⟨r,hr,e⟩:=List.mem_map.1 (H.wnum.mem_iff.1 hm)
 exact h (List.mem_map.2 ⟨r,(List.mem_filter.1 hr).1,e⟩)
theorem SbQ.win (H:SbQ c last L l) (h:s∈L) (ho:s.state≠2):(s.until_,s.number)∈l :=
 H.lp.mem_iff.2 (List.mem_map.2 ⟨s,List.mem_filter.2 ⟨h,decide_eq_true ho⟩,rfl⟩)
theorem SbQ.split (H:SbQ c last L l) (h:s∈L):l.Perm (tmS [s]++rStop l s.number):=by
 by_cases ho:s.state=2
 .rw [tmS_over ho,stop_none (H.wout h ho)]
  exact List.Perm.refl _
 .rw [tmS_live ho]
  exact (stop_perm H.wnd (H.win h ho)).symm
theorem SbQ.stop (H:SbQ c last L l) (n:Int):(rStop l n).Perm (tmS (dropS L n)):=by
 rw [tmS_drop]
 unfold rStop
 exact H.lp.filter _
theorem SbQ.put (H:SbQ c last L l) (hs:s0∈L) (hq:q.number=s0.number) (hz:SubZ q) (ht:q.state≠2->0<=q.until_/\q.until_<=1099511627776) (hl:l'.Perm (tmS [q]++rStop l s0.number)):SbQ c last (setS L q) l':=by
 refine ⟨H.right,?_,fun p hp=>?_,H.last,?_,fun p hp hl2=>?_,fun p hp=>?_,?_⟩
 .rw [<-List.pairwise_map (f:=fun p:SubP=>p.number) (R:=fun a b=>a<b),setS_num,List.pairwise_map]
  exact H.ids
 .rcases setS_mem hp with rfl|⟨hp,_⟩
  .rw [hq];exact H.low _ hs
  .exact H.low p hp
 .have:(setS L q).length=L.length:=by unfold setS;simp
  rw [this]
  exact H.len
 .rcases setS_mem hp with rfl|⟨hp,_⟩
  .exact ht hl2
  .exact H.time p hp hl2
 .rcases setS_mem hp with rfl|⟨hp,_⟩
  .exact hz
  .exact H.z p hp
 .refine hl.trans (((H.stop s0.number).append_left _).trans ?_)
  rw [<-tmS_cons]
  exact (tmS_perm (setS_perm (subs_idnd H.ids) hs hq)).symm
theorem SbQ.setE (H:SbQ c last L l) {n t:Int} (hn:0<=n) (h1:0<=t) (h2:t<=1099511627776):rSetE l n t=0:=by
 have h3:=H.wlen
 have h4:=H.len
 have h5:=H.subs
 unfold rSetE
 rw [if_neg (by omega),if_neg (by omega)]
theorem SbQ.putL (H:SbQ c last L l) (hs:s0∈L) (hq:q.number=s0.number) (hz:SubZ q) (ho:q.state≠2) (h1:0<=q.until_) (h2:q.until_<=1099511627776) :
 rSetE l s0.number q.until_=0/\SbQ c last (setS L q) (rSetL l s0.number q.until_):=by
 have hlo:=H.low s0 hs
 have h0:=H.setE (n:=s0.number) (t:=q.until_) (by omega) h1 h2
 refine ⟨h0,H.put hs hq hz (fun _=>⟨h1,h2⟩) ?_⟩
 unfold rSetL
 rw [if_pos h0,tmS_live ho,hq]
 exact ins_perm _ _
theorem SbQ.putO (H:SbQ c last L l) (hs:s0∈L) (hq:q.number=s0.number) (hz:SubZ q) (ho:q.state=2):SbQ c last (setS L q) (rStop l s0.number):=by
 refine H.put hs hq hz (fun h=>absurd ho h) ?_
 rw [tmS_over ho]
 exact List.Perm.refl _
theorem SbQ.putS (H:SbQ c last L l) (hs:s0∈L) (hq:q.number=s0.number) (hz:SubZ q) (hu:q.until_=s0.until_) (ho:q.state=2<->s0.state=2):SbQ c last (setS L q) l:=by
 have e:tmS [q]=tmS [s0]:=by
  by_cases h:s0.state=2
  .rw [tmS_over h,tmS_over (ho.2 h)]
  .rw [tmS_live h,tmS_live (fun k=>h (ho.1 k)),hu,hq]
 refine H.put hs hq hz (fun h=>?_) (e▸H.split hs)
 rw [hu]
 exact H.time s0 hs (fun k=>h (ho.2 k))
theorem SbQ.app (H:SbQ c last L l) (hn:q.number=last+1) (hlen:(L.length:Int)<c.subs) (hz:SubZ q) (ht:q.state≠2->0<=q.until_/\q.until_<=1099511627776) (hl:l'.Perm (tmS [q]++l)):SbQ c (last+1) (L++[q]) l':=by
 have hla:=H.last
 refine ⟨H.right,?_,fun d hd=>?_,by omega,?_,fun d hd ho=>?_,fun d hd=>?_,?_⟩
 .rw [List.pairwise_append]
  refine ⟨H.ids,by simp,fun a ha b hb=>?_⟩
  simp at hb
  subst hb
  have:=H.low a ha
  omega
 .rcases List.mem_append.1 hd with r|r
  .have:=H.low d r;omega
  .simp at r;subst r;omega
 .rw [List.length_append];simp;omega
 .rcases List.mem_append.1 hd with r|r
  .exact H.time d r ho
  .simp at r;subst r;exact ht ho
 .rcases List.mem_append.1 hd with r|r
  .exact H.z d r
  .simp at r;subst r;exact hz
 .refine hl.trans ((H.lp.append_left _).trans ?_)
  rw [<-tmS_cons]
  exact tmS_perm (List.perm_append_comm (l₁:=[q]))
theorem SbQ.newN (H:SbQ c last L l):last+1∉l.map (·.2):=H.wnew fun h=>by
 obtain ⟨d,hd,e⟩:=List.mem_map.1 h
 have:=H.low d hd
 omega
theorem SbQ.appL (H:SbQ c last L l) (hn:q.number=last+1) (hlen:(L.length:Int)<c.subs) (hz:SubZ q) (ho:q.state≠2) (h1:0<=q.until_) (h2:q.until_<=1099511627776) :
 rSetE l (last+1) q.until_=0/\SbQ c (last+1) (L++[q]) (rSetL l (last+1) q.until_):=by
 have hla:=H.last
 have h0:=H.setE (n:=last+1) (t:=q.until_) (by omega) h1 h2
 refine ⟨h0,H.app hn hlen hz (fun _=>⟨h1,h2⟩) ?_⟩
 unfold rSetL
 rw [if_pos h0,tmS_live ho,hn,stop_none H.newN]
 exact ins_perm _ _
theorem SbQ.appO (H:SbQ c last L l) (hn:q.number=last+1) (hlen:(L.length:Int)<c.subs) (hz:SubZ q) (ho:q.state=2):SbQ c (last+1) (L++[q]) (rStop l (last+1)):=by
 refine H.app hn hlen hz (fun h=>absurd ho h) ?_
 rw [tmS_over ho,stop_none H.newN]
 exact List.Perm.refl _
theorem SbQ.drop (H:SbQ c last L l) (n:Int):SbQ c last (dropS L n) (rStop l n) where
 right:=H.right
 ids:=H.ids.sublist List.filter_sublist
 low:=fun p hp=>H.low p (List.mem_filter.1 hp).1
 last:=H.last
 len:=by
  have h1:(dropS L n).length<=L.length:=List.length_filter_le _ _
  have:=H.len
  omega
 time:=fun p hp=>H.time p (List.mem_filter.1 hp).1
 z:=fun p hp=>H.z p (List.mem_filter.1 hp).1
 lp:=H.stop n
end
def overS (s:SubP) (r:T):SubP:={ s with state:=2,reason:=r }
def dueS (now:Int) (s:SubP):Bool:=livS s&&decide (s.until_<=now)
def expS (L:List SubP) (now:Int):List SubP:=L.map fun s=>if dueS now s=true then overS s timeoutN else s
def goneS (L:List SubP) (now:Int):List Int:=(L.filter (dueS now)).map (·.number)
section
variable {c:Conf} {last now:Int} {L:List SubP} {l:List TM} {s:SubP}
theorem expS_num (L:List SubP) (now:Int):(expS L now).map (·.number)=L.map (·.number):=by
 unfold expS
 rw [List.map_map]
 apply List.map_congr_left
 intro p hp
 show (if dueS now p=true then overS p timeoutN else p).number=p.number
 split <;> rfl
theorem tmS_exp (now:Int):∀ L:List SubP,tmS (expS L now)=(tmS L).filter fun t=>decide (now<t.1)
 | []=>rfl
 | q::L=>by
   have e:expS (q::L) now=(if dueS now q=true then overS q timeoutN else q)::expS L now:=rfl
   rw [e,tmS_cons,tmS_cons q,List.filter_append,tmS_exp now L]
   congr 1
   by_cases h:q.state=2
   .have hd:¬dueS now q=true:=by unfold dueS livS;simp [h]
    rw [if_neg hd,tmS_over h]
    rfl
   .by_cases hu:q.until_<=now
    .have hd:dueS now q=true:=by unfold dueS livS;simp [h,hu]
     rw [if_pos hd,tmS_live h,tmS_over (by rfl),List.filter_cons_of_neg (by simp;omega)]
     rfl
    .have hd:¬dueS now q=true:=by unfold dueS livS;simp [h];omega
     rw [if_neg hd,tmS_live h,List.filter_cons_of_pos (by simp;omega)]
     rfl
theorem exp_mem (h:s∈expS L now):∃ r∈L,(s=r/\dueS now r=false)\/(s=overS r timeoutN/\dueS now r=true):=by
 obtain ⟨r,hr,rfl⟩:=List.mem_map.1 h
 refine ⟨r,hr,?_⟩
 cases hd:dueS now r
 .exact .inl ⟨if_neg (by simp),rfl⟩
 .exact .inr ⟨if_pos rfl,rfl⟩
theorem SbQ.exp (H:SbQ c last L l) (hs:l.Pairwise ah) (now:Int):SbQ c last (expS L now) (rDueB l now):=by
 refine ⟨H.right,?_,fun p hp=>?_,H.last,?_,fun p hp hl=>?_,fun p hp=>?_,?_⟩
 .rw [<-List.pairwise_map (f:=fun p:SubP=>p.number) (R:=fun a b=>a<b),expS_num,List.pairwise_map]
  exact H.ids
 .obtain ⟨r,hr,⟨rfl,_⟩|⟨rfl,_⟩⟩:=exp_mem hp
  .exact H.low _ hr
  .exact H.low r hr
 .have:(expS L now).length=L.length:=by unfold expS;simp
  rw [this]
  exact H.len
 .obtain ⟨r,hr,⟨rfl,_⟩|⟨rfl,_⟩⟩:=exp_mem hp
  .exact H.time _ hr hl
  .exact absurd rfl hl
 .obtain ⟨r,hr,⟨rfl,_⟩|⟨rfl,_⟩⟩:=exp_mem hp
  .exact H.z _ hr
  .have h:=H.z r hr
   exact ⟨h.ev,h.lp,h.lh,h.la,h.rp,h.rh,h.ra,h.tp,h.th,h.ro,h.pe,h.pl,h.pr⟩
 .rw [(due_parts hs now).2,tmS_exp]
  exact H.lp.filter _
theorem SbQ.gone (H:SbQ c last L l) (hs:l.Pairwise ah) (now:Int):((rDueA l now).map (·.2)).Perm (goneS L now):=by
 rw [(due_parts hs now).1]
 have h:=(H.lp.filter fun t=>decide (t.1<=now)).map (·.2)
 refine h.trans (List.Perm.of_eq ?_)
 unfold tmS goneS
 rw [List.filter_map,List.map_map,List.filter_filter]
 congr 1
 apply List.filter_congr
 intro a _
 exact Bool.and_comm _ _
theorem gone_rises (h:L.Pairwise fun a b=>a.number<b.number) (now:Int):(goneS L now).Pairwise (·<·):=by
 unfold goneS
 rw [List.pairwise_map]
 exact h.sublist List.filter_sublist
def stepS (L:List SubP) (D:List TM) (j:Nat):List SubP:=L.map fun s=>if s.number∈(D.take j).map (·.2) then overS s timeoutN else s
theorem stepS_all (H:SbQ c last L l) (hs:l.Pairwise ah) (now:Int):stepS L (rDueA l now) (rDueA l now).length=expS L now:=by
 unfold stepS expS
 rw [List.take_length]
 apply List.map_congr_left
 intro s hm
 have hiff:s.number∈(rDueA l now).map (·.2)<->dueS now s=true:=by
  rw [(H.gone hs now).mem_iff]
  unfold goneS
  constructor
  .intro h
   obtain ⟨r,hr,e⟩:=List.mem_map.1 h
   have h9:=List.mem_filter.1 hr
   have:=num_eq (subs_idnd H.ids) h9.1 hm e
   subst this
   exact h9.2
  .intro h
   exact List.mem_map.2 ⟨s,List.mem_filter.2 ⟨hm,h⟩,rfl⟩
 by_cases h:dueS now s=true
 .rw [if_pos h,if_pos (hiff.2 h)]
 .rw [if_neg h,if_neg (fun k=>h (hiff.1 k))]
end
structure SbR where
 last:Int
 L:List SubP
 sub:SubP
 err:Int
def tickB (now:Int):Bool:=decide (0<=now)&&decide (now<=549755813888)
def newS (last:Int) (r:ReqP) (who watcher:T) (state:Int) (d:Dlg) (now n:Int):SubP:=lastsS ⟨last+1,who,watcher,r.ev,state,[],0,d⟩ now n
def begS (c:Conf) (last:Int) (L:List SubP) (now:Int) (r:ReqP) (who watcher:T) (state:Int) (tag:T):SbR :=
 if tickB now=false\/(state≠0/\state≠1) then ⟨last,L,noSub,1⟩
 else match (begR r tag).dlg with
  | none=>⟨last,L,noSub,(begR r tag).err⟩
  | some d =>
    if secK c r.exp=false then ⟨last,L,noSub,161⟩
    else if c.subs<=L.length then ⟨last,L,noSub,5⟩
    else ⟨last+1,L++[newS last r who watcher state d now (secN c r.exp)],newS last r who watcher state d now (secN c r.exp),0⟩
def agaS (c:Conf) (L:List SubP) (now n:Int) (r:ReqP):SbR :=
 if tickB now=false then ⟨0,L,noSub,1⟩
 else match L.find? fun s=>decide (s.number=n) with
  | none=>⟨0,L,noSub,6⟩
  | some s =>
    if s.state=2 then ⟨0,L,noSub,6⟩
    else if (takR s.dlg r).err≠0 then ⟨0,L,noSub,(takR s.dlg r).err⟩
    else if evIs s.ev r.ev=false then ⟨0,L,noSub,81⟩
    else if secK c r.exp=false then ⟨0,L,noSub,161⟩
    else ⟨0,setS L (lastsS { s with dlg:=(takR s.dlg r).dlg } now (secN c r.exp)),lastsS { s with dlg:=(takR s.dlg r).dlg } now (secN c r.exp),0⟩
structure SetR where
 L:List SubP
 err:Int
def putS (L:List SubP) (n state:Int) (reason:T):SetR :=
 match L.find? fun s=>decide (s.number=n) with
 | none=>⟨L,6⟩
 | some s =>
   if s.state=2 then ⟨L,6⟩
   else if state≠0/\state≠1/\state≠2 then ⟨L,1⟩
   else ⟨setS L { s with state:=state,reason:=reason },0⟩
def sentS (L:List SubP) (n out:Int):SetR :=
 match L.find? fun s=>decide (s.number=n) with
 | none=>⟨L,6⟩
 | some s =>
   if out<=s.dlg.lastOut\/2147483647<out then ⟨L,180⟩
   else ⟨setS L { s with dlg:={ s.dlg with lastOut:=out } },0⟩
def hasS (L:List SubP) (n:Int):Bool:=decide (n∈L.map (·.number))
theorem find_num {L:List SubP} (hn:(L.map (·.number)).Nodup) {s:SubP} (hs:s∈L) {n:Int} (e:s.number=n):L.find? (fun q=>decide (q.number=n))=some s:=by
 subst e
 induction L with
 | nil=>cases hs
 | cons q r ih =>
   rw [List.map_cons,List.nodup_cons] at hn
   rcases List.mem_cons.1 hs with rfl|hs
   .rw [List.find?_cons_of_pos (by simp)]
   .rw [List.find?_cons_of_neg (by rw [decide_eq_true_eq];exact fun k=>hn.1 (List.mem_map.2 ⟨s,hs,Eq.symm k⟩))]
    exact ih hn.2 hs
theorem find_noneS {L:List SubP} {n:Int} (h:n∉L.map (·.number)):L.find? (fun q=>decide (q.number=n))=none:=by
 rw [List.find?_eq_none]
 intro q hq
 simpa using fun k=>h (List.mem_map.2 ⟨q,hq,k⟩)
structure SlV where
 ev:Value
 lp:Value
 lh:Value
 la:Value
 rp:Value
 rh:Value
 ra:Value
 tp:Value
 th:Value
 ro:Value
def PrM (w:World) (l:List Par) (v:Value):Prop:=RdV w 95 3 l.length v (rows parC l)
structure SubM (w:World) (s:SubP) (v:SlV):Prop where
 ev:PrM w s.ev.params v.ev
 lp:PrM w s.dlg.loc.uri.params v.lp
 lh:PrM w s.dlg.loc.uri.headers v.lh
 la:PrM w s.dlg.loc.params v.la
 rp:PrM w s.dlg.rem.uri.params v.rp
 rh:PrM w s.dlg.rem.uri.headers v.rh
 ra:PrM w s.dlg.rem.params v.ra
 tp:PrM w s.dlg.tgt.params v.tp
 th:PrM w s.dlg.tgt.headers v.th
 ro:RdV w 9 1 s.dlg.routes.length v.ro (rows noteC s.dlg.routes)
def KeepP (G:Nat->Prop) (w:World):Prop:=∀ (b:Nat) (ds:Array Value) (T:TypeId) (fr:Nat × Nat),w.heap[b]?=some (.cells ds T fr)->(T=95\/T=9)->¬G b
theorem KeepP.none (w:World):KeepP (fun _=>False) w:=fun _ _ _ _ _ _ h=>h
section
variable {w w':World} {G:Nat->Prop} {s:SubP} {v:SlV} {l:List Par} {x:Value}
theorem PrM.fr (h:PrM w l x) (hf:Fr G w w') (hk:KeepP G w):PrM w' l x:=RdV.fr h hf (fun b cs fr hb=>hk b cs _ fr hb (.inl rfl))
theorem SubM.fr (h:SubM w s v) (hf:Fr G w w') (hk:KeepP G w):SubM w' s v :=
 ⟨h.ev.fr hf hk,h.lp.fr hf hk,h.lh.fr hf hk,h.la.fr hf hk,h.rp.fr hf hk,h.rh.fr hf hk,h.ra.fr hf hk,h.tp.fr hf hk,h.th.fr hf hk,h.ro.fr hf (fun b cs fr hb=>hk b cs _ fr hb (.inr rfl))⟩
theorem SubM.below (h:SubM w s v) (hb:Below w.heap.size w w'):SubM w' s v:=h.fr (Fr.of_below (F:=fun _=>False) hb) (KeepP.none w)
theorem PrM.below (h:PrM w l x) (hb:Below w.heap.size w w'):PrM w' l x:=h.fr (Fr.of_below (F:=fun _=>False) hb) (KeepP.none w)
theorem PrM.nil (w:World):PrM w [] (.slice none 0 0):=RdV.nil _ _ _
end
def confL (c:Conf):List Value:=[.string (str c.host),.int .i64 c.calls,.int .i64 c.pubs,.int .i64 c.subs,.int .i64 c.least,.int .i64 c.most,.int .i64 c.usual]
def subA (s:SubP) (v:SlV):Array Value:=#[.int .i64 s.number,.string (str s.who),.string (str s.watcher),.string (str s.ev.name),v.ev,.int .i64 s.state,.string (str s.reason),.int .i64 s.until_,
 .string (str s.dlg.callid),.string (str s.dlg.loc.display),.string (str s.dlg.loc.uri.scheme),.string (str s.dlg.loc.uri.user),.string (str s.dlg.loc.uri.host),.int .i64 s.dlg.loc.uri.port,v.lp,v.lh,v.la,
 .string (str s.dlg.rem.display),.string (str s.dlg.rem.uri.scheme),.string (str s.dlg.rem.uri.user),.string (str s.dlg.rem.uri.host),.int .i64 s.dlg.rem.uri.port,v.rp,v.rh,v.ra,
 .string (str s.dlg.tgt.scheme),.string (str s.dlg.tgt.user),.string (str s.dlg.tgt.host),.int .i64 s.dlg.tgt.port,v.tp,v.th,v.ro,.int .i64 s.dlg.lastIn,.int .i64 s.dlg.lastOut]
structure XS where
 b:Nat
 s:SubP
 v:SlV
def QF (p bm:Nat) (xs:List XS) (FW:Nat->Prop) (k:Nat):Prop:=k=p\/k=bm\/k∈xs.map (·.b)\/FW k
def tabA (c:Conf) (last:Int) (bm pw:Nat):Array Value:=#[.string (str c.host),.int .i64 c.calls,.int .i64 c.pubs,.int .i64 c.subs,.int .i64 c.least,.int .i64 c.most,.int .i64 c.usual,.int .i64 last,.map (some bm),.pointer (some ⟨pw,0,none⟩)]
structure SbI (w:World) (p:Nat) (c:Conf) (last:Int) (xs:List XS) (l:List TM) (F:Nat->Prop) (bm pw:Nat) (km:List (Int × Value)) (FW:Nat->Prop):Prop where
 top:Blk w p 85 (tabA c last bm pw)
 mm:MapIs w bm intKey km
 mb:Born w bm
 wh:Wh w pw l FW
 its:∀ x∈xs,Blk w x.b 39 (subA x.s x.v)
 sub:∀ x∈xs,SubM w x.s x.v
 nd:(xs.map (·.b)).Nodup
 pm:km.Perm (xs.map fun x=>(x.s.number,ptr x.b))
 fm:¬FW bm
 ff:∀ k,F k<->QF p bm xs FW k
def Sb (w:World) (p:Nat) (c:Conf) (last:Int) (L:List SubP) (F:Nat->Prop):Prop:=∃ xs l bm pw km FW,xs.map (·.s)=L/\SbI w p c last xs l F bm pw km FW/\SbQ c last L l
section
variable {w w':World} {p bm pw:Nat} {c:Conf} {last:Int} {xs:List XS} {L:List SubP} {l:List TM} {F FW G:Nat->Prop} {km:List (Int × Value)}
theorem SbI.fwp (H:SbI w p c last xs l F bm pw km FW):¬FW p:=H.wh.notT H.top (by decide) (by decide) (by decide)
theorem SbI.fwx (H:SbI w p c last xs l F bm pw km FW) {x:XS} (hx:x∈xs):¬FW x.b:=H.wh.notT (H.its x hx) (by decide) (by decide) (by decide)
theorem SbI.fr (H:SbI w p c last xs l F bm pw km FW) (hf:Fr G w w') (hd:∀ k,F k->¬G k) (hk:KeepP G w):SbI w' p c last xs l F bm pw km FW:=by
 have h:∀ k,QF p bm xs FW k->¬G k:=fun k hk=>hd k ((H.ff k).2 hk)
 exact ⟨H.top.fr hf (h p (.inl rfl)),H.mm.fr hf (h bm (.inr (.inl rfl))),H.mb.fr hf (h bm (.inr (.inl rfl))),H.wh.fr hf (fun k hk=>h k (.inr (.inr (.inr hk)))),
  fun x hx=>(H.its x hx).fr hf (h x.b (.inr (.inr (.inl (List.mem_map.2 ⟨x,hx,rfl⟩))))),fun x hx=>(H.sub x hx).fr hf hk,H.nd,H.pm,H.fm,H.ff⟩
theorem Sb.fr (H:Sb w p c last L F) (hf:Fr G w w') (hd:∀ k,F k->¬G k) (hk:KeepP G w):Sb w' p c last L F:=by
 obtain ⟨xs,l,bm,pw,km,FW,e,H,Q⟩:=H
 exact ⟨xs,l,bm,pw,km,FW,e,H.fr hf hd hk,Q⟩
theorem Sb.below (H:Sb w p c last L F) (hb:Below w.heap.size w w'):Sb w' p c last L F:=H.fr (Fr.of_below (F:=fun _=>False) hb) (fun _ _ h=>h) (KeepP.none w)
theorem SbI.below (H:SbI w p c last xs l F bm pw km FW) (hb:Below w.heap.size w w'):SbI w' p c last xs l F bm pw km FW:=H.fr (Fr.of_below (F:=fun _=>False) hb) (fun _ _ h=>h) (KeepP.none w)
theorem SbI.lt (H:SbI w p c last xs l F bm pw km FW) {k:Nat} (hk:F k):k<w.heap.size:=by
 rcases (H.ff k).1 hk with rfl|rfl|hk|hk
 .exact H.top.lt
 .exact H.mm.lt
 .obtain ⟨x,hx,rfl⟩:=List.mem_map.1 hk
  exact (H.its x hx).lt
 .exact H.wh.lt hk
theorem Sb.lt (H:Sb w p c last L F) {k:Nat} (hk:F k):k<w.heap.size:=by
 obtain ⟨xs,l,bm,pw,km,FW,e,H,Q⟩:=H
 exact H.lt hk
theorem SbI.notT (H:SbI w p c last xs l F bm pw km FW) {b:Nat} {ds:Array Value} {T:TypeId} {fr:Nat × Nat} (hb:w.heap[b]?=some (.cells ds T fr)) (h1:T≠167) (h2:T≠171) (h3:T≠161) (h4:T≠85) (h5:T≠39):¬F b:=by
 intro hF
 rcases (H.ff b).1 hF with rfl|rfl|hk|hk
 .have:=H.top;unfold Blk at this;rw [hb] at this;injection this with this;injection this with _ q;exact h4 q
 .obtain ⟨es,c,h,_⟩:=H.mm;rw [hb] at h;cases h
 .obtain ⟨x,hx,rfl⟩:=List.mem_map.1 hk
  have:=H.its x hx
  unfold Blk at this;rw [hb] at this;injection this with this;injection this with _ q;exact h5 q
 .exact H.wh.notT hb h1 h2 h3 hk
theorem Sb.notT (H:Sb w p c last L F) {b:Nat} {ds:Array Value} {T:TypeId} {fr:Nat × Nat} (hb:w.heap[b]?=some (.cells ds T fr)) (h1:T≠167) (h2:T≠171) (h3:T≠161) (h4:T≠85) (h5:T≠39):¬F b:=by
 obtain ⟨xs,l,bm,pw,km,FW,e,H,Q⟩:=H
 exact H.notT hb h1 h2 h3 h4 h5
theorem SbI.keeps (H:SbI w p c last xs l F bm pw km FW):KeepP F w:=fun b ds T fr hb hT=>by
 rcases hT with rfl|rfl
 .exact H.notT hb (by decide) (by decide) (by decide) (by decide) (by decide)
 .exact H.notT hb (by decide) (by decide) (by decide) (by decide) (by decide)
theorem SbI.drewN (H:SbI w p c last xs l F bm pw km FW) (n:Nat):SbI (w.drewN n) p c last xs l F bm pw km FW :=
 H.fr ((Fr.refl (fun _=>False) w).drewN n) (fun _ _ h=>h) (KeepP.none w)
theorem SbI.keym (H:SbI w p c last xs l F bm pw km FW) (hb:((xs.map (·.s)).map (·.number)).Nodup):(km.map (·.1)).Nodup:=by
 have h:=H.pm.map (·.1)
 rw [List.map_map] at h hb
 exact (h.nodup_iff).2 hb
theorem SbI.getm (H:SbI w p c last xs l F bm pw km FW) (hb:((xs.map (·.s)).map (·.number)).Nodup) {x:XS} (hx:x∈xs):mget x.s.number km=some (ptr x.b) :=
 mget_of_mem (H.keym hb) (H.pm.mem_iff.2 (List.mem_map.2 ⟨x,hx,rfl⟩))
theorem SbI.nom (H:SbI w p c last xs l F bm pw km FW) {n:Int} (h:n∉(xs.map (·.s)).map (·.number)):mget n km=none:=by
 refine mget_none fun hm=>h ?_
 have:=(H.pm.map (·.1)).mem_iff.1 hm
 rw [List.map_map] at this ⊢
 exact this
theorem SbI.lenm (H:SbI w p c last xs l F bm pw km FW):km.length=xs.length:=by have:=H.pm.length_eq;simpa using this
theorem SbI.ne_pm (H:SbI w p c last xs l F bm pw km FW):p≠bm:=(H.mm.ne H.top).symm
theorem SbI.ne_x (H:SbI w p c last xs l F bm pw km FW) {x:XS} (hx:x∈xs):x.b≠p/\x.b≠bm/\x.b<w.heap.size :=
 ⟨(H.its x hx).ne_ H.top (by decide),(H.mm.ne (H.its x hx)).symm,(H.its x hx).lt⟩
end
section
variable {w w':World} {p bm pw:Nat} {c:Conf} {last:Int} {xs:List XS} {L:List SubP} {l l':List TM} {F FW FW' G:Nat->Prop} {km:List (Int × Value)}
theorem SbI.wheel (H:SbI w p c last xs l F bm pw km FW) (hw:Wh w' pw l' FW') (hf:Fr FW w w') (hx:Ext FW FW' w) :
 SbI w' p c last xs l' (QF p bm xs FW') bm pw km FW'/\Fr F w w'/\Ext F (QF p bm xs FW') w:=by
 have hk:KeepP FW w:=fun b ds T fr hb hT hw=>H.keeps b ds T fr hb hT ((H.ff b).2 (.inr (.inr (.inr hw))))
 refine ⟨⟨H.top.fr hf H.fwp,H.mm.fr hf H.fm,H.mb.fr hf H.fm,hw,fun x hx=>(H.its x hx).fr hf (H.fwx hx),fun x hx=>(H.sub x hx).fr hf hk,H.nd,H.pm,fun h=>?_,fun k=>Iff.rfl⟩,hf.mono (fun k _ q=>(H.ff k).2 (.inr (.inr (.inr q)))),fun k hk=>?_⟩
 .rcases hx _ h with q|q
  .exact H.fm q
  .have:=H.mm.lt;omega
 .rcases hk with q|q|q|q
  .exact .inl ((H.ff k).2 (.inl q))
  .exact .inl ((H.ff k).2 (.inr (.inl q)))
  .exact .inl ((H.ff k).2 (.inr (.inr (.inl q))))
  .rcases hx k q with r|r
   .exact .inl ((H.ff k).2 (.inr (.inr (.inr r))))
   .exact .inr r
end
theorem tick_ways (n:Int):(n<0/\tickB n=false)\/(0<=n/\549755813888<n/\tickB n=false)\/(0<=n/\n<=549755813888/\tickB n=true):=by
 unfold tickB
 by_cases h1:0<=n
 .by_cases h2:n<=549755813888
  .exact .inr (.inr ⟨h1,h2,by rw [decide_eq_true h1,decide_eq_true h2];rfl⟩)
  .exact .inr (.inl ⟨h1,by omega,by rw [decide_eq_false h2,Bool.and_false]⟩)
 .exact .inl ⟨by omega,by rw [decide_eq_false h1];rfl⟩
theorem tick_any (n:Int) (w:World):Calls Tryz.prog 34 #[.int .i64 n] w fun e w'=>e=.returned (.bool (tickB n))/\w=w':=by
 have HW:=hid (tick_ways n)
 generalize tickB n=R at *
 rcases HW.out with ⟨h1,hR⟩|⟨h1,h2,hR⟩|⟨h1,h2,hR⟩
 .have d1:decide ((0:Int)<=n)=false:=decide_eq_false (by omega)
  have q1:¬(0:Int)<=n:=by omega
  have HR:=hid hR
  clear HW hR h1
  go_enter Tryz.func34,Tryz.ntmps34
  go_wp2
  go_ret
  exact ⟨ret_bool HR.out.symm,rfl⟩
 .have d1:decide ((0:Int)<=n)=true:=decide_eq_true h1
  have d2:decide (n<=(549755813888:Int))=false:=decide_eq_false (by omega)
  have q2:¬n<=(549755813888:Int):=by omega
  have HR:=hid hR
  clear HW hR h2
  go_enter Tryz.func34,Tryz.ntmps34
  go_wp2
  go_ret
  exact ⟨ret_bool HR.out.symm,rfl⟩
 .have d1:decide ((0:Int)<=n)=true:=decide_eq_true h1
  have d2:decide (n<=(549755813888:Int))=true:=decide_eq_true h2
  have HR:=hid hR
  clear HW hR
  go_enter Tryz.func34,Tryz.ntmps34
  go_wp2
  go_ret
  exact ⟨ret_bool HR.out.symm,rfl⟩
theorem smade_any {w:World} {p pw:Nat} {a0 a1 a2 a3 a4 a5 a6 a7 a8:Value} (h:Blk w p 85 #[a0,a1,a2,a3,a4,a5,a6,a7,a8,.pointer (some ⟨pw,0,none⟩)]) :
 Calls Tryz.prog 33 #[.pointer (some ⟨p,0,none⟩)] w fun e w'=>e=.returned (.bool true)/\w=w':=by
 have hc:w.cell? ⟨p,9,none⟩=some (.pointer (some ⟨pw,0,none⟩)):=h.cell 9
 go_enter Tryz.func33,Tryz.ntmps33
 go_wp2
 go_ret
 exact ⟨rfl,rfl⟩
def SbNewPost (c:Conf) (w:World) (e:Ending) (w':World):Prop:=∃ p F,e=.returned (.tuple #[.pointer (some ⟨p,0,none⟩),.int .i64 0])/\Sb w' p c 0 [] F/\Below w.heap.size w w'/\∀ k,F k->w.heap.size<=k
structure NewS (w1 W:World) (bm pw:Nat) (FW:Nat->Prop):Prop where
 below:Below w1.heap.size w1 W
 hm:MapZ W bm
 h1:w1.heap.size<=bm
 wh:Wh W pw [] FW
 f1:¬FW bm
 hF:∀ k,FW k->w1.heap.size<=k
theorem NewS.a {w1 w3:World} {pw:Nat} {FW:Nat->Prop} (hW:Wh w3 pw [] FW) (hb:Below (w1.alloc (.map #[] 0)).heap.size (w1.alloc (.map #[] 0)) w3) (hF:∀ k,FW k->(w1.alloc (.map #[] 0)).heap.size<=k):NewS w1 w3 w1.heap.size pw FW:=by
 have hF':∀ k,FW k->w1.heap.size+1<=k:=fun k hk=>by have:=hF k hk;simp at this;omega
 exact ⟨((Below.refl _ _).alloc (Nat.le_refl _) _).trans (hb.mono (by simp)),(MapZ.made w1).below hb,by omega,hW,fun h=>by have:=hF' _ h;omega,fun k hk=>by have:=hF' _ hk;omega⟩
theorem NewS.b {w1 w3:World} {pw:Nat} {FW:Nat->Prop} (hW:Wh w3 pw [] FW) (hb:Below w1.heap.size w1 w3) (hF:∀ k,FW k->w1.heap.size<=k):NewS w1 (w3.alloc (.map #[] 0)) w3.heap.size pw FW:=by
 have hs:=hb.size
 exact ⟨hb.alloc (by omega) _,MapZ.made w3,by omega,hW.fr ((Fr.refl (fun _=>False) _).alloc _) (fun _ _ h=>h),fun h=>by have:=hW.lt h;omega,hF⟩
theorem sb_new {c:Conf} {w w1 W:World} {bm pw:Nat} {FW:Nat->Prop} (hr:rightB c=true) (hb1:Below w.heap.size w w1) (H:NewS w1 W bm pw FW) :
 SbNewPost c w (.returned (.tuple #[.pointer (some ⟨W.heap.size,0,none⟩),.int .i64 0])) (W.alloc (.cells #[.string (str c.host),.int .i64 c.calls,.int .i64 c.pubs,.int .i64 c.subs,.int .i64 c.least,.int .i64 c.most,.int .i64 c.usual,.int .i64 0,.map (some bm),.pointer (some ⟨pw,0,none⟩)] 85)):=by
 have hs1:=hb1.size
 have hs:=H.below.size
 have g1:=H.h1
 refine ⟨W.heap.size,QF W.heap.size bm [] FW,rfl,⟨[],[],bm,pw,[],FW,rfl,⟨Blk.new _ _ _,(H.hm.alloc _).is _,(H.hm.alloc _).born,H.wh.fr ((Fr.refl (fun _=>False) _).alloc _) (fun _ _ h=>h),fun x hx=>by simp at hx,fun x hx=>by simp at hx,by simp,List.Perm.refl _,H.f1,fun k=>Iff.rfl⟩,SbQ.nil hr⟩,?_,fun k hk=>?_⟩
 .exact (hb1.trans (H.below.mono hs1)).alloc (by omega) _
 .rcases hk with rfl|rfl|hk|hk
  .omega
  .omega
  .simp at hk
  .have:=H.hF k hk;omega
set_option maxRecDepth 100000 in
set_option maxHeartbeats 4000000 in
theorem sbnew_any {c:Conf} (h:rightB c=true) (w:World):Calls Tryz.prog 32 #[.agg #[.string (str c.host),.int .i64 c.calls,.int .i64 c.pubs,.int .i64 c.subs,.int .i64 c.least,.int .i64 c.most,.int .i64 c.usual]] w (SbNewPost c w):=by
 have hmm:=@run_makeMap Tryz.prog
 obtain ⟨w0,hw0⟩:∃ w0,w.alloc (.cells #[.string (str c.host),.int .i64 c.calls,.int .i64 c.pubs,.int .i64 c.subs,.int .i64 c.least,.int .i64 c.most,.int .i64 c.usual] 26)=w0:=⟨_,rfl⟩
 obtain ⟨hb,hk⟩:=conf_box hw0
 have HB:=hid hb
 have HK:=hid hk
 have HRT:=hid h
 have c0:=hk.cell 0
 have c1:=hk.cell 1
 have c2:=hk.cell 2
 have c3:=hk.cell 3
 have c4:=hk.cell 4
 have c5:=hk.cell 5
 have c6:=hk.cell 6
 have HR:=hid (right_any c)
 rw [h] at HR
 clear hb hk h
 go_enter Tryz.func32,Tryz.ntmps32
 go_wp2_with fail
 refine (HR.out _).mono ?_
 rintro e w1 ⟨rfl,hb1⟩
 have HB1:=hid (thenB_ HB.out hb1)
 have hk1:=HK.out.fr (Fr.of_below (F:=fun _=>False) hb1) (fun h=>h)
 clear hb1 c0 c1 c2 c3 c4 c5 c6
 have c0:=hk1.cell 0
 have c1:=hk1.cell 1
 have c2:=hk1.cell 2
 have c3:=hk1.cell 3
 have c4:=hk1.cell 4
 have c5:=hk1.cell 5
 have c6:=hk1.cell 6
 have HK1:=hid hk1
 clear hk1
 go_upto_region 3 with (fail)
 have HC:Hid (∀ W,Below w1.heap.size w1 W->W.cell? ⟨w.heap.size,0,none⟩=some (.string (str c.host))/\W.cell? ⟨w.heap.size,1,none⟩=some (.int .i64 c.calls)/\W.cell? ⟨w.heap.size,2,none⟩=some (.int .i64 c.pubs)/\W.cell? ⟨w.heap.size,3,none⟩=some (.int .i64 c.subs)/\W.cell? ⟨w.heap.size,4,none⟩=some (.int .i64 c.least)/\W.cell? ⟨w.heap.size,5,none⟩=some (.int .i64 c.most)/\W.cell? ⟨w.heap.size,6,none⟩=some (.int .i64 c.usual)):=hid (fun W h=>by
  have kk:=HK1.out.fr (Fr.of_below (F:=fun _=>False) h) (fun h=>h)
  exact ⟨kk.cell 0,kk.cell 1,kk.cell 2,kk.cell 3,kk.cell 4,kk.cell 5,kk.cell 6⟩)
 go_region_held3 (fun w'=>w'.cell? ⟨w.heap.size,0,none⟩=some (.string (str c.host))/\w'.cell? ⟨w.heap.size,1,none⟩=some (.int .i64 c.calls)/\w'.cell? ⟨w.heap.size,2,none⟩=some (.int .i64 c.pubs)/\w'.cell? ⟨w.heap.size,3,none⟩=some (.int .i64 c.subs)/\w'.cell? ⟨w.heap.size,4,none⟩=some (.int .i64 c.least)/\w'.cell? ⟨w.heap.size,5,none⟩=some (.int .i64 c.most)/\w'.cell? ⟨w.heap.size,6,none⟩=some (.int .i64 c.usual))
  (first|exact HC.out _ HX3.out|exact HC.out _ (HX3.out.alloc (by have:=HX3.out.size;simp;omega) _)|exact HC.out _ ((HX3.out.alloc (by have:=HX3.out.size;simp;omega) _).alloc (by have:=HX3.out.size;simp;omega) _)|exact HC.out _ (Below.refl _ _)|exact HC.out _ ((Below.refl _ _).drew)|exact HC.out _ ((Below.refl _ _).drew.alloc (Nat.le_refl _) _)) (first|(go_at_call 62;(with_reducible refine (new_any _).mono ?_);rintro e w3 ⟨pw,FW,rfl,hW,hb3,hF⟩;have HX3:Hid (Below w1.heap.size w1 w3):=hid (by first|exact thenB_ ((Below.refl _ _).drew) hb3|exact thenB_ ((Below.refl _ _).drew.alloc (Nat.le_refl _) _) hb3);have HW3:=hid hW;have HB3:=hid hb3;have HF3:=hid hF;clear hW hb3 hF))
 all_goals
  go_wp2
  go_ret2
  first
  | exact sb_new HRT.out HB1.out.drew (NewS.a (w1:=w1.drew) HW3.out HB3.out HF3.out)
  | (have q:=sb_new HRT.out HB1.out.drew (NewS.a (w1:=w1.drew) HW3.out HB3.out HF3.out)
     simpa using q)
  | exact sb_new HRT.out HB1.out.drew (NewS.b (w1:=w1.drew) HW3.out HB3.out HF3.out)
  | (have q:=sb_new HRT.out HB1.out.drew (NewS.b (w1:=w1.drew) HW3.out HB3.out HF3.out)
     simpa using q)
def putL (cs:List Value) (off:Nat) (vs:List Value):List Value:=cs.take off++vs++cs.drop (off+vs.length)
theorem blk_setCells:∀ (vs:List Value) {w:World} {g off:Nat} {t:TypeId} {cs:Array Value},Blk w g t cs->off+vs.length<=cs.size->Blk (w.setCells g off vs) g t (putL cs.toList off vs).toArray
 | [],w,g,off,t,cs,h,hs=>by
   have:(putL cs.toList off []).toArray=cs:=by unfold putL;simp
   rw [this]
   exact h
 | v::r,w,g,off,t,cs,h,hs=>by
   have hs':off+(r.length+1)<=cs.size:=hs
   have ih:=blk_setCells r (h.set_ off v) (off:=off+1) (by simp;omega)
   have e:putL (cs.setIfInBounds off v).toList (off+1) r=putL cs.toList off (v::r):=by
    unfold putL
    have h1:off<cs.toList.length:=by simp;omega
    rw [Array.toList_setIfInBounds,List.take_succ_eq_append_getElem (by simpa using h1),List.take_set_of_le (Nat.le_refl _),List.drop_set_of_lt (by omega),List.getElem_set_self]
    simp [Nat.add_comm,Nat.add_left_comm,Nat.add_assoc]
   rw [<-e]
   exact ih
theorem fr_setCells (g:Nat):∀ (vs:List Value) (off:Nat) (w:World),Fr (fun k=>k=g) w (w.setCells g off vs)
 | [],_,w=>Fr.refl _ _
 | v::r,off,w=>((Fr.refl (fun k=>k=g) w).set (p:=⟨g,off,none⟩) (fun _=>rfl) v).trans (fr_setCells g r (off+1) _) (fun _ _ e=>e)
theorem blk_range {w:World} {g off:Nat} {t:TypeId} {cs:Array Value} (h:Blk w g t cs) {xs:List Value} (hx:(cs.toList.drop off).take xs.length=xs):w.rangeAt g off xs:=fun j v hj=>by
 rw [h.cell]
 rw [<-hx,List.getElem?_take] at hj
 split at hj
 .rw [List.getElem?_drop] at hj
  simpa using hj
 .cases hj
theorem blk_there {w:World} {g off n:Nat} {t:TypeId} {cs:Array Value} (h:Blk w g t cs) (hs:off+n<=cs.size):w.there g off n:=fun j hj =>
 ⟨by rw [h.cell,Array.getElem?_eq_getElem (by omega)];rfl,h.frozen _⟩
section
variable {P:Program}
theorem wpl_load {ops:Array Oper} {rest:List Oper} {op:Oper} {a:Act} {w:World} {Q:Exit->Act->World->Prop} (hgd:op.guard=none) (ty:TypeId) (x:Operand) (ho:op.op=.load ty x)
 (g off:Nat) (hx:a.eval x=.pointer (some ⟨g,off,none⟩)) {t:TypeId} {cs:Array Value} (hk:Blk w g t cs) (xs:List Value) (hxs:(cs.toList.drop off).take xs.length=xs) (d:TypeDesc)
 (hu:P.underlying ty=some d) (hd:d.isRow=true) (hi:(P.info? ty).map (·.size)=some xs.length)
 (h:wpList P ops Q rest (a.put op.dst (.agg xs.toArray)) w):wpList P ops Q (op::rest) a w :=
 wpList_load_mid hgd ty x ho g off hx xs d (blk_range hk hxs) hu hd hi h
theorem wpl_store {ops:Array Oper} {rest:List Oper} {op:Oper} {a:Act} {w:World} {Q:Exit->Act->World->Prop} (hgd:op.guard=none) (ty:TypeId) (x y:Operand) (ho:op.op=.store ty x y)
 (g off:Nat) (hx:a.eval x=.pointer (some ⟨g,off,none⟩)) (cells:Array Value) (hy:a.eval y=.agg cells) {t:TypeId} {cs:Array Value} (hk:Blk w g t cs) (hs:off+cells.size<=cs.size) (new:Array Value) (hn:(putL cs.toList off cells.toList).toArray=new)
 (hi:(P.info? ty).map (·.size)=some cells.size) (h1:cells.all (·.oneCell')=true)
 (h:∀ w',Blk w' g t new->Fr (fun k=>k=g) w w'->wpList P ops Q rest (a.put op.dst undef) w'):wpList P ops Q (op::rest) a w :=
 wpList_store_mid hgd ty x y ho g off cells hx hy (blk_there hk hs) hi h1 (h _ (hn▸blk_setCells cells.toList hk (by simpa using hs)) (fr_setCells g _ _ _))
theorem load_blk {w:World} {g:Nat} {t ty:TypeId} {cs:Array Value} (hk:Blk w g t cs) (d:TypeDesc) (hu:P.underlying ty=some d) (hd:d.isRow=true) (hi:(P.info? ty).map (·.size)=some cs.size):(loadVar ty ⟨g,0,none⟩).run P w=.ok (.agg cs) w:=by
 have:=run_loadVar_mid (P:=P) w g 0 ty cs.toList d (blk_range hk (by rw [List.drop_zero,List.take_length])) hu hd (by simpa using hi)
 simpa using this
theorem ret_cell {fn:Func} {R:Ending->World->Prop} {a:Act} {w:World} {p:Tmp} {ty:TypeId} {g:Nat} {t:TypeId} {cs:Array Value} (hr:fn.results=#[.cell p ty]) (hp:a.tmps.getD p undef=.pointer (some ⟨g,0,none⟩)) (hd:a.defers=[]) (hk:Blk w g t cs)
 (d:TypeDesc) (hu:P.underlying ty=some d) (hrw:d.isRow=true) (hi:(P.info? ty).map (·.size)=some cs.size) (hR:R (.returned (.agg cs)) w):bodyPost P fn R .ret a w:=by
 refine bodyPost_ret (v:=.agg cs) ?_ hd hR
 have hl:=load_blk (P:=P) hk d hu hrw hi
 have e:(results fn a.tmps).run P w=((asAddr (a.tmps.getD p undef)).run P w).andThen fun a w₁=>(loadVar ty a).run P w₁:=by
  simp only [results,hr]
  simp [Sem.run_bind,Result.andThen]
 rw [e,hp]
 simp [asAddr,Result.andThen,hl]
theorem ret_cell2 {fn:Func} {R:Ending->World->Prop} {a:Act} {w:World} {p u:Tmp} {ty:TypeId} {g:Nat} {t:TypeId} {cs:Array Value} {z:Value} (hr:fn.results=#[.cell p ty,.tmp u]) (hp:a.tmps.getD p undef=.pointer (some ⟨g,0,none⟩)) (hz:a.tmps.getD u undef=z) (hd:a.defers=[]) (hk:Blk w g t cs)
 (d:TypeDesc) (hu:P.underlying ty=some d) (hrw:d.isRow=true) (hi:(P.info? ty).map (·.size)=some cs.size) (hR:R (.returned (.tuple #[.agg cs,z])) w):bodyPost P fn R .ret a w:=by
 refine bodyPost_ret (v:=.tuple #[.agg cs,z]) ?_ hd hR
 have hl:=load_blk (P:=P) hk d hu hrw hi
 rw [results_cell_tmp hr,hp,hz]
 simp [asAddr,Result.andThen,hl]
end
section
variable {P:Program} {ops:Array Oper} {Q:Exit->Act->World->Prop}
theorem stg {o:Oper} {a:Act} {w:World} {K:Act->World->Prop} {E:Prop} (ty:TypeId) (x y:Operand) (b:Nat) (cells:Array Value) {t:TypeId} {cs:Array Value} (hz:Blk w b t cs) (h1:cells.all (·.oneCell')=true)
 (h:∀ u,Blk u b t cells->Fr (fun k=>k=b) w u->K (a.put o.dst undef) u) (hw:Region.wanted o (yielded ops a.tmps)=true:=by rfl) (ho:o.op=.store ty x y:=by rfl) (hx:a.eval x=.pointer (some ⟨b,0,none⟩):=by rfl) (hy:a.eval y=.agg cells:=by rfl)
 (hs:0+cells.size<=cs.size:=by exact Nat.le_refl _) (hn:(putL cs.toList 0 cells.toList).toArray=cells:=by rfl) (hi:(P.info? ty).map (·.size)=some cells.size:=by kernel_rfl):if Region.wanted o (yielded ops a.tmps)=true then Oper.wp P o a w K Q else E:=by
 rw [if_pos hw]
 refine wp_store_mid ty x y ho b 0 cells hx hy (blk_there hz hs) hi h1 (h _ ?_ (fr_setCells b cells.toList 0 w))
 have h9:=blk_setCells cells.toList (off:=0) hz (by simpa using hs)
 rw [hn] at h9
 exact h9
end
structure TurnS (w w':World) (b pw:Nat) (s:SubP) (v:SlV) (l':List TM) (FW:Nat->Prop):Prop where
 ex:∃ F',Blk w' b 39 (subA s v)/\Wh w' pw l' F'/\Fr (fun k=>k=b\/FW k) w w'/\Ext FW F' w
def OvPost (b pw:Nat) (s:SubP) (v:SlV) (l':List TM) (FW:Nat->Prop) (w:World) (e:Ending) (w':World):Prop:=e=.returned (.tuple #[])/\TurnS w w' b pw s v l' FW
set_option maxRecDepth 100000 in
set_option maxHeartbeats 4000000 in
theorem over_any {w:World} {p b bm pw:Nat} {c:Conf} {last:Int} {s:SubP} {v:SlV} {reason:T} {l:List TM} {FW:Nat->Prop} (htop:Blk w p 85 (tabA c last bm pw)) (hb:Blk w b 39 (subA s v)) (hw:Wh w pw l FW) :
 Calls Tryz.prog 46 #[.pointer (some ⟨p,0,none⟩),.pointer (some ⟨b,0,none⟩),.string (str reason)] w (OvPost b pw (overS s reason) v (rStop l s.number) FW w):=by
 have hpb:p≠b:=htop.ne_ hb (by decide)
 have hFb:¬FW b:=hw.notT hb (by decide) (by decide) (by decide)
 have k5:w.cell? ⟨b,5,none⟩=some (.int .i64 s.state):=hb.cell 5
 have k6:w.cell? ⟨b,6,none⟩=some (.string (str s.reason)):=hb.cell 6
 have j5:=hb.frozen 5
 have j6:=hb.frozen 6
 obtain ⟨wa,hwa⟩:∃ wa,(w.setCell ⟨b,5,none⟩ (.int .i64 2)).setCell ⟨b,6,none⟩ (.string (str reason))=wa:=⟨_,rfl⟩
 have fa:Fr (fun k=>k=b) w wa:=hwa▸((Fr.refl (fun k=>k=b) w).set (p:=⟨b,5,none⟩) (fun _=>rfl) _).set (p:=⟨b,6,none⟩) (fun _=>rfl) _
 have hba:Blk wa b 39 (subA (overS s reason) v):=hwa▸blk_setCells [.int .i64 2,.string (str reason)] (off:=5) hb (show 7<=34 by omega)
 have hta:=htop.fr fa hpb
 have hwh:=hw.fr fa (fun k hk e=>hFb (e▸hk))
 have t9:wa.cell? ⟨p,9,none⟩=some (.pointer (some ⟨pw,0,none⟩)):=hta.cell 9
 have n0:wa.cell? ⟨b,0,none⟩=some (.int .i64 s.number):=hba.cell 0
 have HST:=hid (stop_any (hwh.fr ((Fr.refl (fun _=>False) wa).drew) (fun _ _ h=>h)) s.number)
 have HEND:Hid (∀ e w',StopPost pw l s.number FW wa.drew e w'->OvPost b pw (overS s reason) v (rStop l s.number) FW w (.returned (.tuple #[])) w'):=hid (fun e w' ⟨_,F',hW,hf,hx⟩=>by
  have hf':Fr FW wa w':=⟨hf.os,hf.tape,hf.output,hf.size,hf.block⟩
  exact ⟨rfl,⟨F',hba.fr hf' hFb,hW,(fa.mono fun k _ e=>.inl e).trans (G:=FW) hf' (fun k _ e=>.inr e),fun k hk=>.inl (hx k hk)⟩⟩)
 clear htop hb hw hba hta hwh fa
 generalize s.number=num at *
 go_enter Tryz.func46,Tryz.ntmps46
 go_upto_region 1 with (fail)
 clear hwa
 go_still_tail 8,(by kernel_rfl)
 go_wp2_with fail
 refine (HST.out).mono ?_
 rintro e w1 hp
 have HP:=hid (HEND.out _ w1 hp)
 obtain ⟨rfl,_⟩:=hp
 go_wp2
 go_end0
 exact HP.out
def lastsT (l:List TM) (num now n:Int):List TM:=if n=0 then rStop l num else rSetL l num (now+10*n)
set_option maxRecDepth 100000 in
set_option maxHeartbeats 4000000 in
theorem lasts_any {w:World} {p b bm pw:Nat} {c:Conf} {last now n:Int} {s:SubP} {v:SlV} {l:List TM} {FW:Nat->Prop} (htop:Blk w p 85 (tabA c last bm pw)) (hb:Blk w b 39 (subA s v)) (hw:Wh w pw l FW) (h1:0<=now) (h2:now<=549755813888) (h3:0<=n) (h4:n<=2147483647) :
 Calls Tryz.prog 38 #[.pointer (some ⟨p,0,none⟩),.pointer (some ⟨b,0,none⟩),.int .i64 now,.int .i64 n] w (OvPost b pw (lastsS s now n) v (lastsT l s.number now n) FW w):=by
 have hpb:p≠b:=htop.ne_ hb (by decide)
 have hFb:¬FW b:=hw.notT hb (by decide) (by decide) (by decide)
 have k7:w.cell? ⟨b,7,none⟩=some (.int .i64 s.until_):=hb.cell 7
 have j7:=hb.frozen 7
 obtain ⟨wa,hwa⟩:∃ wa,w.setCell ⟨b,7,none⟩ (.int .i64 (now+n*10))=wa:=⟨_,rfl⟩
 have fa:Fr (fun k=>k=b) w wa:=hwa▸(Fr.refl (fun k=>k=b) w).set (p:=⟨b,7,none⟩) (fun _=>rfl) _
 have hba:Blk wa b 39 (subA { s with until_:=now+n*10 } v):=hwa▸blk_setCells [.int .i64 (now+n*10)] (off:=7) hb (show 8<=34 by omega)
 have hta:=htop.fr fa hpb
 have hwh:=hw.fr fa (fun k hk e=>hFb (e▸hk))
 have hwr:IntKind.i64.wrap (n*10)=n*10:=IntWalk.i64_in _ (by omega)
 have hwr2:IntKind.i64.wrap (now+n*10)=now+n*10:=IntWalk.i64_in _ (by omega)
 have HFA:=hid fa
 by_cases h0:n=0
 .subst h0
  have e0:now+0*10=now:=by omega
  have hwr3:IntKind.i64.wrap now=now:=IntWalk.i64_in _ (by omega)
  rw [e0] at hwa hba
  have e1:lastsS s now 0=overS { s with until_:=now } timeoutN:=if_pos rfl
  have e2:lastsT l s.number now 0=rStop l s.number:=if_pos rfl
  have HO:=hid (over_any (reason:=timeoutN) hta hba hwh)
  have HEND:Hid (∀ w',OvPost b pw (overS { s with until_:=now } timeoutN) v (rStop l s.number) FW wa (.returned (.tuple #[])) w'->OvPost b pw (lastsS s now 0) v (lastsT l s.number now 0) FW w (.returned (.tuple #[])) w'):=hid (fun w' ⟨_,⟨F',q1,q2,q3,q4⟩⟩=>by
   rw [e1,e2]
   have hs:=HFA.out.size
   exact ⟨rfl,⟨F',q1,q2,(HFA.out.mono fun k _ e=>.inl e).trans q3 (fun k _ e=>e),fun k hk=>(q4 k hk).elim .inl (fun q=>.inr (by omega))⟩⟩)
  clear htop hb hw hba hta hwh fa h1 h2 h3 h4
  go_enter Tryz.func38,Tryz.ntmps38
  go_upto_region 2 with (fail)
  try rw [hwa]
  clear hwa
  go_wp2_with fail
  refine (HO.out).mono ?_
  rintro e w1 ⟨rfl,hp⟩
  have HP:=hid (HEND.out w1 ⟨rfl,hp⟩)
  clear hp
  go_wp2
  go_end0
  exact HP.out
 .have e1:lastsS s now n={ s with until_:=now+n*10 }:=by
   unfold lastsS
   rw [if_neg h0,show now+10*n=now+n*10 by omega]
  have e2:lastsT l s.number now n=rSetL l s.number (now+n*10):=by
   unfold lastsT
   rw [if_neg h0,show now+10*n=now+n*10 by omega]
  have q0:(n == 0)=false:=by simpa using h0
  have d0:decide (n=0)=false:=decide_eq_false h0
  have t9:wa.cell? ⟨p,9,none⟩=some (.pointer (some ⟨pw,0,none⟩)):=hta.cell 9
  have n0:wa.cell? ⟨b,0,none⟩=some (.int .i64 s.number):=hba.cell 0
  have n7:wa.cell? ⟨b,7,none⟩=some (.int .i64 (now+n*10)):=hba.cell 7
  have HST:=hid (set_any (hwh.fr ((Fr.refl (fun _=>False) wa).drew) (fun _ _ h=>h)) s.number (now+n*10))
  have HEND:Hid (∀ e w',SetPost pw l s.number (now+n*10) FW wa.drew e w'->OvPost b pw (lastsS s now n) v (lastsT l s.number now n) FW w (.returned (.tuple #[])) w'):=hid (fun e w' ⟨_,F',hW,hf,hx⟩=>by
   rw [e1,e2]
   have hf':Fr FW wa w':=⟨hf.os,hf.tape,hf.output,hf.size,hf.block⟩
   have hs:=HFA.out.size
   exact ⟨rfl,⟨F',hba.fr hf' hFb,hW,(HFA.out.mono fun k _ e=>.inl e).trans (G:=FW) hf' (fun k _ e=>.inr e),fun k hk=>(hx k hk).elim .inl (fun q=>.inr (by have q':wa.heap.size<=k:=q;omega))⟩⟩)
  clear htop hb hw hba hta hwh fa h1 h2 h3 h4 h0
  generalize s.number=num at *
  go_enter Tryz.func38,Tryz.ntmps38
  go_upto_region 3 with (fail)
  try rw [hwa]
  clear hwa
  go_still_tail 12,(by kernel_rfl)
  go_wp2_with fail
  refine (HST.out).mono ?_
  rintro e w1 hp
  have HP:=hid (HEND.out _ w1 hp)
  obtain ⟨rfl,_⟩:=hp
  go_wp2
  go_end0
  exact HP.out
section
variable {w w' w1 w2 w3:World} {p bm pw:Nat} {c:Conf} {last:Int} {xs:List XS} {L:List SubP} {l l':List TM} {F FW FW' G:Nat->Prop} {km:List (Int × Value)}
theorem SbI.turnw (H:SbI w p c last xs l F bm pw km FW) {last':Int} {xs':List XS} {km':List (Int × Value)} {b0:Nat} (hb0:b0∈xs.map (·.b)\/w.heap.size<=b0)
 (hf:Fr (fun k=>k=p\/k=bm\/k=b0\/FW k) w w') (ht:Blk w' p 85 (tabA c last' bm pw))
 (hm:MapIs w' bm intKey km') (hb:Born w' bm) (hw:Wh w' pw l' FW') (hx:Ext FW FW' w)
 (hits:∀ x∈xs',(x∈xs/\x.b≠b0)\/(x.b=b0/\Blk w' x.b 39 (subA x.s x.v)/\SubM w' x.s x.v)) (hnd:(xs'.map (·.b)).Nodup)
 (hpm:km'.Perm (xs'.map fun x=>(x.s.number,ptr x.b))) :
 SbI w' p c last' xs' l' (QF p bm xs' FW') bm pw km' FW'/\Fr F w w'/\Ext F (QF p bm xs' FW') w:=by
 have hb0F:b0<w.heap.size->F b0:=fun hlt=>by
  rcases hb0 with q|q
  .exact (H.ff b0).2 (.inr (.inr (.inl q)))
  .omega
 have hsub:∀ k,k<w.heap.size->(k=p\/k=bm\/k=b0\/FW k)->F k:=fun k hk q=>by
  rcases q with rfl|rfl|rfl|q
  .exact (H.ff _).2 (.inl rfl)
  .exact (H.ff _).2 (.inr (.inl rfl))
  .exact hb0F hk
  .exact (H.ff _).2 (.inr (.inr (.inr q)))
 have hkp:KeepP (fun k=>k=p\/k=bm\/k=b0\/FW k) w:=fun b ds T fr hb hT q=>by
  have hlt:b<w.heap.size:=(Array.getElem?_eq_some_iff.1 hb).1
  exact H.keeps b ds T fr hb hT (hsub b hlt q)
 refine ⟨⟨ht,hm,hb,hw,fun x hx'=>?_,fun x hx'=>?_,hnd,hpm,fun h=>?_,fun k=>Iff.rfl⟩,hf.mono hsub,fun k hk=>?_⟩
 .rcases hits x hx' with ⟨q,hne⟩|⟨_,q,_⟩
  .obtain ⟨a1,a2,_⟩:=H.ne_x q
   exact (H.its x q).fr hf (by
    rintro (e|e|e|e)
    .exact a1 e
    .exact a2 e
    .exact hne e
    .exact H.fwx q e)
  .exact q
 .rcases hits x hx' with ⟨q,hne⟩|⟨_,_,q⟩
  .exact (H.sub x q).fr hf hkp
  .exact q
 .rcases hx _ h with q|q
  .exact H.fm q
  .have:=H.mm.lt;omega
 .rcases hk with q|q|q|q
  .exact .inl ((H.ff k).2 (.inl q))
  .exact .inl ((H.ff k).2 (.inr (.inl q)))
  .obtain ⟨x,hx',rfl⟩:=List.mem_map.1 q
   rcases hits x hx' with ⟨q,_⟩|⟨e,_,_⟩
   .exact .inl ((H.ff _).2 (.inr (.inr (.inl (List.mem_map.2 ⟨x,q,rfl⟩)))))
   .rw [e]
    rcases hb0 with r|r
    .exact .inl ((H.ff _).2 (.inr (.inr (.inl r))))
    .exact .inr r
  .rcases hx k q with r|r
   .exact .inl ((H.ff k).2 (.inr (.inr (.inr r))))
   .exact .inr r
def putX (xs:List XS) (y:XS):List XS:=xs.map fun z=>if z.b=y.b then y else z
theorem putX_b (xs:List XS) (y:XS):(putX xs y).map (·.b)=xs.map (·.b):=by
 unfold putX
 rw [List.map_map]
 apply List.map_congr_left
 intro z hz
 show (if z.b=y.b then y else z).b=z.b
 split
 .next h=>exact h.symm
 .rfl
theorem putX_mem {y z:XS} (h:z∈putX xs y):z=y\/(z∈xs/\z.b≠y.b):=by
 obtain ⟨r,hr,rfl⟩:=List.mem_map.1 h
 by_cases hn:r.b=y.b
 .rw [if_pos hn];exact .inl rfl
 .rw [if_neg hn];exact .inr ⟨hr,hn⟩
theorem putX_s {x:XS} {s':SubP} {v':SlV} (hb:(xs.map (·.b)).Nodup) (hn:((xs.map (·.s)).map (·.number)).Nodup) (hx:x∈xs) (hs:s'.number=x.s.number):(putX xs ⟨x.b,s',v'⟩).map (·.s)=setS (xs.map (·.s)) s':=by
 unfold putX setS
 rw [List.map_map,List.map_map]
 apply List.map_congr_left
 intro z hz
 show (if z.b=x.b then (⟨x.b,s',v'⟩:XS) else z).s=if z.s.number=s'.number then s' else z.s
 rw [List.map_map] at hn
 by_cases h:z.b=x.b
 .have:=nodup_inj hb hz hx h
  subst this
  rw [if_pos rfl,if_pos hs.symm]
 .rw [if_neg h,if_neg]
  intro e
  have:=nodup_inj (f:=(fun s:SubP=>s.number)∘fun x:XS=>x.s) hn hz hx (e.trans hs)
  exact h (by rw [this])
theorem putX_k {x:XS} {s':SubP} {v':SlV} (hb:(xs.map (·.b)).Nodup) (hx:x∈xs) (hs:s'.number=x.s.number):(putX xs ⟨x.b,s',v'⟩).map (fun x=>(x.s.number,ptr x.b))=xs.map (fun x=>(x.s.number,ptr x.b)):=by
 unfold putX
 rw [List.map_map]
 apply List.map_congr_left
 intro z hz
 show ((if z.b=x.b then (⟨x.b,s',v'⟩:XS) else z).s.number,ptr (if z.b=x.b then (⟨x.b,s',v'⟩:XS) else z).b)=(z.s.number,ptr z.b)
 by_cases h:z.b=x.b
 .have:=nodup_inj hb hz hx h
  subst this
  rw [if_pos rfl]
  exact Prod.ext hs rfl
 .rw [if_neg h]
theorem SbI.put (H:SbI w p c last xs l F bm pw km FW) {x:XS} {s':SubP} {v':SlV} (hx:x∈xs) (hs:s'.number=x.s.number) (hm:SubM w' s' v') (ht:TurnS w w' x.b pw s' v' l' FW) :
 ∃ FW',SbI w' p c last (putX xs ⟨x.b,s',v'⟩) l' (QF p bm (putX xs ⟨x.b,s',v'⟩) FW') bm pw km FW'/\Fr F w w'/\Ext F (QF p bm (putX xs ⟨x.b,s',v'⟩) FW') w:=by
 obtain ⟨FW',hk,hw,hf,he⟩:=ht.ex
 obtain ⟨a1,a2,_⟩:=H.ne_x hx
 have hp:¬(p=x.b\/FW p):=by rintro (e|e);exact a1 e.symm;exact H.fwp e
 have hbm:¬(bm=x.b\/FW bm):=by rintro (e|e);exact a2 e.symm;exact H.fm e
 refine ⟨FW',H.turnw (last':=last) (b0:=x.b) (.inl (List.mem_map.2 ⟨x,hx,rfl⟩)) (hf.mono fun k _ q=>.inr (.inr q)) (H.top.fr hf hp) (H.mm.fr hf hbm) (H.mb.fr hf hbm) hw he (fun y hy=>?_) ?_ ?_⟩
 .rcases putX_mem hy with rfl|⟨q1,q2⟩
  .exact .inr ⟨rfl,hk,hm⟩
  .exact .inl ⟨q1,q2⟩
 .rw [putX_b];exact H.nd
 .rw [putX_k H.nd hx hs];exact H.pm
theorem filter_bS:∀ {xs:List XS} {x:XS},(xs.map (·.b)).Nodup->x∈xs->xs.Perm (x::xs.filter fun y=>decide (y.b≠x.b))
 | [],x,_,h=>by cases h
 | a::r,x,hn,h=>by
   rw [List.map_cons,List.nodup_cons] at hn
   rcases List.mem_cons.1 h with e|e
   .subst e
    have:(x::r).filter (fun y=>decide (y.b≠x.b))=r:=by
     rw [List.filter_cons_of_neg (by simp),List.filter_eq_self]
     intro y hy
     exact decide_eq_true fun q=>hn.1 (q▸List.mem_map.2 ⟨y,hy,rfl⟩)
    rw [this]
   .have hne:a.b≠x.b:=fun q=>hn.1 (q▸List.mem_map.2 ⟨x,e,rfl⟩)
    rw [List.filter_cons_of_pos (by simp [hne])]
    exact ((filter_bS hn.2 e).cons a).trans (List.Perm.swap _ _ _)
theorem dropX_s {x:XS} (hb:(xs.map (·.b)).Nodup) (hn:((xs.map (·.s)).map (·.number)).Nodup) (hx:x∈xs):(xs.filter fun y=>decide (y.b≠x.b)).map (·.s)=dropS (xs.map (·.s)) x.s.number:=by
 unfold dropS
 rw [List.filter_map]
 congr 1
 apply List.filter_congr
 intro z hz
 show decide (z.b≠x.b)=decide (z.s.number≠x.s.number)
 rw [List.map_map] at hn
 by_cases h:z.b=x.b
 .have:=nodup_inj hb hz hx h
  subst this
  simp
 .rw [decide_eq_true h,decide_eq_true]
  intro e
  have:=nodup_inj (f:=(fun s:SubP=>s.number)∘fun x:XS=>x.s) hn hz hx e
  exact h (by rw [this])
theorem SbI.dropx (H:SbI w p c last xs l F bm pw km FW) {x:XS} (hx:x∈xs) (hg:mget x.s.number km=some (ptr x.b)) (h1:MapIs w1 bm intKey (mdel x.s.number km)) (hb1:Born w1 bm) (f1:Fr (fun k=>k=bm) w w1) (hw:Wh w2 pw l' FW') (f2:Fr FW w1 w2) (he:Ext FW FW' w) :
 SbI w2 p c last (xs.filter fun y=>decide (y.b≠x.b)) l' (QF p bm (xs.filter fun y=>decide (y.b≠x.b)) FW') bm pw (mdel x.s.number km) FW'/\Fr F w w2/\Ext F (QF p bm (xs.filter fun y=>decide (y.b≠x.b)) FW') w:=by
 have ff:Fr (fun k=>k=bm\/FW k) w w2:=(f1.mono fun k _ e=>.inl e).trans (G:=FW) f2 (fun k _ e=>.inr e)
 have hsub:∀ y∈xs.filter (fun y=>decide (y.b≠x.b)),y∈xs/\y.b≠x.b:=fun y hy=>⟨(List.mem_filter.1 hy).1,of_decide_eq_true (List.mem_filter.1 hy).2⟩
 refine H.turnw (last':=last) (b0:=x.b) (.inl (List.mem_map.2 ⟨x,hx,rfl⟩)) (ff.mono fun k _ q=>q.elim (fun e=>.inr (.inl e)) (fun e=>.inr (.inr (.inr e)))) (H.top.fr ff (by rintro (e|e);exact H.ne_pm e;exact H.fwp e)) (h1.fr f2 H.fm) (hb1.fr f2 H.fm) hw he (fun y hy=>.inl (hsub y hy)) (H.nd.sublist (List.filter_sublist.map _)) ?_
 exact List.Perm.cons_inv ((mdel_perm hg).trans (H.pm.trans ((filter_bS H.nd hx).map fun x=>(x.s.number,ptr x.b))))
end
theorem zsub (w:World):(zeroValue 92).run Tryz.prog w=.ok (.pointer none) w:=by kernel_rfl
def TabTo (p:Nat) (c:Conf) (last':Int) (L':List SubP) (F:Nat->Prop) (w w':World):Prop:=∃ F',Sb w' p c last' L' F'/\Fr F w w'/\Ext F F' w
def DrpPost (p:Nat) (c:Conf) (last:Int) (L:List SubP) (n:Int) (F:Nat->Prop) (w:World) (e:Ending) (w':World):Prop:=e=.returned (.bool (hasS L n))/\TabTo p c last (dropS L n) F w w'
set_option maxRecDepth 100000 in
set_option maxHeartbeats 4000000 in
theorem sdrop_any {w:World} {p:Nat} {c:Conf} {last:Int} {L:List SubP} {F:Nat->Prop} (H:Sb w p c last L F) (n:Int) :
 Calls Tryz.prog 20 #[.pointer (some ⟨p,0,none⟩),.int .i64 n] w (DrpPost p c last L n F w):=by
 obtain ⟨xs,l,bm,pw,km,FW,rfl,H,Q⟩:=H
 have hm:=hid (smade_any (pw:=pw) H.top)
 have k8:w.cell? ⟨p,8,none⟩=some (.map (some bm)):=H.top.cell 8
 have hlk:=H.mm.lookup (T:=82) (E:=92) (intLaw Tryz.underlying3) Tryz.underlying82 (zsub w) n true
 obtain ⟨w1,hd1,h1,f1⟩:=H.mm.delete (intLaw Tryz.underlying3) Tryz.underlying82 n 3 0
 have hb1:=H.mb.delete H.mm (intLaw Tryz.underlying3) Tryz.underlying82 n 3 0 hd1
 have hd1':(Builtin.delete_ #[82,3] 0 #[.map (some bm),.int .i64 n]).run Tryz.prog w=.ok (.tuple #[]) w1:=hd1
 have ht1:=H.top.fr f1 H.ne_pm
 have i9:w1.cell? ⟨p,9,none⟩=some (.pointer (some ⟨pw,0,none⟩)):=ht1.cell 9
 have hw1:=H.wh.fr f1 (fun k hk e=>H.fm (e▸hk))
 have HST:=hid (stop_any hw1 n)
 have hnd:=subs_idnd Q.ids
 by_cases hin:n∈(xs.map (·.s)).map (·.number)
 .obtain ⟨x,hx,hxn⟩:∃ x∈xs,x.s.number=n:=by
   rw [List.map_map] at hin
   exact List.mem_map.1 hin
  subst hxn
  have hg:=H.getm hnd hx
  have hlk':(Instr.lookup 82 (.map (some bm)) (.int .i64 x.s.number) true).run Tryz.prog w=.ok (.tuple #[.pointer (some ⟨x.b,0,none⟩),.bool true]) w:=by rw [hg] at hlk;exact hlk
  have HEND:Hid (∀ e w3,StopPost pw l x.s.number FW w1 e w3->DrpPost p c last (xs.map (·.s)) x.s.number F w (.returned (.bool true)) w3):=hid (fun e w3 ⟨_,FW',hw,f3,hs⟩=>by
   obtain ⟨a,b,d⟩:=H.dropx hx hg h1 hb1 f1 hw f3 (fun k hk=>.inl (hs k hk))
   exact ⟨by unfold hasS;rw [decide_eq_true hin],_,⟨_,_,_,_,_,_,dropX_s H.nd hnd hx,a,Q.drop _⟩,b,d⟩)
  clear hlk hd1 h1 hb1 f1 ht1 hw1 hg hx hin hnd H Q
  generalize x.s.number=num at *
  go_enter Tryz.func20,Tryz.ntmps20
  go_wp2_with fail
  refine (hm.out).mono ?_
  rintro e w' ⟨rfl,rfl⟩
  go_wp2_with fail
  refine (HST.out).mono ?_
  rintro e w3 hp
  have HP:=hid (HEND.out _ w3 hp)
  obtain ⟨rfl,_⟩:=hp
  go_wp2
  go_ret
  exact HP.out
 .have hg:=H.nom hin
  have hlk':(Instr.lookup 82 (.map (some bm)) (.int .i64 n) true).run Tryz.prog w=.ok (.tuple #[.pointer none,.bool false]) w:=by rw [hg] at hlk;exact hlk
  have HEND:Hid (∀ e w3,StopPost pw l n FW w1 e w3->DrpPost p c last (xs.map (·.s)) n F w (.returned (.bool false)) w3):=hid (fun e w3 ⟨_,FW',hw,f3,hs⟩=>by
   rw [mdel_none hg] at h1
   have ff:Fr (fun k=>k=bm\/FW k) w w3:=(f1.mono fun k _ e=>.inl e).trans (G:=FW) f3 (fun k _ e=>.inr e)
   obtain ⟨a,b,d⟩:=H.turnw (last':=last) (xs':=xs) (b0:=w.heap.size) (.inr (Nat.le_refl _)) (ff.mono fun k _ q=>q.elim (fun e=>.inr (.inl e)) (fun e=>.inr (.inr (.inr e)))) (H.top.fr ff (by rintro (e|e);exact H.ne_pm e;exact H.fwp e)) (h1.fr f3 H.fm) (hb1.fr f3 H.fm) hw (fun k hk=>.inl (hs k hk)) (fun y hy=>.inl ⟨hy,by have:=(H.its y hy).lt;omega⟩) H.nd H.pm
   have ed:dropS (xs.map (·.s)) n=xs.map (·.s):=by
    unfold dropS
    rw [List.filter_eq_self]
    intro s hs
    exact decide_eq_true fun e=>hin (List.mem_map.2 ⟨s,hs,e⟩)
   have q:=Q.drop n
   refine ⟨by unfold hasS;rw [decide_eq_false hin],_,⟨_,_,_,_,_,_,?_,a,q⟩,b,d⟩
   rw [ed])
  clear hlk hd1 h1 hb1 f1 ht1 hw1 hg hin hnd H Q
  go_enter Tryz.func20,Tryz.ntmps20
  go_wp2_with fail
  refine (hm.out).mono ?_
  rintro e w' ⟨rfl,rfl⟩
  go_wp2_with fail
  refine (HST.out).mono ?_
  rintro e w3 hp
  have HP:=hid (HEND.out _ w3 hp)
  obtain ⟨rfl,_⟩:=hp
  go_wp2
  go_ret
  exact HP.out
end Go.Proofs.YthkadehlclcggaaGreatDoor
