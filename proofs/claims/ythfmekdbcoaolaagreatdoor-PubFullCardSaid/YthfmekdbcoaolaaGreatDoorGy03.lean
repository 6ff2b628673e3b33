/- Chapter 16 in plain Lean: documents; which may be. Chapter 16: the store of publications as an object. Chapter 16: how the store's memory goes on: a publication is laid, changed, taken away. Chapter 16 in plain Lean: what Do and Expire do to the list. -/
import Derived.Test.YthfmekdbcoaolaaGreatDoorGy02
import Derived.Lib.SlTrimSet
import Derived.Test.YthfmekdbcoaolaaGreatDoorGy12
import Derived.Test.YthfmekdbcoaolaaGreatDoorGy13
import Derived.Lib.SlicesCompact
namespace Go.Proofs.YthfmekdbcoaolaaGreatDoor
set_option linter.unusedSimpArgs false
set_option linter.unusedVariables false
open Go.RowKit
structure Tup where
 id:T
 opn:Bool
 contact:T
 prio:Int
 note:T
def tupC (t:Tup):List Value:=[.string (str t.id),.bool t.opn,.string (str t.contact),.int .i64 t.prio,.string (str t.note)]
theorem tupC_len (t:Tup):(tupC t).length=5:=rfl
instance:DecidableEq Tup:=fun p q=>decidable_of_iff (p.id=q.id/\p.opn=q.opn/\p.contact=q.contact/\p.prio=q.prio/\p.note=q.note) (by
 obtain ⟨a1,a2,a3,a4,a5⟩:=p
 obtain ⟨b1,b2,b3,b4,b5⟩:=q
 simp)
structure DocP where
 ent:T
 tups:List Tup
 notes:List T
def noteC (s:T):List Value:=[.string (str s)]
theorem noteC_len (s:T):(noteC s).length=1:=rfl
def blaN:List UInt8:=[32,9,13,10]
def sgnB (c:UInt8):Bool:=!((decide (c<32)&&!decide (c=9)&&!decide (c=13)&&!decide (c=10)) || decide (c=127))
def edgeB (s:T):Bool:=decide (Lib.trimS s blaN=s)
def textB (s:T):Bool:=decide (s.length<=128)&&s.all sgnB&&edgeB s
def visB (c:UInt8):Bool:=decide (33<=c)&&decide (c<=126)
def identB (s:T):Bool:=decide (1<=s.length)&&decide (s.length<=64)&&s.all visB
def tupB (t:Tup):Bool:=identB t.id&&textB t.contact&&textB t.note&&decide (-1<=t.prio)&&decide (t.prio<=1000)&&(decide (t.contact≠[]) || decide (t.prio=-1))
def noteB (s:T):Bool:=decide (s≠[])&&textB s
def idsNd (l:List Tup):Bool:=decide ((l.map (·.id)).Nodup)
def docB (d:DocP):Bool:=nameB d.ent&&decide (d.tups.length<=16)&&decide (d.notes.length<=16)&&d.tups.all tupB&&idsNd d.tups&&d.notes.all noteB
def docE (d:DocP):Int:=if docB d=true then 0 else 140
def TupTo (l:List Tup) (j:Nat):Prop:=(∀ t∈l.take j,tupB t=true)/\((l.take j).map (·.id)).Nodup
theorem TupTo.zero (l:List Tup):TupTo l 0:=⟨by simp,by simp⟩
theorem TupTo.step {l:List Tup} {j:Nat} (h:TupTo l j) (hj:j<l.length) (ht:tupB l[j]=true) (hn:l[j].id∉(l.take j).map (·.id)):TupTo l (j+1):=by
 unfold TupTo
 rw [List.take_succ_eq_append_getElem hj]
 refine ⟨fun t hm=>?_,?_⟩
 .rcases List.mem_append.1 hm with q|q
  .exact h.1 t q
  .simp at q;subst q;exact ht
 .rw [List.map_append,List.nodup_append]
  refine ⟨h.2,by simp,fun a ha b hb e=>?_⟩
  simp at hb
  subst hb
  exact hn (e▸ha)
theorem TupTo.all {l:List Tup} (h:TupTo l l.length):l.all tupB=true/\idsNd l=true:=by
 unfold TupTo at h
 rw [List.take_length] at h
 exact ⟨List.all_eq_true.2 h.1,decide_eq_true h.2⟩
theorem tup_bad {l:List Tup} {j:Nat} (hj:j<l.length) (ht:tupB l[j]=false):l.all tupB=false:=by
 rw [List.all_eq_false]
 exact ⟨_,List.getElem_mem hj,by rw [ht];decide⟩
theorem ids_bad {l:List Tup} {j:Nat} (hj:j<l.length) (hn:l[j].id∈(l.take j).map (·.id)):idsNd l=false:=by
 refine decide_eq_false fun hnd=>?_
 obtain ⟨t,ht,e⟩:=List.mem_map.1 hn
 obtain ⟨i,hi,rfl⟩:=List.mem_take_iff_getElem.1 ht
 have hp:=List.pairwise_iff_getElem.1 (List.nodup_iff_pairwise_ne.1 hnd) i j (by simp;omega) (by simpa using hj) (by omega)
 apply hp
 simpa using e
theorem docE_tup {d:DocP} (h:d.tups.all tupB=false\/idsNd d.tups=false):docE d=140:=by
 unfold docE docB
 rcases h with h|h <;> simp [h]
theorem docE_head {d:DocP} (h:¬(nameB d.ent=true/\d.tups.length<=16/\d.notes.length<=16)):docE d=140:=by
 unfold docE docB
 rw [if_neg]
 intro q
 simp only [Bool.and_eq_true,decide_eq_true_eq] at q
 exact h ⟨q.1.1.1.1.1,q.1.1.1.1.2,q.1.1.1.2⟩
theorem docE_note {d:DocP} {j:Nat} (hj:j<d.notes.length) (h:noteB d.notes[j]=false):docE d=140:=by
 have:d.notes.all noteB=false:=by
  rw [List.all_eq_false]
  exact ⟨_,List.getElem_mem hj,by rw [h];decide⟩
 unfold docE docB
 simp [this]
theorem docE_ok {d:DocP} (h1:nameB d.ent=true) (h2:d.tups.length<=16) (h3:d.notes.length<=16) (h4:d.tups.all tupB=true) (h5:idsNd d.tups=true) (h6:d.notes.all noteB=true):docE d=0:=by
 unfold docE docB
 rw [if_pos]
 simp [h1,h2,h3,h4,h5,h6]
structure Pub where
 number:Int
 who:T
 tag:T
 until_:Int
 doc:DocP
structure Conf where
 host:T
 calls:Int
 pubs:Int
 subs:Int
 least:Int
 most:Int
 usual:Int
def rightB (c:Conf):Bool:=decide (1<=c.pubs)&&decide (c.pubs<=200)&&decide (1<=c.subs)&&decide (c.subs<=200)&&decide (1<=c.calls)&&decide (c.calls<=200)&&decide (1<=c.least)&&decide (c.least<=c.usual)&&decide (c.usual<=c.most)&&decide (c.most<=2147483647)
def secN (c:Conf) (a:Int):Int:=if a<0 then c.usual else if c.most<a then c.most else a
def secK (c:Conf) (a:Int):Bool:=decide (a<0) || decide (c.most<a) || decide (a=0) || decide (c.least<=a)
def tokB (s:T):Bool:=decide (1<=s.length)&&decide (s.length<=64)&&s.all tok
structure AskP where
 who:T
 mtch:T
 exp:Int
 has:Bool
 doc:DocP
 tag:T
structure ToldP where
 status:Int
 exp:Int
 tag:T
 changed:Bool
def noTold:ToldP:=⟨0,0,[],false⟩
def argE (L:List Pub) (now:Int) (a:AskP):Bool:=decide (now<0) || decide (549755813888<now) || !tokB a.tag || (L.map (·.tag)).contains a.tag || (a.has&&decide (docE a.doc≠0))
structure DoR where
 last:Int
 L:List Pub
 told:ToldP
 err:Int
def putP (p:Pub) (a:AskP) (now n:Int):Pub:=⟨p.number,p.who,a.tag,now+10*n,if a.has then a.doc else p.doc⟩
def doR (c:Conf) (last:Int) (L:List Pub) (now:Int) (a:AskP):DoR :=
 if argE L now a=true then ⟨last,L,noTold,1⟩
 else if a.mtch=[] then
  if secK c a.exp=false then ⟨last,L,⟨423,c.least,[],false⟩,0⟩
  else if a.has=false\/secN c a.exp=0 then ⟨last,L,⟨400,0,[],false⟩,0⟩
  else if c.pubs<=L.length then ⟨last,L,⟨503,0,[],false⟩,0⟩
  else ⟨last+1,L++[⟨last+1,a.who,a.tag,now+10*secN c a.exp,a.doc⟩],⟨200,secN c a.exp,a.tag,true⟩,0⟩
 else match L.find? (fun p=>decide (p.tag=a.mtch)) with
  | none=>⟨last,L,⟨412,0,[],false⟩,0⟩
  | some p =>
    if p.who≠a.who then ⟨last,L,⟨412,0,[],false⟩,0⟩
    else if secK c a.exp=false then ⟨last,L,⟨423,c.least,[],false⟩,0⟩
    else if a.has=true/\secN c a.exp=0 then ⟨last,L,⟨400,0,[],false⟩,0⟩
    else if secN c a.exp=0 then ⟨last,L.filter (fun q=>decide (q.tag≠a.mtch)),⟨200,0,a.tag,true⟩,0⟩
    else ⟨last,L.map (fun q=>if q.tag=a.mtch then putP q a now (secN c a.exp) else q),⟨200,secN c a.exp,a.tag,a.has⟩,0⟩
structure DocM (w:World) (d:DocP) (vt vn:Value):Prop where
 t:RdV w 115 5 d.tups.length vt (rows tupC d.tups)
 n:RdV w 9 1 d.notes.length vn (rows noteC d.notes)
def Keeps (G:Nat->Prop) (w:World):Prop:=∀ (b:Nat) (ds:Array Value) (T:TypeId) (fr:Nat × Nat),w.heap[b]?=some (.cells ds T fr)->(T=115\/T=9)->¬G b
theorem Keeps.none (w:World):Keeps (fun _=>False) w:=fun _ _ _ _ _ _ h=>h
theorem DocM.fr {w w':World} {d:DocP} {vt vn:Value} {G:Nat->Prop} (h:DocM w d vt vn) (hf:Fr G w w') (hk:Keeps G w):DocM w' d vt vn :=
 ⟨h.t.fr hf (fun b cs fr hb=>hk b cs _ fr hb (.inl rfl)),h.n.fr hf (fun b cs fr hb=>hk b cs _ fr hb (.inr rfl))⟩
theorem DocM.below {w w':World} {d:DocP} {vt vn:Value} (h:DocM w d vt vn) (hb:Below w.heap.size w w'):DocM w' d vt vn:=⟨h.t.below hb,h.n.below hb⟩
structure XP where
 b:Nat
 p:Pub
 vt:Value
 vn:Value
def pubA (x:XP):Array Value:=#[.int .i64 x.p.number,.string (str x.p.who),.string (str x.p.tag),.int .i64 x.p.until_,.string (str x.p.doc.ent),x.vt,x.vn]
def PF (p bl bt:Nat) (xs:List XP) (FW:Nat->Prop) (k:Nat):Prop:=k=p\/k=bl\/k=bt\/k∈xs.map (·.b)\/FW k
structure StI (w:World) (p:Nat) (c:Conf) (last:Int) (xs:List XP) (l:List TM) (F:Nat->Prop) (bl bt pw:Nat) (kl:List (Int × Value)) (kt:List (ByteArray × Value)) (FW:Nat->Prop):Prop where
 top:Blk w p 55 #[.string (str c.host),.int .i64 c.calls,.int .i64 c.pubs,.int .i64 c.subs,.int .i64 c.least,.int .i64 c.most,.int .i64 c.usual,.int .i64 last,.map (some bl),.map (some bt),.pointer (some ⟨pw,0,none⟩)]
 lm:MapIs w bl intKey kl
 lb:Born w bl
 tm:MapIs w bt strKey kt
 wh:Wh w pw l FW
 its:∀ x∈xs,Blk w x.b 66 (pubA x)
 doc:∀ x∈xs,DocM w x.p.doc x.vt x.vn
 nd:(xs.map (·.b)).Nodup
 pl:kl.Perm (xs.map fun x=>(x.p.number,ptr x.b))
 pt:kt.Perm (xs.map fun x=>(str x.p.tag,.int .i64 x.p.number))
 dn:bl≠bt
 fl:¬FW bl
 ft:¬FW bt
 ff:∀ k,F k<->PF p bl bt xs FW k
structure StQ (c:Conf) (last:Int) (L:List Pub) (l:List TM):Prop where
 right:rightB c=true
 ids:L.Pairwise fun a b=>a.number<b.number
 low:∀ p∈L,1<=p.number/\p.number<=last
 last:0<=last
 tags:(L.map (·.tag)).Nodup
 tok:∀ p∈L,tokB p.tag=true
 len:L.length<=c.pubs
 time:∀ p∈L,0<=p.until_/\p.until_<=1099511627776
 docs:∀ p∈L,docE p.doc=0
 lp:l.Perm (L.map fun p=>(p.until_,p.number))
def St (w:World) (p:Nat) (c:Conf) (last:Int) (L:List Pub) (F:Nat->Prop):Prop:=∃ xs l bl bt pw kl kt FW,xs.map (·.p)=L/\StI w p c last xs l F bl bt pw kl kt FW/\StQ c last L l
section
variable {w w':World} {p bl bt pw:Nat} {c:Conf} {last:Int} {xs:List XP} {L:List Pub} {l:List TM} {F FW G:Nat->Prop} {kl:List (Int × Value)} {kt:List (ByteArray × Value)}
theorem StQ.pubs (H:StQ c last L l):1<=c.pubs/\c.pubs<=200:=by
 have h:=H.right
 unfold rightB at h
 simp only [Bool.and_eq_true,decide_eq_true_eq] at h
 exact ⟨h.1.1.1.1.1.1.1.1.1,h.1.1.1.1.1.1.1.1.2⟩
theorem StQ.nil (h:rightB c=true) (hl:0<=last):StQ c last [] []:=by
 refine ⟨h,List.Pairwise.nil,by simp,hl,by simp,by simp,?_,by simp,by simp,List.Perm.refl _⟩
 unfold rightB at h
 simp only [Bool.and_eq_true,decide_eq_true_eq] at h
 have:=h.1.1.1.1.1.1.1.1.1
 simp
 omega
theorem StI.fwp (H:StI w p c last xs l F bl bt pw kl kt FW):¬FW p:=H.wh.notT H.top (by decide) (by decide) (by decide)
theorem StI.fwx (H:StI w p c last xs l F bl bt pw kl kt FW) {x:XP} (hx:x∈xs):¬FW x.b:=H.wh.notT (H.its x hx) (by decide) (by decide) (by decide)
theorem StI.fr (H:StI w p c last xs l F bl bt pw kl kt FW) (hf:Fr G w w') (hd:∀ k,F k->¬G k) (hk:Keeps G w):StI w' p c last xs l F bl bt pw kl kt FW:=by
 have h:∀ k,PF p bl bt xs FW k->¬G k:=fun k hk=>hd k ((H.ff k).2 hk)
 exact ⟨H.top.fr hf (h p (.inl rfl)),H.lm.fr hf (h bl (.inr (.inl rfl))),H.lb.fr hf (h bl (.inr (.inl rfl))),H.tm.fr hf (h bt (.inr (.inr (.inl rfl)))),H.wh.fr hf (fun k hk=>h k (.inr (.inr (.inr (.inr hk))))),
  fun x hx=>(H.its x hx).fr hf (h x.b (.inr (.inr (.inr (.inl (List.mem_map.2 ⟨x,hx,rfl⟩)))))),fun x hx=>(H.doc x hx).fr hf hk,H.nd,H.pl,H.pt,H.dn,H.fl,H.ft,H.ff⟩
theorem St.fr (H:St w p c last L F) (hf:Fr G w w') (hd:∀ k,F k->¬G k) (hk:Keeps G w):St w' p c last L F:=by
 obtain ⟨xs,l,bl,bt,pw,kl,kt,FW,e,H,Q⟩:=H
 exact ⟨xs,l,bl,bt,pw,kl,kt,FW,e,H.fr hf hd hk,Q⟩
theorem St.below (H:St w p c last L F) (hb:Below w.heap.size w w'):St w' p c last L F:=H.fr (Fr.of_below (F:=fun _=>False) hb) (fun _ _ h=>h) (Keeps.none w)
theorem StI.lt (H:StI w p c last xs l F bl bt pw kl kt FW) {k:Nat} (hk:F k):k<w.heap.size:=by
 rcases (H.ff k).1 hk with rfl|rfl|rfl|hk|hk
 .exact H.top.lt
 .exact H.lm.lt
 .exact H.tm.lt
 .obtain ⟨x,hx,rfl⟩:=List.mem_map.1 hk
  exact (H.its x hx).lt
 .exact H.wh.lt hk
theorem St.lt (H:St w p c last L F) {k:Nat} (hk:F k):k<w.heap.size:=by
 obtain ⟨xs,l,bl,bt,pw,kl,kt,FW,e,H,Q⟩:=H
 exact H.lt hk
theorem StI.notT (H:StI w p c last xs l F bl bt pw kl kt FW) {b:Nat} {ds:Array Value} {T:TypeId} {fr:Nat × Nat} (hb:w.heap[b]?=some (.cells ds T fr)) (h1:T≠124) (h2:T≠130) (h3:T≠131) (h4:T≠55) (h5:T≠66):¬F b:=by
 intro hF
 rcases (H.ff b).1 hF with rfl|rfl|rfl|hk|hk
 .have:=H.top;unfold Blk at this;rw [hb] at this;injection this with this;injection this with _ q;exact h4 q
 .obtain ⟨es,c,h,_⟩:=H.lm;rw [hb] at h;cases h
 .obtain ⟨es,c,h,_⟩:=H.tm;rw [hb] at h;cases h
 .obtain ⟨x,hx,rfl⟩:=List.mem_map.1 hk
  have:=H.its x hx
  unfold Blk at this;rw [hb] at this;injection this with this;injection this with _ q;exact h5 q
 .exact H.wh.notT hb h1 h2 h3 hk
theorem St.notT (H:St w p c last L F) {b:Nat} {ds:Array Value} {T:TypeId} {fr:Nat × Nat} (hb:w.heap[b]?=some (.cells ds T fr)) (h1:T≠124) (h2:T≠130) (h3:T≠131) (h4:T≠55) (h5:T≠66):¬F b:=by
 obtain ⟨xs,l,bl,bt,pw,kl,kt,FW,e,H,Q⟩:=H
 exact H.notT hb h1 h2 h3 h4 h5
theorem StI.keeps (H:StI w p c last xs l F bl bt pw kl kt FW):Keeps F w:=fun b ds T fr hb hT=>by
 rcases hT with rfl|rfl
 .exact H.notT hb (by decide) (by decide) (by decide) (by decide) (by decide)
 .exact H.notT hb (by decide) (by decide) (by decide) (by decide) (by decide)
theorem StI.drewN (H:StI w p c last xs l F bl bt pw kl kt FW) (n:Nat):StI (w.drewN n) p c last xs l F bl bt pw kl kt FW :=
 H.fr ((Fr.refl (fun _=>False) w).drewN n) (fun _ _ h=>h) (Keeps.none w)
theorem pubs_idnd (h:L.Pairwise fun a b=>a.number<b.number):(L.map (·.number)).Nodup:=by
 rw [List.nodup_iff_pairwise_ne,List.pairwise_map]
 exact h.imp fun h=>by omega
theorem StI.keyl (H:StI w p c last xs l F bl bt pw kl kt FW) (hb:((xs.map (·.p)).map (·.number)).Nodup):(kl.map (·.1)).Nodup:=by
 have h:=H.pl.map (·.1)
 rw [List.map_map] at h hb
 exact (h.nodup_iff).2 hb
theorem str_nodup {l:List Pub} (h:(l.map (·.tag)).Nodup):(l.map fun p=>str p.tag).Nodup:=by
 rw [List.nodup_iff_pairwise_ne,List.pairwise_map] at h ⊢
 exact h.imp fun h e=>h (str_inj e)
theorem StI.keyt (H:StI w p c last xs l F bl bt pw kl kt FW) (hb:((xs.map (·.p)).map (·.tag)).Nodup):(kt.map (·.1)).Nodup:=by
 have h:=H.pt.map (·.1)
 have hb:=str_nodup hb
 rw [List.map_map] at h hb
 exact (h.nodup_iff).2 hb
theorem StI.getl (H:StI w p c last xs l F bl bt pw kl kt FW) (hb:((xs.map (·.p)).map (·.number)).Nodup) {x:XP} (hx:x∈xs):mget x.p.number kl=some (ptr x.b) :=
 mget_of_mem (H.keyl hb) (H.pl.mem_iff.2 (List.mem_map.2 ⟨x,hx,rfl⟩))
theorem StI.gett (H:StI w p c last xs l F bl bt pw kl kt FW) (hb:((xs.map (·.p)).map (·.tag)).Nodup) {x:XP} (hx:x∈xs):mget (str x.p.tag) kt=some (.int .i64 x.p.number) :=
 mget_of_mem (H.keyt hb) (H.pt.mem_iff.2 (List.mem_map.2 ⟨x,hx,rfl⟩))
theorem StI.nol (H:StI w p c last xs l F bl bt pw kl kt FW) {n:Int} (h:n∉(xs.map (·.p)).map (·.number)):mget n kl=none:=by
 refine mget_none fun hm=>h ?_
 have:=(H.pl.map (·.1)).mem_iff.1 hm
 rw [List.map_map] at this ⊢
 exact this
theorem StI.not_ (H:StI w p c last xs l F bl bt pw kl kt FW) {t:T} (h:t∉(xs.map (·.p)).map (·.tag)):mget (str t) kt=none:=by
 refine mget_none fun hm=>h ?_
 have:=(H.pt.map (·.1)).mem_iff.1 hm
 rw [List.map_map] at this
 obtain ⟨x,hx,e⟩:=List.mem_map.1 this
 exact List.mem_map.2 ⟨x.p,List.mem_map.2 ⟨x,hx,rfl⟩,str_inj e⟩
theorem StI.lenl (H:StI w p c last xs l F bl bt pw kl kt FW):kl.length=xs.length:=by have:=H.pl.length_eq;simpa using this
end
section
variable {w w' w1 w2 w3 w4 w5:World} {p bl bt pw:Nat} {c:Conf} {last:Int} {xs:List XP} {L:List Pub} {l l':List TM} {F FW FW' G:Nat->Prop} {kl:List (Int × Value)} {kt:List (ByteArray × Value)}
theorem StI.ne_pl (H:StI w p c last xs l F bl bt pw kl kt FW):p≠bl:=(H.lm.ne H.top).symm
theorem StI.ne_pt (H:StI w p c last xs l F bl bt pw kl kt FW):p≠bt:=(H.tm.ne H.top).symm
theorem StI.ne_x (H:StI w p c last xs l F bl bt pw kl kt FW) {x:XP} (hx:x∈xs):x.b≠p/\x.b≠bl/\x.b≠bt/\x.b<w.heap.size :=
 ⟨(H.its x hx).ne_ H.top (by decide),(H.lm.ne (H.its x hx)).symm,(H.tm.ne (H.its x hx)).symm,(H.its x hx).lt⟩
theorem StI.wheel (H:StI w p c last xs l F bl bt pw kl kt FW) (hw:Wh w' pw l' FW') (hf:Fr FW w w') (hx:Ext FW FW' w) :
 StI w' p c last xs l' (PF p bl bt xs FW') bl bt pw kl kt FW'/\Fr F w w'/\Ext F (PF p bl bt xs FW') w:=by
 have hk:Keeps FW w:=fun b ds T fr hb hT hw=>H.keeps b ds T fr hb hT ((H.ff b).2 (.inr (.inr (.inr (.inr hw)))))
 refine ⟨⟨H.top.fr hf H.fwp,H.lm.fr hf H.fl,H.lb.fr hf H.fl,H.tm.fr hf H.ft,hw,fun x hx=>(H.its x hx).fr hf (H.fwx hx),fun x hx=>(H.doc x hx).fr hf hk,H.nd,H.pl,H.pt,H.dn,fun h=>?_,fun h=>?_,fun k=>Iff.rfl⟩,hf.mono (fun k _ q=>(H.ff k).2 (.inr (.inr (.inr (.inr q))))),fun k hk=>?_⟩
 .rcases hx _ h with q|q
  .exact H.fl q
  .have:=H.lm.lt;omega
 .rcases hx _ h with q|q
  .exact H.ft q
  .have:=H.tm.lt;omega
 .rcases hk with q|q|q|q|q
  .exact .inl ((H.ff k).2 (.inl q))
  .exact .inl ((H.ff k).2 (.inr (.inl q)))
  .exact .inl ((H.ff k).2 (.inr (.inr (.inl q))))
  .exact .inl ((H.ff k).2 (.inr (.inr (.inr (.inl q)))))
  .rcases hx k q with r|r
   .exact .inl ((H.ff k).2 (.inr (.inr (.inr (.inr r)))))
   .exact .inr r
end
section
variable {c:Conf} {last:Int} {L:List Pub} {l:List TM}
theorem StQ.wnd (H:StQ c last L l):(l.map (·.2)).Nodup:=by
 have h1:(l.map (·.2)).Perm (L.map (·.number)):=by
  have:=H.lp.map (·.2)
  simpa [Function.comp_def] using this
 exact (h1.nodup_iff).2 (pubs_idnd H.ids)
theorem StQ.wlen (H:StQ c last L l):l.length=L.length:=by have:=H.lp.length_eq;simpa using this
theorem StQ.win (H:StQ c last L l) {n:Int}:n∈l.map (·.2)<->n∈L.map (·.number):=by
 have h1:(l.map (·.2)).Perm (L.map (·.number)):=by
  have:=H.lp.map (·.2)
  simpa [Function.comp_def] using this
 exact h1.mem_iff
theorem StQ.append (H:StQ c last L l) {q:Pub} (hn:q.number=last+1) (ht:q.tag∉L.map (·.tag)) (htk:tokB q.tag=true) (hlen:(L.length:Int)<c.pubs) (h1:0<=q.until_) (h2:q.until_<=1099511627776) (hdoc:docE q.doc=0) :
 rSetE l (last+1) q.until_=0/\StQ c (last+1) (L++[q]) (rSetL l (last+1) q.until_):=by
 have hni:last+1∉l.map (·.2):=fun h=>by
  obtain ⟨d,hd,e⟩:=List.mem_map.1 (H.win.1 h)
  have:=H.low d hd
  omega
 have hla:=H.last
 have hp:=H.pubs
 have hll:=H.wlen
 have h0:rSetE l (last+1) q.until_=0:=setE_new hni (by omega) (by omega) (by omega) (by omega)
 refine ⟨h0,H.right,?_,?_,by omega,?_,?_,?_,?_,?_,?_⟩
 .rw [List.pairwise_append]
  refine ⟨H.ids,by simp,fun a ha b hb=>?_⟩
  simp at hb
  subst hb
  have:=H.low a ha
  omega
 .intro d hd
  rcases List.mem_append.1 hd with r|r
  .have:=H.low d r;omega
  .simp at r;subst r;omega
 .rw [List.map_append,List.nodup_append]
  refine ⟨H.tags,by simp,fun a ha b hb e=>?_⟩
  simp at hb
  subst hb
  exact ht (e▸ha)
 .intro d hd
  rcases List.mem_append.1 hd with r|r
  .exact H.tok d r
  .simp at r;subst r;exact htk
 .rw [List.length_append];simp;omega
 .intro d hd
  rcases List.mem_append.1 hd with r|r
  .exact H.time d r
  .simp at r;subst r;exact ⟨h1,h2⟩
 .intro d hd
  rcases List.mem_append.1 hd with r|r
  .exact H.docs d r
  .simp at r;subst r;exact hdoc
 .unfold rSetL
  rw [if_pos h0,stop_none hni,List.map_append]
  refine ((ins_perm _ _).trans (H.lp.cons _)).trans ?_
  rw [<-hn]
  exact List.perm_append_comm (l₁:=[(q.until_,q.number)])
end
theorem due_parts {l:List TM} (hs:l.Pairwise ah) (now:Int):rDueA l now=l.filter (fun t=>decide (t.1<=now))/\rDueB l now=l.filter (fun t=>decide (now<t.1)):=by
 induction l with
 | nil=>exact ⟨rfl,rfl⟩
 | cons t r ih =>
   rw [List.pairwise_cons] at hs
   have ih:=ih hs.2
   unfold rDueA rDueB at *
   by_cases h:t.1<=now
   .rw [List.takeWhile_cons_of_pos (by simpa using h),List.dropWhile_cons_of_pos (by simpa using h),List.filter_cons_of_pos (by simpa using h),List.filter_cons_of_neg (by simp;omega),ih.1,ih.2]
    exact ⟨rfl,rfl⟩
   .have hr:∀ s∈r,now<s.1:=fun s hs'=>by have:=hs.1 s hs';unfold ah at this;omega
    rw [List.takeWhile_cons_of_neg (by simpa using h),List.dropWhile_cons_of_neg (by simpa using h),List.filter_cons_of_neg (by simpa using h),List.filter_cons_of_pos (by simp;omega)]
    constructor
    .rw [List.filter_eq_nil_iff.2 (fun s hs'=>by have:=hr s hs';simp;omega)]
    .rw [List.filter_eq_self.2 (fun s hs'=>by have:=hr s hs';simp;omega)]
section
variable {c:Conf} {last:Int} {L:List Pub} {l:List TM}
def dropP (L:List Pub) (n:Int):List Pub:=L.filter fun p=>decide (p.number≠n)
def setP (L:List Pub) (q:Pub):List Pub:=L.map fun p=>if p.number=q.number then q else p
theorem StQ.drop (H:StQ c last L l) (n:Int):StQ c last (dropP L n) (rStop l n) where
 right:=H.right
 ids:=H.ids.sublist List.filter_sublist
 low:=fun p hp=>H.low p (List.mem_filter.1 hp).1
 last:=H.last
 tags:=H.tags.sublist (List.filter_sublist.map _)
 tok:=fun p hp=>H.tok p (List.mem_filter.1 hp).1
 len:=by
  have h1:(dropP L n).length<=L.length:=List.length_filter_le _ _
  have:=H.len
  omega
 time:=fun p hp=>H.time p (List.mem_filter.1 hp).1
 docs:=fun p hp=>H.docs p (List.mem_filter.1 hp).1
 lp:=by
  unfold rStop dropP
  refine (H.lp.filter _).trans (List.Perm.of_eq ?_)
  rw [List.filter_map]
  rfl
theorem setP_num (L:List Pub) (q:Pub):(setP L q).map (·.number)=L.map (·.number):=by
 unfold setP
 rw [List.map_map]
 apply List.map_congr_left
 intro p hp
 show (if p.number=q.number then q else p).number=p.number
 split
 .next h=>exact h.symm
 .rfl
theorem setP_mem {q p:Pub} (h:p∈setP L q):p=q\/p∈L/\p.number≠q.number:=by
 obtain ⟨r,hr,rfl⟩:=List.mem_map.1 h
 by_cases hn:r.number=q.number
 .rw [if_pos hn];exact .inl rfl
 .rw [if_neg hn];exact .inr ⟨hr,hn⟩
theorem tags_set:∀ {L:List Pub} {q:Pub},(L.map (·.number)).Nodup->(L.map (·.tag)).Nodup->q.tag∉L.map (·.tag)->((setP L q).map (·.tag)).Nodup
 | [],_,_,_,_=>by simp [setP]
 | p::r,q,h1,h2,h3=>by
   rw [List.map_cons,List.nodup_cons] at h1 h2
   have h3':q.tag∉r.map (·.tag):=fun h=>h3 (by rw [List.map_cons];exact List.mem_cons_of_mem _ h)
   have h3p:q.tag≠p.tag:=fun h=>h3 (by rw [List.map_cons,h];exact List.mem_cons_self)
   have ih:=tags_set h1.2 h2.2 h3'
   have e:setP (p::r) q=(if p.number=q.number then q else p)::setP r q:=rfl
   rw [e,List.map_cons,List.nodup_cons]
   refine ⟨fun hm=>?_,ih⟩
   obtain ⟨s,hs,es⟩:=List.mem_map.1 hm
   by_cases hn:p.number=q.number
   .rw [if_pos hn] at es
    rcases setP_mem hs with rfl|⟨hs,hne⟩
    .obtain ⟨s',hs',e'⟩:=List.mem_map.1 hs
     by_cases hk:s'.number=s.number
     .exact h1.1 (List.mem_map.2 ⟨s',hs',hk.trans hn.symm⟩)
     .rw [if_neg hk] at e'
      subst e'
      exact hk rfl
    .exact h3' (List.mem_map.2 ⟨s,hs,es⟩)
   .rw [if_neg hn] at es
    rcases setP_mem hs with rfl|⟨hs,hne⟩
    .exact h3p es
    .exact h2.1 (List.mem_map.2 ⟨s,hs,es⟩)
theorem setP_perm:∀ {L:List Pub} {p0 q:Pub},(L.map (·.number)).Nodup->p0∈L->q.number=p0.number->(setP L q).Perm (q::dropP L p0.number)
 | [],_,_,_,h,_=>by cases h
 | p::r,p0,q,hn,h,hq=>by
   rw [List.map_cons,List.nodup_cons] at hn
   have e:setP (p::r) q=(if p.number=q.number then q else p)::setP r q:=rfl
   rcases List.mem_cons.1 h with rfl|h
   .have hr:setP r q=r:=by
     have h9:setP r q=r.map id:=List.map_congr_left (fun s hs=>if_neg fun k=>hn.1 (List.mem_map.2 ⟨s,hs,Eq.trans k hq⟩))
     rw [h9,List.map_id]
    have hd:dropP (p0::r) p0.number=r:=by
     unfold dropP
     rw [List.filter_cons_of_neg (by simp),List.filter_eq_self]
     intro s hs
     exact decide_eq_true fun k=>hn.1 (List.mem_map.2 ⟨s,hs,k⟩)
    rw [e,if_pos hq.symm,hr,hd]
   .have hne:p.number≠p0.number:=fun k=>hn.1 (List.mem_map.2 ⟨p0,h,k.symm⟩)
    have hd:dropP (p::r) p0.number=p::dropP r p0.number:=by
     unfold dropP
     rw [List.filter_cons_of_pos (by simp [hne])]
    rw [e,if_neg (by rw [hq];exact hne),hd]
    exact ((setP_perm hn.2 h hq).cons p).trans (List.Perm.swap _ _ _)
theorem StQ.put (H:StQ c last L l) {p0 q:Pub} (hp:p0∈L) (hq:q.number=p0.number) (ht:q.tag∉L.map (·.tag)) (htk:tokB q.tag=true) (h1:0<=q.until_) (h2:q.until_<=1099511627776) (hdoc:docE q.doc=0) :
 rSetE l p0.number q.until_=0/\StQ c last (setP L q) (rSetL l p0.number q.until_):=by
 have hlo:=H.low p0 hp
 have h0:rSetE l p0.number q.until_=0:=setE_in H.wnd (H.win.2 (List.mem_map.2 ⟨p0,hp,rfl⟩)) (by omega) h1 h2
 refine ⟨h0,H.right,?_,fun p hm=>?_,H.last,tags_set (pubs_idnd H.ids) H.tags ht,fun p hm=>?_,?_,fun p hm=>?_,fun p hm=>?_,?_⟩
 .rw [<-List.pairwise_map (f:=fun p:Pub=>p.number) (R:=fun a b=>a<b),setP_num,List.pairwise_map]
  exact H.ids
 .rcases setP_mem hm with rfl|⟨hm,_⟩
  .rw [hq];exact hlo
  .exact H.low p hm
 .rcases setP_mem hm with rfl|⟨hm,_⟩
  .exact htk
  .exact H.tok p hm
 .have:(setP L q).length=L.length:=by unfold setP;simp
  rw [this]
  exact H.len
 .rcases setP_mem hm with rfl|⟨hm,_⟩
  .exact ⟨h1,h2⟩
  .exact H.time p hm
 .rcases setP_mem hm with rfl|⟨hm,_⟩
  .exact hdoc
  .exact H.docs p hm
 .have hd:=(H.drop p0.number).lp
  unfold rSetL
  rw [if_pos h0]
  refine (ins_perm _ _).trans ?_
  have hs:=(setP_perm (pubs_idnd H.ids) hp hq).map fun p=>(p.until_,p.number)
  refine List.Perm.trans ?_ hs.symm
  rw [List.map_cons,hq]
  exact hd.cons _
end
section
variable {c:Conf} {last now:Int} {L:List Pub} {a:AskP}
theorem doR_arg (h:argE L now a=true):doR c last L now a=⟨last,L,noTold,1⟩:=by unfold doR;rw [if_pos h]
theorem argE_in {q:Bool} (h:argE L now a=q):q=(decide (now<0) || decide (549755813888<now) || !tokB a.tag || (L.map (·.tag)).contains a.tag || (a.has&&decide (docE a.doc≠0))):=h.symm
theorem argE_no (h:argE L now a=false):0<=now/\now<=549755813888/\tokB a.tag=true/\a.tag∉L.map (·.tag)/\(a.has=true->docE a.doc=0):=by
 unfold argE at h
 simp only [Bool.or_eq_false_iff,decide_eq_false_iff_not,Bool.not_eq_false',Bool.and_eq_false_iff,ne_eq,Decidable.not_not] at h
 obtain ⟨⟨⟨⟨h1,h2⟩,h3⟩,h4⟩,h5⟩:=h
 refine ⟨by omega,by omega,h3,fun hm=>?_,fun hh=>?_⟩
 .rw [List.contains_iff_mem.2 hm] at h4;cases h4
 .rcases h5 with h5|h5
  .rw [hh] at h5;cases h5
  .exact h5
theorem argE_not (h1:¬now<0) (h2:¬549755813888<now) (h3:tokB a.tag=true) (h4:a.tag∉L.map (·.tag)) (h5:a.has=true->docE a.doc=0):argE L now a=false:=by
 have h4':(L.map (·.tag)).contains a.tag=false:=by
  rw [Bool.eq_false_iff];exact fun k=>h4 (List.contains_iff_mem.1 k)
 unfold argE
 rw [h4',h3,decide_eq_false h1,decide_eq_false h2]
 cases hh:a.has with
 | false=>rfl
 | true=>simp [h5 hh]
theorem doR_new1 (h:argE L now a=false) (hm:a.mtch=[]) (hk:secK c a.exp=false):doR c last L now a=⟨last,L,⟨423,c.least,[],false⟩,0⟩:=by
 unfold doR;rw [if_neg (by simp [h]),if_pos hm,if_pos hk]
theorem doR_new2 (h:argE L now a=false) (hm:a.mtch=[]) (hk:secK c a.exp=true) (hx:a.has=false\/secN c a.exp=0):doR c last L now a=⟨last,L,⟨400,0,[],false⟩,0⟩:=by
 unfold doR;rw [if_neg (by simp [h]),if_pos hm,if_neg (by simp [hk]),if_pos hx]
theorem doR_new3 (h:argE L now a=false) (hm:a.mtch=[]) (hk:secK c a.exp=true) (hx:a.has=true) (hy:secN c a.exp≠0) (hl:c.pubs<=L.length):doR c last L now a=⟨last,L,⟨503,0,[],false⟩,0⟩:=by
 unfold doR;rw [if_neg (by simp [h]),if_pos hm,if_neg (by simp [hk]),if_neg (by simp [hx,hy]),if_pos hl]
def newP (last:Int) (a:AskP) (now n:Int):Pub:=⟨last+1,a.who,a.tag,now+10*n,a.doc⟩
theorem doR_new4 (h:argE L now a=false) (hm:a.mtch=[]) (hk:secK c a.exp=true) (hx:a.has=true) (hy:secN c a.exp≠0) (hl:¬c.pubs<=L.length):doR c last L now a=⟨last+1,L++[newP last a now (secN c a.exp)],⟨200,secN c a.exp,a.tag,true⟩,0⟩:=by
 unfold doR newP;rw [if_neg (by simp [h]),if_pos hm,if_neg (by simp [hk]),if_neg (by simp [hx,hy]),if_neg hl]
theorem doR_no (h:argE L now a=false) (hm:a.mtch≠[]) (hf:a.mtch∉L.map (·.tag)):doR c last L now a=⟨last,L,⟨412,0,[],false⟩,0⟩:=by
 have hf':L.find? (fun p=>decide (p.tag=a.mtch))=none:=by
  rw [List.find?_eq_none]
  intro p hp
  simpa using fun k=>hf (List.mem_map.2 ⟨p,hp,k⟩)
 unfold doR;rw [if_neg (by simp [h]),if_neg hm,hf']
theorem find_tag (hn:(L.map (·.tag)).Nodup) {p:Pub} (hp:p∈L):L.find? (fun q=>decide (q.tag=p.tag))=some p:=by
 induction L with
 | nil=>cases hp
 | cons q r ih =>
   rw [List.map_cons,List.nodup_cons] at hn
   rcases List.mem_cons.1 hp with rfl|hp
   .rw [List.find?_cons_of_pos (by simp)]
   .rw [List.find?_cons_of_neg (by rw [decide_eq_true_eq];exact fun k=>hn.1 (List.mem_map.2 ⟨p,hp,Eq.symm k⟩))]
    exact ih hn.2 hp
variable {p:Pub}
theorem doR_who (h:argE L now a=false) (hm:a.mtch≠[]) (hn:(L.map (·.tag)).Nodup) (hp:p∈L) (ht:p.tag=a.mtch) (hw:p.who≠a.who):doR c last L now a=⟨last,L,⟨412,0,[],false⟩,0⟩:=by
 unfold doR;rw [if_neg (by simp [h]),if_neg hm,<-ht,find_tag hn hp];simp only;rw [if_pos hw]
theorem doR_old1 (h:argE L now a=false) (hm:a.mtch≠[]) (hn:(L.map (·.tag)).Nodup) (hp:p∈L) (ht:p.tag=a.mtch) (hw:p.who=a.who) (hk:secK c a.exp=false):doR c last L now a=⟨last,L,⟨423,c.least,[],false⟩,0⟩:=by
 unfold doR;rw [if_neg (by simp [h]),if_neg hm,<-ht,find_tag hn hp];simp only;rw [if_neg (by simp [hw]),if_pos hk]
theorem doR_old2 (h:argE L now a=false) (hm:a.mtch≠[]) (hn:(L.map (·.tag)).Nodup) (hp:p∈L) (ht:p.tag=a.mtch) (hw:p.who=a.who) (hk:secK c a.exp=true) (hx:a.has=true) (hy:secN c a.exp=0):doR c last L now a=⟨last,L,⟨400,0,[],false⟩,0⟩:=by
 unfold doR;rw [if_neg (by simp [h]),if_neg hm,<-ht,find_tag hn hp];simp only;rw [if_neg (by simp [hw]),if_neg (by simp [hk]),if_pos ⟨hx,hy⟩]
theorem tag_num (h1:(L.map (·.number)).Nodup) (hn:(L.map (·.tag)).Nodup) (hp:p∈L):∀ q∈L,(q.tag=p.tag<->q.number=p.number):=by
 intro q hq
 constructor
 .intro e
  have h:=find_tag hn hq
  rw [e,find_tag hn hp] at h
  injection h with h
  rw [h]
 .intro e
  induction L with
  | nil=>cases hp
  | cons r s ih =>
    rw [List.map_cons,List.nodup_cons] at h1 hn
    rcases List.mem_cons.1 hp with e1|hp'
    .rcases List.mem_cons.1 hq with e2|hq'
     .rw [e1,e2]
     .exact absurd (List.mem_map.2 ⟨q,hq',by rw [e,e1]⟩) h1.1
    .rcases List.mem_cons.1 hq with e2|hq'
     .exact absurd (List.mem_map.2 ⟨p,hp',by rw [<-e,e2]⟩) h1.1
     .exact ih h1.2 hn.2 hp' hq'
theorem doR_old3 (h:argE L now a=false) (hm:a.mtch≠[]) (h1:(L.map (·.number)).Nodup) (hn:(L.map (·.tag)).Nodup) (hp:p∈L) (ht:p.tag=a.mtch) (hw:p.who=a.who) (hk:secK c a.exp=true) (hx:a.has=false) (hy:secN c a.exp=0):doR c last L now a=⟨last,dropP L p.number,⟨200,0,a.tag,true⟩,0⟩:=by
 have e:L.filter (fun q=>decide (q.tag≠p.tag))=dropP L p.number:=by
  unfold dropP
  apply List.filter_congr
  intro q hq
  have:=tag_num h1 hn hp q hq
  simp [this]
 unfold doR;rw [if_neg (by simp [h]),if_neg hm,<-ht,find_tag hn hp];simp only;rw [if_neg (by simp [hw]),if_neg (by simp [hk]),if_neg (by simp [hx]),if_pos hy,e]
theorem doR_old4 (h:argE L now a=false) (hm:a.mtch≠[]) (h1:(L.map (·.number)).Nodup) (hn:(L.map (·.tag)).Nodup) (hp:p∈L) (ht:p.tag=a.mtch) (hw:p.who=a.who) (hk:secK c a.exp=true) (hy:secN c a.exp≠0):doR c last L now a=⟨last,setP L (putP p a now (secN c a.exp)),⟨200,secN c a.exp,a.tag,a.has⟩,0⟩:=by
 have e:L.map (fun q=>if q.tag=p.tag then putP q a now (secN c a.exp) else q)=setP L (putP p a now (secN c a.exp)):=by
  unfold setP
  apply List.map_congr_left
  intro q hq
  have hi:=tag_num h1 hn hp q hq
  by_cases hq2:q.number=p.number
  .have:q=p:=by
    have h:=find_tag hn hq
    rw [hi.2 hq2,find_tag hn hp] at h
    injection h with h
    exact h.symm
   subst this
   rw [if_pos rfl,if_pos (show q.number=(putP q a now (secN c a.exp)).number from rfl)]
  .rw [if_neg (fun k=>hq2 (hi.1 k)),if_neg (by show ¬q.number=p.number;exact hq2)]
 unfold doR;rw [if_neg (by simp [h]),if_neg hm,<-ht,find_tag hn hp];simp only;rw [if_neg (by simp [hw]),if_neg (by simp [hk]),if_neg (by simp [hy]),if_neg hy,e]
theorem sec_lo (H:rightB c=true) (a:Int):0<=secN c a/\secN c a<=2147483647:=by
 unfold rightB at H
 simp only [Bool.and_eq_true,decide_eq_true_eq] at H
 unfold secN
 split
 .omega
 .split <;> omega
end
def expL (L:List Pub) (now:Int):List Pub:=L.filter fun p=>decide (now<p.until_)
def expD (L:List Pub) (now:Int):List Pub:=L.filter fun p=>decide (p.until_<=now)
def risT (l:List T) (s:T):List T:=if (l.dropWhile fun x=>decide (x<s)).head?=some s then l else (l.takeWhile fun x=>decide (x<s))++s::l.dropWhile fun x=>decide (x<s)
def risA (l:List T) (ws:List T):List T:=ws.foldl risT l
def expW (L:List Pub) (now:Int):List T:=risA [] ((expD L now).map (·.who))
def Rises (l:List T):Prop:=l.Pairwise (·<·)
theorem drop_head {α:Type} {p:α->Bool}:∀ {l:List α} {b:α} {B:List α},l.dropWhile p=b::B->p b=false
 | [],_,_,h=>by cases h
 | x::l,b,B,h=>by
   by_cases hx:p x=true
   .rw [List.dropWhile_cons_of_pos hx] at h
    exact drop_head h
   .rw [List.dropWhile_cons_of_neg hx] at h
    injection h with h _
    subst h
    simpa using hx
theorem risT_ok {l:List T} (h:Rises l) (s:T):Rises (risT l s)/\∀ x,x∈risT l s<->x=s\/x∈l:=by
 have hsp:l.takeWhile (fun x=>decide (x<s))++l.dropWhile (fun x=>decide (x<s))=l:=List.takeWhile_append_dropWhile
 have h1:∀ x∈l.takeWhile (fun x=>decide (x<s)),x<s:=fun x hx=>by
  have:=List.all_takeWhile (p:=fun x=>decide (x<s)) (l:=l)
  exact of_decide_eq_true (List.all_eq_true.1 this x hx)
 unfold risT
 generalize hA:l.takeWhile (fun x=>decide (x<s))=A at *
 cases hB:l.dropWhile (fun x=>decide (x<s)) with
 | nil =>
   rw [hB] at hsp
   simp only [List.append_nil] at hsp
   subst hsp
   rw [if_neg (by simp)]
   refine ⟨?_,fun x=>by simp [or_comm]⟩
   unfold Rises
   rw [List.pairwise_append]
   exact ⟨h,by simp,fun a ha b hb=>by simp at hb;subst hb;exact h1 a ha⟩
 | cons b B =>
   rw [hB] at hsp
   have hb:¬b<s:=by have h9:=drop_head hB;exact of_decide_eq_false h9
   by_cases he:b=s
   .subst he
    rw [if_pos (by simp)]
    refine ⟨h,fun x=>⟨fun k=>.inr k,fun k=>?_⟩⟩
    rcases k with rfl|k
    .rw [<-hsp];simp
    .exact k
   .have hlt:s<b:=by
     rcases tlt_tri s b with k|k|k
     .exact k
     .exact absurd k.symm he
     .exact absurd k hb
    rw [if_neg (by simpa using he)]
    rw [<-hsp] at h
    unfold Rises at h ⊢
    rw [List.pairwise_append] at h ⊢
    obtain ⟨p1,p2,p3⟩:=h
    have p2':=p2
    rw [List.pairwise_cons] at p2'
    refine ⟨⟨p1,?_,?_⟩,fun x=>?_⟩
    .rw [List.pairwise_cons]
     refine ⟨fun x hx=>?_,p2⟩
     rcases List.mem_cons.1 hx with rfl|hx
     .exact hlt
     .exact tlt_trans hlt (p2'.1 x hx)
    .intro x hx y hy
     rcases List.mem_cons.1 hy with rfl|hy
     .exact h1 x hx
     .exact p3 x hx y hy
    .rw [<-hsp]
     simp only [List.mem_append,List.mem_cons]
     constructor
     .rintro (k|k|k|k)
      .exact .inr (.inl k)
      .exact .inl k
      .exact .inr (.inr (.inl k))
      .exact .inr (.inr (.inr k))
     .rintro (k|k|k|k)
      .exact .inr (.inl k)
      .exact .inl k
      .exact .inr (.inr (.inl k))
      .exact .inr (.inr (.inr k))
theorem risA_ok:∀ (ws:List T) {l:List T},Rises l->Rises (risA l ws)/\∀ x,x∈risA l ws<->x∈l\/x∈ws
 | [],l,h=>⟨h,fun x=>by simp [risA]⟩
 | s::ws,l,h=>by
   obtain ⟨h1,h2⟩:=risT_ok h s
   obtain ⟨g1,g2⟩:=risA_ok ws h1
   refine ⟨g1,fun x=>?_⟩
   show x∈risA (risT l s) ws<->_
   rw [g2,h2,List.mem_cons]
   constructor
   .rintro ((k|k)|k)
    .exact .inr (.inl k)
    .exact .inl k
    .exact .inr (.inr k)
   .rintro (k|k|k)
    .exact .inl (.inr k)
    .exact .inl (.inl k)
    .exact .inr k
theorem rises_is:∀ {a b:List T},Rises a->Rises b->(∀ x,x∈a<->x∈b)->a=b
 | [],[],_,_,_=>rfl
 | [],y::b,_,_,h=>by have:=(h y).2 List.mem_cons_self;cases this
 | x::a,[],_,_,h=>by have:=(h x).1 List.mem_cons_self;cases this
 | x::a,y::b,ha,hb,h=>by
   unfold Rises at ha hb
   rw [List.pairwise_cons] at ha hb
   have e:x=y:=by
    rcases List.mem_cons.1 ((h x).1 List.mem_cons_self) with k|k
    .exact k
    .rcases List.mem_cons.1 ((h y).2 List.mem_cons_self) with q|q
     .exact q.symm
     .exact absurd (tlt_trans (hb.1 x k) (ha.1 y q)) (tlt_irr _)
   subst e
   congr 1
   refine rises_is ha.2 hb.2 fun z=>⟨fun k=>?_,fun k=>?_⟩
   .rcases List.mem_cons.1 ((h z).1 (List.mem_cons_of_mem _ k)) with q|q
    .subst q;exact absurd (ha.1 z k) (tlt_irr _)
    .exact q
   .rcases List.mem_cons.1 ((h z).2 (List.mem_cons_of_mem _ k)) with q|q
    .subst q;exact absurd (hb.1 z k) (tlt_irr _)
    .exact q
theorem compact_mem (zs:List T) (x:T):x∈Lib.compact zs<->x∈zs:=by
 unfold Lib.compact Lib.compactUpTo
 simp only [List.mem_map,List.mem_filter,List.mem_range]
 constructor
 .rintro ⟨j,⟨hj,_⟩,rfl⟩
  rw [getElem!_pos _ j (by simpa using hj)]
  simp
 .intro hx
  obtain ⟨j,hj,e⟩:=List.getElem_of_mem hx
  induction j with
  | zero =>
    refine ⟨0,⟨hj,Lib.keeps_lt_one _ 0 (by omega)⟩,?_⟩
    rw [getElem!_pos _ 0 (by simpa using hj)]
    simpa using e
  | succ j ih =>
    by_cases he:zs[j]=x
    .exact ih (by omega) he
    .refine ⟨j+1,⟨hj,Lib.keeps_pos ?_⟩,?_⟩
     .rw [getElem!_pos _ (j+1) (by simpa using hj),getElem!_pos _ (j+1-1) (by simp;omega)]
      simp only [List.getElem_toArray,Nat.add_sub_cancel]
      rw [e]
      exact fun k=>he k.symm
     .rw [getElem!_pos _ (j+1) (by simpa using hj)]
      simpa using e
theorem compact_rises {zs:List T} (h:zs.Pairwise (·<=·)):Rises (Lib.compact zs):=by
 unfold Rises Lib.compact Lib.compactUpTo
 rw [List.pairwise_map,List.pairwise_filter]
 refine (List.pairwise_lt_range (n:=zs.length)).imp_of_mem fun {i j} hi hj hij ki kj=>?_
 have hi':i<zs.length:=List.mem_range.1 hi
 have hj':j<zs.length:=List.mem_range.1 hj
 have hp:=List.pairwise_iff_getElem.1 h
 have h0:zs.toArray[j]!≠zs.toArray[j-1]!:=by
  unfold Lib.keeps at kj
  have hj0:j≠0:=by omega
  simpa [hj0] using kj
 rw [getElem!_pos _ j (by simpa using hj'),getElem!_pos _ (j-1) (by simp;omega)] at h0
 rw [getElem!_pos _ i (by simpa using hi'),getElem!_pos _ j (by simpa using hj')]
 simp only [List.getElem_toArray] at h0 ⊢
 have a1:zs[j-1]<=zs[j]:=hp (j-1) j (by omega) hj' (by omega)
 have b1:zs[j-1]<zs[j]:=by
  rcases tlt_tri zs[j-1] zs[j] with k|k|k
  .exact k
  .exact absurd k.symm h0
  .exact absurd k a1
 by_cases hb:i=j-1
 .subst hb;exact b1
 .have a2:zs[i]<=zs[j-1]:=hp i (j-1) hi' (by omega) (by omega)
  rcases tlt_tri zs[i] zs[j-1] with k|k|k
  .exact tlt_trans k b1
  .rw [k];exact b1
  .exact absurd k a2
theorem sort_texts (ws:List T):(ws.mergeSort fun x y=>decide (x<=y)).Pairwise (·<=·):=by
 have:=List.pairwise_mergeSort (le:=fun x y:T=>decide (x<=y)) (fun a b c h1 h2=>?_) (fun a b=>?_) ws
 .exact this.imp fun h=>by simpa using h
 .have h1:=of_decide_eq_true h1
  have h2:=of_decide_eq_true h2
  refine decide_eq_true fun k=>?_
  rcases tlt_tri a b with q|q|q
  .exact h2 (tlt_trans k q)
  .subst q;exact h2 k
  .exact h1 q
 .rcases tlt_tri a b with q|q|q
  .have:a<=b:=fun k=>tlt_irr _ (tlt_trans k q)
   simp [this]
  .subst q
   have:a<=a:=fun k=>tlt_irr _ k
   simp [this]
  .have:b<=a:=fun k=>tlt_irr _ (tlt_trans k q)
   simp [this]
theorem expW_is {L:List Pub} {now:Int} {ws:List T} (h:ws.Perm ((expD L now).map (·.who))):Lib.compact (ws.mergeSort fun x y=>decide (x<=y))=expW L now:=by
 obtain ⟨r1,r2⟩:=risA_ok ((expD L now).map (·.who)) (l:=[]) List.Pairwise.nil
 refine rises_is (compact_rises (sort_texts ws)) r1 fun x=>?_
 rw [compact_mem,(List.mergeSort_perm _ _).mem_iff,h.mem_iff]
 unfold expW at *
 rw [r2]
 simp
theorem StQ.exp {c:Conf} {last:Int} {L:List Pub} {l:List TM} (H:StQ c last L l) (hs:l.Pairwise ah) (now:Int):StQ c last (expL L now) (rDueB l now) where
 right:=H.right
 ids:=H.ids.sublist List.filter_sublist
 low:=fun p hp=>H.low p (List.mem_filter.1 hp).1
 last:=H.last
 tags:=H.tags.sublist (List.filter_sublist.map _)
 tok:=fun p hp=>H.tok p (List.mem_filter.1 hp).1
 len:=by
  have h1:(expL L now).length<=L.length:=List.length_filter_le _ _
  have:=H.len
  omega
 time:=fun p hp=>H.time p (List.mem_filter.1 hp).1
 docs:=fun p hp=>H.docs p (List.mem_filter.1 hp).1
 lp:=by
  rw [(due_parts hs now).2]
  refine (H.lp.filter fun t=>decide (now<t.1)).trans (List.Perm.of_eq ?_)
  unfold expL
  rw [List.filter_map]
  rfl
end Go.Proofs.YthfmekdbcoaolaaGreatDoor
