/- Chapter 3: uri.read, rosterref03.parameters. Chapter 3: rosterref03.parameters. Chapter 3: uri.where, Where. Chapter 3: rosterref03.Where. Chapter 3: what the walks of uri.Parse and rosterref03.Parse keep. -/
import Derived.Test.YthkadehlclcggaaGreatDoorGx17
import Derived.Test.YthkadehlclcggaaGreatDoorGx02
import Derived.Deep.DeepCutAuto
import Derived.Deep.CutBlock
import Derived.Deep.RegionHeld3
namespace Go.Proofs.YthkadehlclcggaaGreatDoor
set_option linter.unusedSimpArgs false
set_option linter.unusedVariables false
open Go.RowKit
open Go.Lib (hid)
theorem e95i:ElemInfo Tryz.prog 95 3 40 (.agg #[.string ⟨#[]⟩,.string ⟨#[]⟩,.bool false]):=ElemInfo.mk' (by kernel_rfl)
def TxtB (w:World) (B:Nat) (v:Value) (l:List T):Prop:=∃ A c,v=.slice A l.length c/\RdB w B 1 l.length A (l.map SC1)
theorem TxtB.at_ {w:World} {B:Nat} {A:Option Addr} {l:List T} (h:RdB w B 1 l.length A (l.map SC1)) {i:Nat} (hi:i<l.length) :
 ∃ gb off,A=some ⟨gb,off,none⟩/\gb<B/\w.cell? ⟨gb,off+i,none⟩=some (.string (str l[i])):=by
 obtain ⟨gb,off,e,hlt,hc⟩:=h.at_ (by omega)
 exact ⟨gb,off,e,hlt,hc i _ (by rw [List.getElem?_map,List.getElem?_eq_getElem hi];rfl)⟩
theorem cut_lens (c:UInt8):∀ l:T,(cutT c l).1.length<=l.length/\(cutT c l).2.1.length<=l.length
 | []=>by simp [cutT]
 | x::r=>by
   have ih:=cut_lens c r
   unfold cutT
   split
   .simp
   .simp only [List.length_cons];omega
def readTo (keep:T) (l:List T) (j:Nat):Option (List Par):=readP keep (l.take j)
theorem readP_cons (keep:T) (a:T) (r:List T):readP keep (a::r)=match plainT keep (cutT 61 a).1,plainT keep (cutT 61 a).2.1 with
 | some n,some v=>(readP keep r).map (⟨n,v,(cutT 61 a).2.2⟩::·)
 | _,_=>none:=rfl
theorem read_snoc (keep:T):∀ (l:List T) (s:T),readP keep (l++[s])=(readP keep l).bind fun ps=>(readP keep [s]).map (ps++·)
 | [],s=>by
   simp only [List.nil_append]
   show _=(some []).bind _
   simp
 | a::r,s=>by
   have ih:=read_snoc keep r s
   rw [List.cons_append,readP_cons keep a (r++[s]),readP_cons keep a r,ih]
   cases plainT keep (cutT 61 a).1 with
   | none=>rfl
   | some n =>
     cases plainT keep (cutT 61 a).2.1 with
     | none=>rfl
     | some v =>
       cases readP keep r with
       | none=>rfl
       | some ps =>
         cases readP keep [s] with
         | none=>rfl
         | some q=>rfl
theorem read_bad {keep:T} {l:List T} {j:Nat} (hj:j<l.length) (h:plainT keep (cutT 61 l[j]).1=none\/plainT keep (cutT 61 l[j]).2.1=none):readP keep l=none:=by
 induction l generalizing j with
 | nil=>simp at hj
 | cons a r ih =>
   unfold readP
   cases j with
   | zero =>
     simp only [List.getElem_cons_zero] at h
     rcases h with h|h
     .rw [h]
     .rw [h]
      cases plainT keep (cutT 61 a).1 <;> rfl
   | succ j =>
     simp only [List.getElem_cons_succ,List.length_cons] at h hj
     have:=ih (j:=j) (by omega) h
     rw [this]
     cases plainT keep (cutT 61 a).1 with
     | none=>rfl
     | some n=>cases plainT keep (cutT 61 a).2.1 <;> rfl
theorem read_next {keep:T} {l:List T} {j:Nat} {ps:List Par} {n v:T} {b:Bool} (hj:j<l.length) (h:readTo keep l j=some ps) (h1:plainT keep (cutT 61 l[j]).1=some n) (h2:plainT keep (cutT 61 l[j]).2.1=some v) (h3:(cutT 61 l[j]).2.2=b):readTo keep l (j+1)=some (ps++[⟨n,v,b⟩]):=by
 unfold readTo at *
 rw [List.take_succ_eq_append_getElem hj,read_snoc,h]
 simp only [Option.bind_some]
 have e:readP keep [l[j]]=some [⟨n,v,b⟩]:=by
  unfold readP
  rw [h1,h2,h3]
  rfl
 rw [e]
 rfl
theorem read_end {keep:T} {l:List T} {j:Nat} (hj:j=l.length):readTo keep l j=readP keep l:=by unfold readTo;rw [List.take_of_length_le (by omega)]
def readV (v:Value) (o:Option (List Par)):Value:=match o with
 | some _=>.tuple #[v,.bool true]
 | none=>.tuple #[.slice none 0 0,.bool false]
def ReadPost (keep:T) (l:List T) (w:World) (e:Ending) (w':World):Prop :=
 ∃ v,e=.returned (readV v (readP keep l))/\(∀ ps,readP keep l=some ps->w'.ownsRow w.heap.size 95 3 v ps.length (rows parC ps))/\Below w.heap.size w w'
structure ReadRel (keep:T) (l:List T) (w:World) (j:Nat) (v:Value) (wr:World):Prop where
 own:∃ ps,readTo keep l j=some ps/\ps.length=j/\wr.ownsRow w.heap.size 95 3 v ps.length (rows parC ps)
 be:Below w.heap.size w wr
theorem ReadPost.no {keep:T} {l:List T} {w w':World} (h:readP keep l=none) (hb:Below w.heap.size w w'):ReadPost keep l w (.returned (.tuple #[.slice none 0 0,.bool false])) w' :=
 ⟨.slice none 0 0,by rw [h];rfl,fun ps q=>(by rw [h] at q;cases q),hb⟩
theorem ReadPost.yes {keep:T} {l:List T} {w w':World} {v:Value} {ps:List Par} (h:readP keep l=some ps) (ho:w'.ownsRow w.heap.size 95 3 v ps.length (rows parC ps)) (hb:Below w.heap.size w w'):ReadPost keep l w (.returned (.tuple #[v,.bool true])) w' :=
 ⟨v,by rw [h];rfl,fun ps' q=>(by rw [h] at q;injection q with q;subst q;exact ho),hb⟩
set_option maxRecDepth 100000 in
set_option maxHeartbeats 4000000 in
theorem rparams_any {l:List T} {keep:ByteArray} {A:Option Addr} {c B:Nat} {w:World} (hB:B<=w.heap.size) (hr:RdB w B 1 l.length A (l.map SC1)) (hl:l.length<=1000000000) (hs:∀ s∈l,s.length<=1000000000) (hkeep:keep.size<=100) :
 Calls Tryz.prog 77 #[.slice A l.length c,.string keep] w (ReadPost keep.data.toList l w):=by
 have HR:=hid hr
 have HS:=hid hs
 have H0:Hid (ReadRel keep.data.toList l w 0 (.slice none 0 0) w):=hid ⟨⟨[],rfl,rfl,by simp [rows],.inl ⟨rfl,rfl⟩⟩,Below.refl _ _⟩
 clear hr hs
 go_enter Tryz.func77,Tryz.ntmps77
 go_wp2
 go_loopw [6,7] (fun v i wr=>∃ j:Nat,j<=l.length/\i=.int .i64 j/\ReadRel keep.data.toList l w j v wr) (fun _ i _=>l.length-(intOf i).toNat)
 case atStart=>exact ⟨0,by omega,rfl,H0.out⟩
 case round =>
  obtain ⟨j,hj,rfl,hR⟩:=hrel
  obtain ⟨⟨ps,hps,hpl,hown⟩,hbe⟩:=hR
  have HPS:=hid hps
  have HO:=hid hown
  have HB:=hid hbe
  have hsz:=hbe.size
  by_cases hlt:j<l.length
  .have x0:(0:Int)<=j:=by omega
   have x1:(j:Int)<l.length:=by omega
   obtain ⟨gb,off,rfl,hgb,zc⟩:=TxtB.at_ (HR.out.below (hbe.mono hB)) hlt
   have hls:=HS.out _ (List.getElem_mem hlt)
   have HC:=hid (fun W=>rCut_any (str l[j]) 61 W (by show l[j].length<=_;omega))
   have HBAD:=hid (fun q=>read_bad (keep:=keep.data.toList) hlt q)
   have HNX:=hid (fun n v b q1 q2 q3=>read_next (keep:=keep.data.toList) (n:=n) (v:=v) (b:=b) hlt hps q1 q2 q3)
   have HCV:Hid (cutV (str l[j]) 61=.tuple #[.string (str (cutT 61 l[j]).1),.string (str (cutT 61 l[j]).2.1),.bool (cutT 61 l[j]).2.2]):=hid rfl
   have hcl:(cutT 61 l[j]).1.length<=l[j].length/\(cutT 61 l[j]).2.1.length<=l[j].length:=cut_lens 61 _
   clear hps hown hbe
   generalize cutT 61 l[j]=t at *
   obtain ⟨p,q,f⟩:=t
   simp only at hcl HCV HBAD HNX
   have HP1:Hid (∀ W,Calls Tryz.prog 74 #[.string (str p),.string keep] W (PlPost (str p) keep W)):=hid (fun W=>rwritten_any (str p) keep W (by show p.length<=_;omega) (by omega))
   have HP2:Hid (∀ W,Calls Tryz.prog 74 #[.string (str q),.string keep] W (PlPost (str q) keep W)):=hid (fun W=>rwritten_any (str q) keep W (by show q.length<=_;omega) (by omega))
   have HE1:Hid (plainT keep.data.toList (str p).data.toList=plainT keep.data.toList p):=hid rfl
   have HE2:Hid (plainT keep.data.toList (str q).data.toList=plainT keep.data.toList q):=hid rfl
   go_wp2_with fail
   refine (HC.out _).mono ?_
   rintro e w1 ⟨rfl,m,rfl⟩
   rw [HCV.out]
   go_wp2_with fail
   refine (HP1.out _).mono ?_
   rintro e w2 ⟨rfl,hb2⟩
   have HF2:Hid (Fr (fun _=>False) wr w2):=hid (((Fr.refl (fun _=>False) wr).drewN m).trans (G:=fun _=>False) (Fr.of_below hb2) (fun _ _ h=>h))
   rw [HE1.out]
   clear hb2
   cases hp:plainT keep.data.toList p with
   | none =>
     have HX:=hid (HBAD.out (.inl hp))
     unfold plV
     go_wp2_with fail
     refine (HP2.out _).mono ?_
     rintro e w3 ⟨rfl,hb3⟩
     rw [HE2.out]
     have HF3:Hid (Fr (fun _=>False) wr w3):=hid (HF2.out.trans (G:=fun _=>False) (Fr.of_below hb3) (fun _ _ h=>h))
     clear hb3
     cases hq:plainT keep.data.toList q with
     | none =>
       unfold plV
       go_wp2
       go_ret2
       exact ReadPost.no HX.out (HB.out.trans (HF3.out.to_below hsz (fun _ h=>h.elim)))
     | some v =>
       unfold plV
       go_wp2
       go_ret2
       exact ReadPost.no HX.out (HB.out.trans (HF3.out.to_below hsz (fun _ h=>h.elim)))
   | some n =>
     have HN:=hid hp
     unfold plV
     go_wp2_with fail
     refine (HP2.out _).mono ?_
     rintro e w3 ⟨rfl,hb3⟩
     rw [HE2.out]
     have HF3:Hid (Fr (fun _=>False) wr w3):=hid (HF2.out.trans (G:=fun _=>False) (Fr.of_below hb3) (fun _ _ h=>h))
     clear hb3 hp
     cases hq:plainT keep.data.toList q with
     | none =>
       have HX:=hid (HBAD.out (.inr hq))
       clear hq
       unfold plV
       go_wp2
       go_ret2
       exact ReadPost.no HX.out (HB.out.trans (HF3.out.to_below hsz (fun _ h=>h.elim)))
     | some v =>
       have HX:=hid (HNX.out n v f HN.out hq rfl)
       clear hq
       unfold plV
       have hs3:=HF3.out.size
       have HNE:Hid (∀ v4 w4,w4.ownsRow w.heap.size 95 3 v4 (ps.length+1) (rows parC ps++[.string (str n),.string (str v),.bool f])->Below w.heap.size w3 w4->ReadRel keep.data.toList l w (j+1) v4 w4):=hid (fun v4 w4 a b=>⟨⟨ps++[⟨n,v,f⟩],HX.out,by simp;omega,by rw [List.length_append,rows_snoc];exact a⟩,(HB.out.trans (HF3.out.to_below hsz (fun _ h=>h.elim))).trans b⟩)
       have hpl2:ps.length<=1000000000:=by omega
       go_wp2_with (at_builtin;(refine wpList_app1' rfl (.tmp 48) (.tmp 53) 28 rfl w.heap.size 95 3 40 _ Tryz.underlying28 e95i rfl (by omega) _ _ _ rfl (own_fr HO.out HF3.out (fun _ _ h=>h)) [.string (str n),.string (str v),.bool f] _ rfl (by first|(simp;done)|rfl) rfl (by intro u hu;simp at hu;rcases hu with rfl|rfl|rfl <;> rfl) (by unfold maxLen;omega) (by omega) (by show w.heap.size<=w3.heap.size;omega) ?_);intro v4 w4 hown4 hb4 hg4 hat4)
       have HZ:=hid (HNE.out v4 w4 hown4 hb4)
       clear hown4 hb4 hg4 hat4
       go_roundw
       case rel=>exact ⟨j+1,by omega,by go_num,HZ.out⟩
       case measure=>simp [intOf] <;> omega
  .have x1:¬(j:Int)<l.length:=by omega
   have HX:Hid (readP keep.data.toList l=some ps):=hid (by rw [<-read_end (keep:=keep.data.toList) (show j=l.length by omega)];exact hps)
   clear hps hown hbe
   go_wp2
   go_ret2
   exact ReadPost.yes HX.out HO.out HB.out
structure WhRel (s:ByteArray) (j:Nat) (b:Bool):Prop where
 eq:endT false s.data.toList=j+endT b (s.data.toList.drop j)
def insB (c:UInt8) (b:Bool):Bool:=decide (c=91) || (b&&decide (c≠93))
theorem ins_is (c:UInt8) (b:Bool):(if c=91 then true else if c=93 then false else b)=insB c b:=by
 unfold insB
 by_cases h:c=91
 .simp [h]
 .by_cases h2:c=93
  .simp [h2]
  .simp [h,h2]
theorem WhRel.step {s:ByteArray} {j:Nat} {b:Bool} (h:WhRel s j b) (hj:j<s.size) (hc:b=true\/s[j]≠58):WhRel s (j+1) (insB s[j] b):=by
 have e:=h.eq
 rw [drop_one hj,endT_cons,if_neg (by rintro ⟨h1,h2⟩;rcases hc with q|q;rw [q] at h1;cases h1;exact q h2),ins_is] at e
 exact ⟨by rw [e];omega⟩
theorem WhRel.stop {s:ByteArray} {j:Nat} (h:WhRel s j false) (hj:j<s.size) (hc:s[j]=58):endT false s.data.toList=j:=by
 have e:=h.eq
 rw [drop_one hj,endT_cons,if_pos ⟨rfl,hc⟩] at e
 exact e
theorem WhRel.out_ {s:ByteArray} {j:Nat} {b:Bool} (h:WhRel s j b) (hj:j=s.size):endT false s.data.toList=j:=by
 have hl:s.data.toList.length=s.size:=by simp
 have e:=h.eq
 rw [List.drop_eq_nil_of_le (by omega)] at e
 exact e
def whV (r:T × Int × Int):Value:=.tuple #[.string (str r.1),.int .i64 r.2.1,.int .i64 r.2.2]
def WherePost (s:ByteArray) (w:World) (e:Ending) (w':World):Prop:=e=.returned (whV (whereE s.data.toList))/\Below w.heap.size w w'
theorem low_ext (s:ByteArray) (j:Nat):lowS (s.extract 0 j)=str (low (s.data.toList.take j)):=by
 unfold lowS
 rw [ext_str]
 rfl
theorem ext_to (s:ByteArray) (j:Nat):(s.extract j s.size).data.toList=s.data.toList.drop j:=by
 have hl:s.data.toList.length=s.size:=by simp
 rw [ext_str]
 show (s.data.toList.drop j).take (s.size-j)=_
 rw [List.take_of_length_le (by rw [List.length_drop];omega)]
theorem wh_bad {s:ByteArray} {j:Nat} (h:endT false s.data.toList=j) (hb:hostB (low (s.data.toList.take j))=false):whereE s.data.toList=([],0,32):=by
 unfold whereE
 rw [h]
 exact if_pos hb
theorem wh_end {s:ByteArray} {j:Nat} (h:endT false s.data.toList=j) (hb:hostB (low (s.data.toList.take j))=true) (hj:j=s.size):whereE s.data.toList=(low (s.data.toList.take j),0,0):=by
 have hl:s.data.toList.length=s.size:=by simp
 unfold whereE
 rw [h]
 simp only [hb,Bool.true_eq_false,if_false]
 rw [if_pos (by omega)]
theorem wh_port {s:ByteArray} {j:Nat} (h:endT false s.data.toList=j) (hb:hostB (low (s.data.toList.take j))=true) (hj:j<s.size):whereE s.data.toList=match portO (s.data.toList.drop (j+1)) with
 | some n=>(low (s.data.toList.take j),(n:Int),0)
 | none=>([],0,33):=by
 have hl:s.data.toList.length=s.size:=by simp
 unfold whereE
 rw [h]
 simp only [hb,Bool.true_eq_false,if_false]
 rw [if_neg (by omega)]
 cases portO (s.data.toList.drop (j+1)) <;> rfl
set_option maxRecDepth 100000 in
set_option maxHeartbeats 4000000 in
theorem rWhere_any (s:ByteArray) (w:World) (hs:s.size<=140737488351232):Calls Tryz.prog 76 #[.string s] w (WherePost s w):=by
 have H0:Hid (WhRel s 0 false):=hid ⟨by simp⟩
 go_enter Tryz.func76,Tryz.ntmps76
 go_wp2
 go_loop [5,6] (fun i b=>∃ (j:Nat) (bb:Bool),j<=s.size/\i=.int .i64 j/\b=.bool bb/\WhRel s j bb) (fun i _=>s.size-(intOf i).toNat)
 case atStart=>exact ⟨0,false,by omega,rfl,rfl,H0.out⟩
 case round =>
  obtain ⟨j,bb,hj,rfl,rfl,hR⟩:=hrel
  have HR:=hid hR
  clear hR
  have HHO:Hid (hostB (str (low (s.data.toList.take j))).data.toList=hostB (low (s.data.toList.take j))):=hid rfl
  have HLO:=hid (low_ext s j)
  have hex:(s.extract 0 j).size<=140737488351232:=by rw [ByteArray.size_extract];omega
  have hll:(low (s.data.toList.take j)).length<=140737488351232:=by unfold low;simp;omega
  by_cases hlt:j<s.size
  .have x0:(0:Int)<=j:=by omega
   have x1:(j:Int)<s.size:=by omega
   have HST:=hid (fun q=>HR.out.step hlt q)
   by_cases h58:s[j]=58
   .have e1:((s[j].toNat:Int) != 58)=false:=by rw [h58];rfl
    cases bb with
    | true =>
      have HX:=hid (HST.out (.inl rfl))
      have q1:insB s[j] true=true:=by rw [h58];rfl
      rw [q1] at HX
      have e2:((s[j].toNat:Int) == 91)=false:=by rw [h58];rfl
      have e3:((s[j].toNat:Int) == 93)=false:=by rw [h58];rfl
      clear h58 q1
      go_wp2
      go_round
      case rel=>exact ⟨j+1,true,by omega,by go_num,rfl,HX.out⟩
      case measure=>simp [intOf] <;> omega
    | false =>
      have HE:=hid (HR.out.stop hlt h58)
      have x2:(j:Int)<=s.size:=by omega
      have x3:((j:Int) == s.size)=false:=by rw [beq_eq_false_iff_ne];omega
      have x4:IntKind.i64.wrap ((j:Int)+1)=(j:Int)+1:=IntWalk.i64_in _ (by omega)
      have x5:(0:Int)<=(j:Int)+1:=by omega
      have x6:(j:Int)+1<=s.size:=by omega
      have x7:((j:Int)+1).toNat=j+1:=by omega
      have hpx:(s.extract (j+1) s.size).size<=140737488351232:=by rw [ByteArray.size_extract];omega
      have HPX:=hid (ext_to s (j+1))
      have HBD:=hid (fun q=>wh_bad HE.out q)
      have HOK:=hid (fun q=>wh_port HE.out q hlt)
      clear h58
      go_wp2_with fail
      refine (rLower_any _ w (by omega)).mono ?_
      rintro e w1 ⟨rfl,hb1⟩
      rw [HLO.out]
      have HB1:=hid hb1
      have hs1:=hb1.size
      clear hb1
      go_wp2_with fail
      refine (rHost_any _ w1 (by show (low (s.data.toList.take j)).length<=_;omega)).mono ?_
      rintro e w2 ⟨rfl,hb2⟩
      rw [HHO.out]
      have HB2:=hid (HB1.out.trans (hb2.mono hs1))
      clear hb2
      cases hh:hostB (low (s.data.toList.take j)) with
      | false =>
        have HX:=hid (HBD.out hh)
        clear hh
        go_wp2
        go_ret3
        exact ⟨by rw [HX.out];rfl,HB2.out⟩
      | true =>
        have HX:=hid (HOK.out hh)
        clear hh
        rw [<-HPX.out] at HX
        rcases num_port (s.extract (j+1) s.size) with ⟨n,hn0,hn1,hpo,hnv⟩|⟨hpo,hnv⟩
        .rw [hpo] at HX
         clear hpo
         have HNV:=hid hnv
         have z1:((n:Int) == 0)=false:=by rw [beq_eq_false_iff_ne];omega
         clear hnv
         go_wp2_with fail
         refine (rNumber_any _ 65535 w2 (by omega) (by omega)).mono ?_
         rintro e w3 ⟨rfl,hw⟩
         subst hw
         rw [HNV.out]
         go_wp2
         go_ret3
         exact ⟨by rw [HX.out];rfl,HB2.out⟩
        .rw [hpo] at HX
         clear hpo
         rcases hnv with hnv|hnv|hnv
         all_goals
          have HNV:=hid hnv
          clear hnv
          go_wp2_with fail
          refine (rNumber_any _ 65535 w2 (by omega) (by omega)).mono ?_
          rintro e w3 ⟨rfl,hw⟩
          subst hw
          rw [HNV.out]
          go_wp2
          go_ret3
          exact ⟨by rw [HX.out];rfl,HB2.out⟩
   .have e1:((s[j].toNat:Int) != 58)=true:=by
     simp only [bne_iff_ne,ne_eq]
     intro q
     exact h58 (UInt8.toNat_inj.1 (by simp;omega))
    have HX:=hid (HST.out (.inr h58))
    clear h58
    by_cases h91:s[j]=91
    .have e2:((s[j].toNat:Int) == 91)=true:=by rw [h91];rfl
     have e3:((s[j].toNat:Int) == 93)=false:=by rw [h91];rfl
     have q1:insB s[j] bb=true:=by rw [h91];rfl
     rw [q1] at HX
     clear h91 q1
     cases bb with
     | true =>
       go_wp2
       go_round
       case rel=>exact ⟨j+1,true,by omega,by go_num,rfl,HX.out⟩
       case measure=>simp [intOf] <;> omega
     | false =>
       go_wp2
       go_round
       case rel=>exact ⟨j+1,true,by omega,by go_num,rfl,HX.out⟩
       case measure=>simp [intOf] <;> omega
    .have e2:((s[j].toNat:Int) == 91)=false:=by
      rw [beq_eq_false_iff_ne]
      intro q
      exact h91 (UInt8.toNat_inj.1 (by simp;omega))
     cases bb with
     | false =>
       have q1:insB s[j] false=false:=by unfold insB;simp [h91]
       rw [q1] at HX
       clear q1
       by_cases h93:s[j]=93
       .have e3:((s[j].toNat:Int) == 93)=true:=by rw [h93];rfl
        clear h91 h93
        go_wp2
        go_round
        case rel=>exact ⟨j+1,false,by omega,by go_num,rfl,HX.out⟩
        case measure=>simp [intOf] <;> omega
       .have e3:((s[j].toNat:Int) == 93)=false:=by
         rw [beq_eq_false_iff_ne]
         intro q
         exact h93 (UInt8.toNat_inj.1 (by simp;omega))
        clear h91 h93
        go_wp2
        go_round
        case rel=>exact ⟨j+1,false,by omega,by go_num,rfl,HX.out⟩
        case measure=>simp [intOf] <;> omega
     | true =>
       by_cases h93:s[j]=93
       .have e3:((s[j].toNat:Int) == 93)=true:=by rw [h93];rfl
        have q1:insB s[j] true=false:=by rw [h93];rfl
        rw [q1] at HX
        clear h91 h93 q1
        go_wp2
        go_round
        case rel=>exact ⟨j+1,false,by omega,by go_num,rfl,HX.out⟩
        case measure=>simp [intOf] <;> omega
       .have e3:((s[j].toNat:Int) == 93)=false:=by
         rw [beq_eq_false_iff_ne]
         intro q
         exact h93 (UInt8.toNat_inj.1 (by simp;omega))
        have q1:insB s[j] true=true:=by unfold insB;simp [h93]
        rw [q1] at HX
        clear h91 h93 q1
        go_wp2
        go_round
        case rel=>exact ⟨j+1,true,by omega,by go_num,rfl,HX.out⟩
        case measure=>simp [intOf] <;> omega
  .have x1:¬(j:Int)<s.size:=by omega
   have hjs:j=s.size:=by omega
   have HE:=hid (HR.out.out_ hjs)
   have HBD:=hid (fun q=>wh_bad HE.out q)
   have HOK:=hid (fun q=>wh_end HE.out q hjs)
   have x0:(0:Int)<=j:=by omega
   have x2:(j:Int)<=s.size:=by omega
   have x3:((j:Int) == s.size)=true:=by rw [hjs];exact beq_self_eq_true _
   clear hjs
   go_wp2_with fail
   refine (rLower_any _ w (by omega)).mono ?_
   rintro e w1 ⟨rfl,hb1⟩
   rw [HLO.out]
   have HB1:=hid hb1
   have hs1:=hb1.size
   clear hb1
   go_wp2_with fail
   refine (rHost_any _ w1 (by show (low (s.data.toList.take j)).length<=_;omega)).mono ?_
   rintro e w2 ⟨rfl,hb2⟩
   rw [HHO.out]
   have HB2:=hid (HB1.out.trans (hb2.mono hs1))
   clear hb2
   cases hh:hostB (low (s.data.toList.take j)) with
   | false =>
     have HX:=hid (HBD.out hh)
     clear hh
     go_wp2
     go_ret3
     exact ⟨by rw [HX.out];rfl,HB2.out⟩
   | true =>
     have HX:=hid (HOK.out hh)
     clear hh
     go_wp2
     go_ret3
     exact ⟨by rw [HX.out];rfl,HB2.out⟩
theorem PrmB.of_own {w:World} {base:Nat} {v:Value} {ps:List Par} (h:w.ownsRow base 95 3 v ps.length (rows parC ps)):PrmB w w.heap.size v ps:=by
 obtain ⟨A,c,e,_,_,hr⟩:=RdV.of_own h
 exact ⟨A,c,e,hr.1,fun hn=>by
  obtain ⟨gb,off,e,hlt,hc⟩:=hr.at_ hn
  exact ⟨gb,off,e,hlt,hc⟩⟩
def zeroU:Array Value:=#[.string ⟨#[]⟩,.string ⟨#[]⟩,.string ⟨#[]⟩,.int .i64 0,.slice none 0 0,.slice none 0 0]
structure PSt (w:World) (cs:Array Value) (wr:World):Prop where
 r:Blk wr w.heap.size 32 zeroU
 u:Blk wr (w.heap.size+1) 32 cs
 be:Below w.heap.size w wr
theorem PSt.lt {w wr:World} {cs:Array Value} (h:PSt w cs wr):w.heap.size+2<=wr.heap.size:=h.u.lt
theorem PSt.on {w wr w':World} {cs:Array Value} (h:PSt w cs wr) (hb:Below wr.heap.size wr w'):PSt w cs w' :=
 ⟨h.r.fr (Fr.of_below (F:=fun _=>False) hb) (fun h=>h),h.u.fr (Fr.of_below (F:=fun _=>False) hb) (fun h=>h),h.be.trans (hb.mono (by have:=h.lt;omega))⟩
theorem PSt.drewN {w wr:World} {cs:Array Value} (h:PSt w cs wr) (n:Nat):PSt w cs (wr.drewN n):=⟨h.r,h.u,below_drewN h.be n⟩
theorem PSt.start (w:World):PSt w zeroU ((w.alloc (.cells zeroU 32)).alloc (.cells zeroU 32)) :=
 ⟨(Blk.new w _ _).alloc _,Blk.new' _ _ _ (by simp),((Below.refl _ _).alloc (Nat.le_refl _) _).alloc (by simp) _⟩
abbrev six (wr:World) (g:Nat) (x0 x1 x2 x3 x4 x5:Value):World :=
 (((((wr.setCell ⟨g,0,none⟩ x0).setCell ⟨g,1,none⟩ x1).setCell ⟨g,2,none⟩ x2).setCell ⟨g,3,none⟩ x3).setCell ⟨g,4,none⟩ x4).setCell ⟨g,5,none⟩ x5
theorem Blk.six {wr:World} {g:Nat} {t:TypeId} {a0 a1 a2 a3 a4 a5:Value} (h:Blk wr g t #[a0,a1,a2,a3,a4,a5]) (x0 x1 x2 x3 x4 x5:Value):Blk (six wr g x0 x1 x2 x3 x4 x5) g t #[x0,x1,x2,x3,x4,x5] :=
 (((((h.set_ 0 x0).set_ 1 x1).set_ 2 x2).set_ 3 x3).set_ 4 x4).set_ 5 x5
theorem below_six {B g:Nat} {w wr:World} (h:Below B w wr) (hg:B<=g) (x0 x1 x2 x3 x4 x5:Value):Below B w (six wr g x0 x1 x2 x3 x4 x5) :=
 (((((h.setCell (p:=⟨g,0,none⟩) hg _).setCell (p:=⟨g,1,none⟩) hg _).setCell (p:=⟨g,2,none⟩) hg _).setCell (p:=⟨g,3,none⟩) hg _).setCell (p:=⟨g,4,none⟩) hg _).setCell (p:=⟨g,5,none⟩) hg _
theorem cells_six {wr:World} {g:Nat} {t:TypeId} {a0 a1 a2 a3 a4 a5:Value} (h:Blk wr g t #[a0,a1,a2,a3,a4,a5]) (x0 x1 x2 x3 x4 x5:Value) :
 (six wr g x0 x1 x2 x3 x4 x5).cell? ⟨g,0,none⟩=some x0/\(six wr g x0 x1 x2 x3 x4 x5).cell? ⟨g,1,none⟩=some x1/\(six wr g x0 x1 x2 x3 x4 x5).cell? ⟨g,2,none⟩=some x2/\(six wr g x0 x1 x2 x3 x4 x5).cell? ⟨g,3,none⟩=some x3/\(six wr g x0 x1 x2 x3 x4 x5).cell? ⟨g,4,none⟩=some x4/\(six wr g x0 x1 x2 x3 x4 x5).cell? ⟨g,5,none⟩=some x5:=by
 have k:=h.six x0 x1 x2 x3 x4 x5
 exact ⟨k.cell 0,k.cell 1,k.cell 2,k.cell 3,k.cell 4,k.cell 5⟩
def userR (rest:T):Option (T × T):=if (cutT 64 rest).2.2 then (userO (cutT 64 rest).1).map (·,(cutT 64 rest).2.1) else some ([],rest)
theorem parse_no {s:T} (h:(cutT 58 s).2.2=false\/schemeB (low (cutT 58 s).1)=false):parseE s=(noUri,30):=if_pos h
theorem parse_yes {s:T} (h:(cutT 58 s).2.2=true) (h2:schemeB (low (cutT 58 s).1)=true):parseE s=match userR (cutT 58 s).2.1 with
 | some p=>restE (low (cutT 58 s).1) p.1 p.2
 | none=>(noUri,31):=by
 unfold parseE userR
 simp only [h,h2,Bool.true_eq_false,or_false,if_false]
 cases hq:(cutT 64 (cutT 58 s).2.1).2.2 with
 | false=>simp
 | true =>
   simp only [if_true]
   cases userO (cutT 64 (cutT 58 s).2.1).1 <;> rfl
theorem user_good {l t:T} (h:plainT users l=some t) (h2:t≠[]) (h3:¬64<t.length):userO l=some t:=by unfold userO;rw [h];exact if_neg (by rintro (q|q);exact h2 q;exact h3 q)
def hdrO (q:T × T × Bool):Option (List Par):=if q.2.2 then readP headers (splitT 38 q.2.1) else some []
theorem rest_is (scheme user rest:T):restE scheme user rest=if (whereE ((splitT 59 (cutT 63 rest).1).headD [])).2.2≠0 then (noUri,(whereE ((splitT 59 (cutT 63 rest).1).headD [])).2.2) else
 match readP params (splitT 59 (cutT 63 rest).1).tail,hdrO (cutT 63 rest) with
 | some p,some h=>finE ⟨scheme,user,(whereE ((splitT 59 (cutT 63 rest).1).headD [])).1,(whereE ((splitT 59 (cutT 63 rest).1).headD [])).2.1,p,h⟩
 | _,_=>(noUri,34):=rfl
theorem PSt.rc {w wr:World} {cs:Array Value} {g:Nat} (h:PSt w cs wr) (hg:w.heap.size=g) :
 (wr.cell? ⟨g,0,none⟩=some (.string ⟨#[]⟩)/\wr.cell? ⟨g,1,none⟩=some (.string ⟨#[]⟩)/\wr.cell? ⟨g,2,none⟩=some (.string ⟨#[]⟩)/\wr.cell? ⟨g,3,none⟩=some (.int .i64 0)/\wr.cell? ⟨g,4,none⟩=some (.slice none 0 0)/\wr.cell? ⟨g,5,none⟩=some (.slice none 0 0)) /\
 (wr.frozen? ⟨g,0,none⟩=false/\wr.frozen? ⟨g,1,none⟩=false/\wr.frozen? ⟨g,2,none⟩=false/\wr.frozen? ⟨g,3,none⟩=false/\wr.frozen? ⟨g,4,none⟩=false/\wr.frozen? ⟨g,5,none⟩=false):=by
 subst hg
 have hr:Blk wr w.heap.size 32 #[.string ⟨#[]⟩,.string ⟨#[]⟩,.string ⟨#[]⟩,.int .i64 0,.slice none 0 0,.slice none 0 0]:=h.r
 exact ⟨⟨hr.cell 0,hr.cell 1,hr.cell 2,hr.cell 3,hr.cell 4,hr.cell 5⟩,hr.frozen 0,hr.frozen 1,hr.frozen 2,hr.frozen 3,hr.frozen 4,hr.frozen 5⟩
theorem PSt.rz {w wr:World} {cs:Array Value} {g:Nat} (h:PSt w cs wr) (hg:w.heap.size=g) (x0 x1 x2 x3 x4 x5:Value) :
 ((six wr g x0 x1 x2 x3 x4 x5).cell? ⟨g,0,none⟩=some x0/\(six wr g x0 x1 x2 x3 x4 x5).cell? ⟨g,1,none⟩=some x1/\(six wr g x0 x1 x2 x3 x4 x5).cell? ⟨g,2,none⟩=some x2/\(six wr g x0 x1 x2 x3 x4 x5).cell? ⟨g,3,none⟩=some x3/\(six wr g x0 x1 x2 x3 x4 x5).cell? ⟨g,4,none⟩=some x4/\(six wr g x0 x1 x2 x3 x4 x5).cell? ⟨g,5,none⟩=some x5)/\Below w.heap.size w (six wr g x0 x1 x2 x3 x4 x5):=by
 subst hg
 have hr:Blk wr w.heap.size 32 #[.string ⟨#[]⟩,.string ⟨#[]⟩,.string ⟨#[]⟩,.int .i64 0,.slice none 0 0,.slice none 0 0]:=h.r
 exact ⟨cells_six hr _ _ _ _ _ _,below_six h.be (Nat.le_refl _) _ _ _ _ _ _⟩
def OwnP (n:Nat) (wr:World) (v:Value) (ps:List Par):Prop:=∃ base,n<=base/\wr.ownsRow base 95 3 v ps.length (rows parC ps)
theorem OwnP.fr {n:Nat} {wr w':World} {v:Value} {ps:List Par} (h:OwnP n wr v ps) (hf:Fr (fun k=>k<n) wr w'):OwnP n w' v ps:=by
 obtain ⟨base,hb,ho⟩:=h
 exact ⟨base,hb,own_fr ho hf (fun k hk q=>by have:=(ho.lt k hk).1;omega)⟩
theorem OwnP.on {n:Nat} {wr w':World} {v:Value} {ps:List Par} (h:OwnP n wr v ps) (hf:Below wr.heap.size wr w'):OwnP n w' v ps:=h.fr (Fr.of_below hf)
theorem OwnP.set {n:Nat} {wr:World} {v:Value} {ps:List Par} (h:OwnP n wr v ps) {g i:Nat} (hg:g<n) (x:Value):OwnP n (wr.setCell ⟨g,i,none⟩ x) v ps:=h.fr ((Fr.refl _ _).set (p:=⟨g,i,none⟩) (fun _=>hg) _)
theorem OwnP.six_ {n:Nat} {wr:World} {v:Value} {ps:List Par} (h:OwnP n wr v ps) {g:Nat} (hg:g<n) (x0 x1 x2 x3 x4 x5:Value):OwnP n (six wr g x0 x1 x2 x3 x4 x5) v ps:=(((((h.set hg _).set hg _).set hg _).set hg _).set hg _).set hg _
theorem OwnP.nil (n:Nat) (wr:World):OwnP n wr (.slice none 0 0) []:=⟨n,Nat.le_refl _,by simp [rows],.inl ⟨rfl,rfl⟩⟩
theorem OwnP.prm {n:Nat} {wr:World} {v:Value} {ps:List Par} (h:OwnP n wr v ps):PrmB wr wr.heap.size v ps:=by
 obtain ⟨base,_,ho⟩:=h
 exact PrmB.of_own ho
theorem head_of {L:List T} (h:0<L.length):L.headD []=L[0]:=by
 cases L with
 | nil=>simp at h
 | cons a r=>rfl
theorem unesc_len:∀ {l t:T},unesc l=some t->t.length<=l.length
 | [],t,h=>by unfold unesc at h;injection h with h;subst h;simp
 | [a],t,h=>by
   unfold unesc at h
   split at h
   .simp only [unesc,Option.map_some,Option.some.injEq] at h;subst h;simp
   .cases h
 | [a,b],t,h=>by
   unfold unesc at h
   split at h
   .cases hr:unesc [b] with
    | none=>rw [hr] at h;cases h
    | some q =>
      rw [hr] at h
      simp only [Option.map_some,Option.some.injEq] at h
      subst h
      have:=unesc_len hr
      simp only [List.length_cons] at *;omega
   .cases h
 | a::b::c::r,t,h=>by
   unfold unesc at h
   split at h
   .cases hr:unesc (b::c::r) with
    | none=>rw [hr] at h;cases h
    | some q =>
      rw [hr] at h
      simp only [Option.map_some,Option.some.injEq] at h
      subst h
      have:=unesc_len hr
      simp only [List.length_cons] at *;omega
   .simp only at h
    split at h
    .cases hr:unesc r with
     | none=>rw [hr] at h;cases h
     | some q =>
       rw [hr] at h
       simp only [Option.map_some,Option.some.injEq] at h
       subst h
       have:=unesc_len hr
       simp only [List.length_cons] at *;omega
    .cases h
theorem plain_len {keep l t:T} (h:plainT keep l=some t):t.length<=l.length:=by
 unfold plainT at h
 split at h
 .exact unesc_len h
 .cases h
theorem read_len {keep:T}:∀ {l:List T} {ps:List Par},readP keep l=some ps->ps.length=l.length/\∀ p∈ps,∃ s∈l,p.name.length<=s.length/\p.value.length<=s.length
 | [],ps,h=>by
   unfold readP at h
   injection h with h
   subst h
   simp
 | s::r,ps,h=>by
   rw [readP_cons] at h
   cases h1:plainT keep (cutT 61 s).1 with
   | none=>rw [h1] at h;cases h
   | some n =>
     cases h2:plainT keep (cutT 61 s).2.1 with
     | none=>rw [h1,h2] at h;cases h
     | some v =>
       rw [h1,h2] at h
       simp only at h
       cases hr:readP keep r with
       | none=>rw [hr] at h;cases h
       | some q =>
         rw [hr] at h
         simp only [Option.map_some,Option.some.injEq] at h
         subst h
         obtain ⟨i1,i2⟩:=read_len hr
         have c:=cut_lens 61 s
         have l1:=plain_len h1
         have l2:=plain_len h2
         refine ⟨by simp [i1],fun p hp=>?_⟩
         rcases List.mem_cons.1 hp with e|e
         .subst e
          exact ⟨s,by simp,by show n.length<=_;omega,by show v.length<=_;omega⟩
         .obtain ⟨x,hx,a,b⟩:=i2 p e
          exact ⟨x,by simp [hx],a,b⟩
theorem hdr_len {q:T × T × Bool} {ph:List Par} (hb:q.2.1.length<=100000000) (h:hdrO q=some ph):ph.length<=100000001/\∀ p∈ph,parS p:=by
 unfold hdrO at h
 split at h
 .have hs:=split_lens 38 q.2.1
  obtain ⟨h1,h2⟩:=read_len h
  refine ⟨by omega,fun p hp=>?_⟩
  obtain ⟨s,hs',a,b⟩:=h2 p hp
  have:=hs.2 s hs'
  exact ⟨by omega,by omega⟩
 .injection h with h
  subst h
  simp
theorem where_len (l:T):(whereE l).1.length<=l.length/\0<=(whereE l).2.1/\(whereE l).2.1<=65535:=by
 have hlow:(low (l.take (endT false l))).length<=l.length:=by unfold low;rw [List.length_map,List.length_take];omega
 unfold whereE
 simp only
 split
 .simp
 .split
  .exact ⟨hlow,by simp,by simp⟩
  .cases hp:portO (l.drop (endT false l+1)) with
   | none=>simp
   | some n =>
     unfold portO at hp
     split at hp
     .injection hp with hp
      subst hp
      rename_i hh
      exact ⟨hlow,by simp,by have:=hh.2.2.2;show ((valT _:Nat):Int)<=65535;omega⟩
     .cases hp
end Go.Proofs.YthkadehlclcggaaGreatDoor
