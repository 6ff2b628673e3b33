/- Chapter 16: the document's answer, Do: a publication that goes on. -/
import Derived.Test.YthfmekdbcoaolaaGreatDoorGy44
import Derived.Test.YthfmekdbcoaolaaGreatDoorGy39
import Derived.Deep.RegionHeld3
namespace Go.Proofs.YthfmekdbcoaolaaGreatDoor
set_option linter.unusedSimpArgs false
set_option linter.unusedVariables false
open Go.RowKit
open Go.Lib (hid)
set_option maxRecDepth 100000 in
set_option maxHeartbeats 0 in
theorem rdo_put {w:World} {N:Nat->Prop} {B:Nat} {c:Conf} {last now:Int} {L:List Pub} {v:Value} {l:List TM} {a:AskP} {At An:Option Addr} {ct cn:Nat} (H:RL w N B L v) (Q:StQ c last L l) (hB:B<=w.heap.size) (hd:DocB w B a.doc (.slice At a.doc.tups.length ct) (.slice An a.doc.notes.length cn)) (hs:AskS a) (he:a.has=true->a.doc.ent.length<=99999990) (hla:last<=1000000) (h:argE L now a=false) (hm:a.mtch≠[]) {j:Nat} (hj:j<L.length) (hp:plcI L a.mtch=j) (htg:L[j].tag=a.mtch) (hw:L[j].who=a.who) (hk:secK c a.exp=true) (hy:secN c a.exp≠0) :
 Calls Tryz.prog 29 #[.agg (rsV c last v),.int .i64 now,.agg #[.string (str a.who),.string (str a.mtch),.int .i64 a.exp,.bool a.has,.string (str a.doc.ent),.slice At a.doc.tups.length ct,.slice An a.doc.notes.length cn,.string (str a.tag)]] w (RDoPost N B c (doR c last L now a) w):=by
 obtain ⟨A0,cp0,rfl⟩:∃ A cp,v=.slice A L.length cp:=by
  obtain ⟨xs,A,cp,e1,e2,_⟩:=H
  exact ⟨A,cp,by rw [e2,<-e1,List.length_map]⟩
 have hnn:(L.map (·.number)).Nodup/\(L.map (·.tag)).Nodup:=⟨pubs_idnd Q.ids,Q.tags⟩
 obtain ⟨W0,hW0⟩:∃ W0,(((w.alloc (.cells (rsV c last (.slice A0 L.length cp0)) 60)).alloc (.cells #[.string (str a.who),.string (str a.mtch),.int .i64 a.exp,.bool a.has,.string (str a.doc.ent),.slice At a.doc.tups.length ct,.slice An a.doc.notes.length cn,.string (str a.tag)] 42)).alloc (.cells #[.string ⟨#[]⟩,.int .i64 0,.int .i64 0,.int .i64 0,.int .i64 0,.int .i64 0,.int .i64 0,.int .i64 0,.slice none 0 0] 60)).alloc (.cells #[.int .i64 0,.int .i64 0,.string ⟨#[]⟩,.bool false] 33)=W0:=⟨_,rfl⟩
 have HBX:=hid (rdo_box hW0)
 have HRL:Hid (∀ W,Below W0.heap.size W0 W->RL W (fun k=>k<w.heap.size/\N k\/w.heap.size+4<=k) B L (.slice A0 L.length cp0)):=hid (fun W hW=>rl_old H (HBX.out W hW).be hB)
 have HPL:Hid (∀ W,Below W0.heap.size W0 W->∀ tag,Calls Tryz.prog 22 #[.agg (rsV c last (.slice A0 L.length cp0)),.string (str tag)] W (PlcPost L tag W)):=hid (fun W hW tag=>place_any (HRL.out W hW) (by have:=Q.len;have:=Q.pubs;omega))
 unfold PlcPost at HPL
 have HTK:Hid (∀ W,Calls Tryz.prog 21 #[.string (str a.tag)] W fun e w'=>e=.returned (.bool (tokB a.tag))/\W=w'):=hid (fun W=>rtoken_any a.tag W (by have:=hs.tag;omega))
 have HCK:Hid (a.has=true->∀ W,Below W0.heap.size W0 W->Calls Tryz.prog 44 #[.agg #[.string (str a.doc.ent),.slice At a.doc.tups.length ct,.slice An a.doc.notes.length cn]] W fun e w'=>e=.returned (.int .i64 (docE a.doc))/\Below W.heap.size W w'):=hid (fun hh W hW=>rcheck_any (B:=B) (Nat.le_trans hB (HBX.out W hW).be.size) (hd.below ((HBX.out W hW).be.mono hB)) hs.doc (he hh))
 have HW:Hid (Below W0.heap.size W0 W0):=hid (Below.refl _ _)
 have HARG:=hid (argE_no h)
 have HPT:Hid (plcI L a.tag=-1):=hid (plc_no fun p hp e=>HARG.out.2.2.2.1 (List.mem_map.2 ⟨p,hp,e⟩))
 rw [HARG.out.2.2.1] at HTK
 have HPT2:Hid (∀ W,Below W0.heap.size W0 W->Calls Tryz.prog 22 #[.agg (rsV c last (.slice A0 L.length cp0)),.string (str a.tag)] W fun e w'=>e=.returned (.int .i64 (-1))/\Below W.heap.size W w'):=hid (fun W hW=>by
  have h9:=HPL.out W hW a.tag
  rw [HPT.out] at h9
  exact h9)
 have HCK2:Hid (a.has=true->∀ W,Below W0.heap.size W0 W->Calls Tryz.prog 44 #[.agg #[.string (str a.doc.ent),.slice At a.doc.tups.length ct,.slice An a.doc.notes.length cn]] W fun e w'=>e=.returned (.int .i64 0)/\Below W.heap.size W w'):=hid (fun hh W hW=>by
  have h9:=HCK.out hh W hW
  rw [HARG.out.2.2.2.2 hh] at h9
  exact h9)
 have HSEC:Hid (∀ W,Calls Tryz.prog 12 #[.agg #[.string (str c.host),.int .i64 c.calls,.int .i64 c.pubs,.int .i64 c.subs,.int .i64 c.least,.int .i64 c.most,.int .i64 c.usual],.int .i64 a.exp] W fun e w'=>e=.returned (.tuple #[.int .i64 (secN c a.exp),.bool (secK c a.exp)])/\Below W.heap.size W w'):=hid (fun W=>rseconds_any c a.exp W)
 have HPM:Hid (∀ W,Below W0.heap.size W0 W->Calls Tryz.prog 22 #[.agg (rsV c last (.slice A0 L.length cp0)),.string (str a.mtch)] W fun e w'=>e=.returned (.int .i64 (plcI L a.mtch))/\Below W.heap.size W w'):=hid (fun W hW=>HPL.out W hW a.mtch)
 have d1:decide (now<0)=false:=decide_eq_false (by have:=HARG.out.1;omega)
 have d2:decide (now > 549755813888)=false:=decide_eq_false (by have:=HARG.out.2.1;omega)
 obtain ⟨xs,hxl,hxn,hcp,hrd,hdoc,hone⟩:=rl_open H
 have HXL:=hid hxl
 have HXN:=hid hxn
 have HCP:=hid hcp
 have HONE:=hid hone
 have HLX:Hid (L.length<=200):=hid (by have:=Q.len;have:=Q.pubs;omega)
 have HR0:Hid (∀ W,Below W0.heap.size W0 W->Rd W 66 7 L.length A0 (rows rpC xs)):=hid (fun W hW=>hrd.below (HBX.out W hW).be)
 have HDC:Hid (∀ W,Below W0.heap.size W0 W->∀ x∈xs,DocB W B x.p.doc x.vt x.vn):=hid (fun W hW x hx=>(hdoc x hx).below ((HBX.out W hW).be.mono hB))
 have HDA:Hid (∀ W,Below W0.heap.size W0 W->DocB W B a.doc (.slice At a.doc.tups.length ct) (.slice An a.doc.notes.length cn)):=hid (fun W hW=>hd.below ((HBX.out W hW).be.mono hB))
 have HBZ:Hid (w.heap.size+4<=W0.heap.size):=hid (by rw [<-hW0];simp)
 have HNB:=hid (sec_lo Q.right a.exp)
 have HLA:=hid (And.intro Q.last hla)
 have HONE1:Hid (∀ u∈rows rpC (xs.take j),u.oneCell'=true):=hid (rows_one' _ fun x hx=>doc_one (hdoc x (List.mem_of_mem_take hx)))
 have HONE2:Hid (∀ u∈rows rpC (xs.drop (j+1)),u.oneCell'=true):=hid (rows_one' _ fun x hx=>doc_one (hdoc x (List.mem_of_mem_drop hx)))
 have HRES:=hid (doR_old4 (c:=c) (last:=last) h hm hnn.1 hnn.2 (List.getElem_mem hj) htg hw hk hy)
 rw [set_split hj hnn.1 (q:=putP L[j] a now (secN c a.exp)) rfl] at HRES
 have hjx:j<xs.length:=by omega
 have HXJ:Hid (xs[j].p=L[j]):=hid (by
  have h9:(xs.map (·.p))[j]'(by simpa using hjx)=L[j]:=by simp only [hxl]
  simpa using h9)
 have HJ1:Hid (xs[j].vt.oneCell'=true/\xs[j].vn.oneCell'=true):=hid (doc_one (hdoc _ (List.getElem_mem hjx)))
 have HROWS:Hid (∀ W,Below W0.heap.size W0 W->∃ gb off,A0=some ⟨gb,off,none⟩/\W.cell? ⟨gb,off+j*7,none⟩=some (.int .i64 L[j].number)/\W.cell? ⟨gb,off+j*7+1,none⟩=some (.string (str L[j].who))/\W.cell? ⟨gb,off+j*7+2,none⟩=some (.string (str L[j].tag))/\W.cell? ⟨gb,off+j*7+3,none⟩=some (.int .i64 L[j].until_)/\W.cell? ⟨gb,off+j*7+4,none⟩=some (.string (str L[j].doc.ent))/\W.cell? ⟨gb,off+j*7+5,none⟩=some xs[j].vt/\W.cell? ⟨gb,off+j*7+6,none⟩=some xs[j].vn):=hid (fun W hW=>by
  have hr:=HR0.out W hW
  rw [hxn] at hr
  obtain ⟨gb,off,e,_,y0,y1,y2,y3,y4,y5,y6⟩:=rp_rd hr hjx
  rw [HXJ.out] at y0 y1 y2 y3 y4
  exact ⟨gb,off,e,y0,y1,y2,y3,y4,y5,y6⟩)
 have HENDN:=hid (fun (wb:World) (v2:Value) (base:Nat) (y:RP) (ch:Bool) (hch:a.has=ch) (hyp:y.p=putP L[j] a now (secN c a.exp)) (hbs:w.heap.size+4<=base) (hW:Below W0.heap.size W0 wb) (hyd:DocB wb B y.p.doc y.vt y.vn) (ho:wb.ownsRow base 66 7 v2 (j+1+(L.length-(j+1))) (rows rpC (xs.take j)++rpC y++rows rpC (xs.drop (j+1))))=>rdo_end (s:=str a.tag) (ch:=ch) rfl (HBX.out wb hW) hB (show doR c last L now a=⟨last,L.take j++putP L[j] a now (secN c a.exp)::L.drop (j+1),⟨200,secN c a.exp,a.tag,ch⟩,0⟩ by rw [<-hch];exact HRES.out) (show RL wb (fun k=>k<w.heap.size/\N k\/w.heap.size+4<=k) B (L.take j++putP L[j] a now (secN c a.exp)::L.drop (j+1)) v2 by
  have h9:=rl_own (xs:=xs.take j++y::xs.drop (j+1)) (N':=fun k=>k<w.heap.size/\N k\/w.heap.size+4<=k) (B:=B) (by
   have hlen:(xs.take j++y::xs.drop (j+1)).length=(j+1+(L.length-(j+1))):=by have:=HXN.out;rw [List.length_append,List.length_cons,List.length_take,List.length_drop];omega
   rw [rows_append,hlen,rows_cons,<-List.append_assoc]
   exact ho) (fun k hk=>.inr (Nat.le_trans hbs hk)) (fun x hx=>by
   rcases List.mem_append.1 hx with q|q
   .exact HDC.out wb hW x (List.mem_of_mem_take q)
   .rcases List.mem_cons.1 q with q|q
    .subst q;exact hyd
    .exact HDC.out wb hW x (List.mem_of_mem_drop q))
  rw [List.map_append,List.map_cons,List.map_take,List.map_drop,HXL.out,hyp] at h9
  exact h9))
 have HXD:Hid (∀ W,Below W0.heap.size W0 W->DocB W B L[j].doc xs[j].vt xs[j].vn):=hid (fun W hW=>by
  have h9:=HDC.out W hW _ (List.getElem_mem hjx)
  rw [HXJ.out] at h9
  exact h9)
 have qe:(str a.mtch).toList.isEmpty=false:=by rw [size_nil];exact decide_eq_false hm
 have HROW:Hid (∀ W,Below W0.heap.size W0 W->∃ gb off,A0=some ⟨gb,off,none⟩/\W.cell? ⟨gb,off+j*7+1,none⟩=some (.string (str L[j].who))):=hid (fun W hW=>rl_who (HRL.out W hW) hj)
 rw [hp] at HPM
 have x0:(0:Int)<=j:=by omega
 have x1:(j:Int)<L.length:=by omega
 have x2:decide ((j:Int)<0)=false:=decide_eq_false (by omega)
 have w1:((str L[j].who).toList == (str a.who).toList)=true:=by rw [hw];exact beq_self_eq_true _
 have w2:(str L[j].who).toList=(str a.who).toList:=by rw [hw]
 have w3:((str L[j].who).toList != (str a.who).toList)=false:=by rw [hw];simp
 have HJX:=hid hjx
 obtain ⟨⟨AT2,cT2,eT2,_⟩,⟨AN2,cN2,eN2,_⟩⟩:=hdoc _ (List.getElem_mem hjx)
 clear hp htg hm hw h H Q hd hs he hnn hxl hxn hcp hrd hdoc hone
 generalize secN c a.exp=n at *
 generalize secK c a.exp=K at *
 subst hk
 generalize hXT:xs[j].vt=XT at *
 generalize hXV:xs[j].vn=XV at *
 clear hXT hXV
 subst eT2
 subst eN2
 generalize xs[j].p.doc.tups.length=NT2 at *
 generalize xs[j].p.doc.notes.length=NN2 at *
 go_enter Tryz.func29,Tryz.ntmps29
 go_upto_region 1 with (fail)
 try rw [hW0]
 clear hW0
 obtain ⟨c0,c1,c2,c3,c4,c5,c6,c7,c8⟩:=(HBX.out W0 HW.out).sc
 obtain ⟨a0,a1,a2,a3,a4,a5,a6,a7⟩:=(HBX.out W0 HW.out).ac
 obtain ⟨r0,r1,r2,r3,r4,r5,r6,r7,r8,f0,f1,f2,f3,f4,f5,f6,f7,f8⟩:=(HBX.out W0 HW.out).rc
 obtain ⟨t0,t1,t2,t3,g0,g1,g2,g3⟩:=(HBX.out W0 HW.out).tc
 cases hh:a.has with
 | false =>
   rw [hh] at a3
   go_wp2_with fail
   refine (HTK.out _).mono ?_
   rintro e w1 ⟨rfl,rfl⟩
   go_wp2_with fail
   refine (HPT2.out _ HW.out).mono ?_
   rintro e w1 ⟨rfl,hb9⟩
   have HW:=hid (thenB_ HW.out hb9)
   clear hb9
   clear c0 c1 c2 c3 c4 c5 c6 c7 c8 a0 a1 a2 a3 a4 a5 a6 a7 r0 r1 r2 r3 r4 r5 r6 r7 r8 f0 f1 f2 f3 f4 f5 f6 f7 f8 t0 t1 t2 t3 g0 g1 g2 g3
   obtain ⟨c0,c1,c2,c3,c4,c5,c6,c7,c8⟩:=(HBX.out w1 HW.out).sc
   obtain ⟨a0,a1,a2,a3,a4,a5,a6,a7⟩:=(HBX.out w1 HW.out).ac
   obtain ⟨r0,r1,r2,r3,r4,r5,r6,r7,r8,f0,f1,f2,f3,f4,f5,f6,f7,f8⟩:=(HBX.out w1 HW.out).rc
   obtain ⟨t0,t1,t2,t3,g0,g1,g2,g3⟩:=(HBX.out w1 HW.out).tc
   rw [hh] at a3
   go_wp2_with fail
   refine (HSEC.out _).mono ?_
   rintro e w3 ⟨rfl,hb9⟩
   have HW:=hid (thenB_ HW.out hb9)
   clear hb9
   clear c0 c1 c2 c3 c4 c5 c6 c7 c8 a0 a1 a2 a3 a4 a5 a6 a7 r0 r1 r2 r3 r4 r5 r6 r7 r8 f0 f1 f2 f3 f4 f5 f6 f7 f8 t0 t1 t2 t3 g0 g1 g2 g3
   obtain ⟨c0,c1,c2,c3,c4,c5,c6,c7,c8⟩:=(HBX.out w3 HW.out).sc
   obtain ⟨a0,a1,a2,a3,a4,a5,a6,a7⟩:=(HBX.out w3 HW.out).ac
   obtain ⟨r0,r1,r2,r3,r4,r5,r6,r7,r8,f0,f1,f2,f3,f4,f5,f6,f7,f8⟩:=(HBX.out w3 HW.out).rc
   obtain ⟨t0,t1,t2,t3,g0,g1,g2,g3⟩:=(HBX.out w3 HW.out).tc
   rw [hh] at a3
   go_wp2_with fail
   refine (HPM.out _ HW.out).mono ?_
   rintro e w4 ⟨rfl,hb9⟩
   have HW:=hid (thenB_ HW.out hb9)
   clear hb9
   clear c0 c1 c2 c3 c4 c5 c6 c7 c8 a0 a1 a2 a3 a4 a5 a6 a7 r0 r1 r2 r3 r4 r5 r6 r7 r8 f0 f1 f2 f3 f4 f5 f6 f7 f8 t0 t1 t2 t3 g0 g1 g2 g3
   obtain ⟨c0,c1,c2,c3,c4,c5,c6,c7,c8⟩:=(HBX.out w4 HW.out).sc
   obtain ⟨a0,a1,a2,a3,a4,a5,a6,a7⟩:=(HBX.out w4 HW.out).ac
   obtain ⟨r0,r1,r2,r3,r4,r5,r6,r7,r8,f0,f1,f2,f3,f4,f5,f6,f7,f8⟩:=(HBX.out w4 HW.out).rc
   obtain ⟨t0,t1,t2,t3,g0,g1,g2,g3⟩:=(HBX.out w4 HW.out).tc
   rw [hh] at a3
   obtain ⟨gb,off,rfl,yw⟩:=HROW.out _ HW.out
   go_wp2
   go_quiet (fail)
   have HWq:=hid (below_drewN HW.out nq)
   obtain ⟨w5,hw5⟩:∃ w5,w4.drewN nq=w5:=⟨_,rfl⟩
   rw [hw5] at HWq ⊢
   have HW:=HWq
   clear HWq hw5
   clear c0 c1 c2 c3 c4 c5 c6 c7 c8 a0 a1 a2 a3 a4 a5 a6 a7 r0 r1 r2 r3 r4 r5 r6 r7 r8 f0 f1 f2 f3 f4 f5 f6 f7 f8 t0 t1 t2 t3 g0 g1 g2 g3
   obtain ⟨c0,c1,c2,c3,c4,c5,c6,c7,c8⟩:=(HBX.out w5 HW.out).sc
   obtain ⟨a0,a1,a2,a3,a4,a5,a6,a7⟩:=(HBX.out w5 HW.out).ac
   obtain ⟨r0,r1,r2,r3,r4,r5,r6,r7,r8,f0,f1,f2,f3,f4,f5,f6,f7,f8⟩:=(HBX.out w5 HW.out).rc
   obtain ⟨t0,t1,t2,t3,g0,g1,g2,g3⟩:=(HBX.out w5 HW.out).tc
   rw [hh] at a3
   have z1:(n == 0)=false:=by simpa using hy
   have HBL0:Hid (W0.heap.size<=w5.heap.size):=hid HW.out.size
   have hoe:Hid ((w5.alloc (.cells #[] 66)).ownsRow w5.heap.size 66 7 (.slice (some ⟨w5.heap.size,0,none⟩) 0 0) 0 []):=hid (own_empty (Blk.new w5 _ _) (Nat.le_refl _))
   have hra:Hid (Rd (w5.alloc (.cells #[] 66)) 66 7 j (some ⟨gb,off,none⟩) (rows rpC (xs.take j))):=hid (rd_take rpC_len (HXN.out▸(HR0.out _ HW.out).alloc _) (by have:=HXN.out;omega))
   have c8t:w5.cell? ⟨w.heap.size,8,none⟩=some (.slice (some ⟨gb,off,none⟩) L.length cp0):=c8
   clear c8
   have c8:=c8t
   clear c8t
   have c8a:(w5.alloc (.cells #[] 66)).cell? ⟨w.heap.size,8,none⟩=some (.slice (some ⟨gb,off,none⟩) L.length cp0):=((HBX.out _ HW.out).s.alloc _).cell 8
   have k6:(j:Int)<=cp0:=by have:=HCP.out;omega
   have hsw:w.heap.size+4<=w5.heap.size:=Nat.le_trans HBZ.out HW.out.size
   go_upto_region 19 with (at_builtin;go_must (refine wpList_app_rd _ rfl (.tmp 145) (.tmp 149) 45 rfl w5.heap.size 66 7 112 _ Tryz.underlying45 ePub rfl (by omega) (.slice (some ⟨w5.heap.size,0,none⟩) 0 0) 0 [] rfl hoe.out _ _ _ _ rfl hra.out HONE1.out (by have:=HLX.out;unfold maxLen;omega) (by have:=HLX.out;omega) (by simp) ?_);intro v13 w6 hown6 hb6 hg6 hat6;rw [Nat.zero_add,List.nil_append] at hown6)
   have HO6:=hid hown6
   have HW6:=hid (HW.out.trans ((((Below.refl w5.heap.size w5).alloc (Nat.le_refl _) (.cells #[] 66)).trans hb6).mono HW.out.size))
   have HS6:Hid (w5.heap.size<=w6.heap.size):=hid (Nat.le_trans (by simp) hb6.size)
   clear hown6 hb6 hg6 hat6 c8a
   clear c0 c1 c2 c3 c4 c5 c6 c7 c8 a0 a1 a2 a3 a4 a5 a6 a7 r0 r1 r2 r3 r4 r5 r6 r7 r8 f0 f1 f2 f3 f4 f5 f6 f7 f8 t0 t1 t2 t3 g0 g1 g2 g3
   have HW:=HW6
   obtain ⟨c0,c1,c2,c3,c4,c5,c6,c7,c8⟩:=(HBX.out w6 HW.out).sc
   obtain ⟨a0,a1,a2,a3,a4,a5,a6,a7⟩:=(HBX.out w6 HW.out).ac
   have c8t:w6.cell? ⟨w.heap.size,8,none⟩=some (.slice (some ⟨gb,off,none⟩) L.length cp0):=c8
   clear c8
   have c8:=c8t
   clear c8t
   rw [hh] at a3
   obtain ⟨hn0,hn1⟩:=HNB.out
   obtain ⟨hl0,hl1⟩:=HLA.out
   have hq0:=HARG.out.1
   have hq1:=HARG.out.2.1
   obtain ⟨gb9,off9,e9,y0,y1,y2,y3,y4,y5,y6⟩:=HROWS.out _ HW6.out
   obtain ⟨rfl,rfl⟩:gb=gb9/\off=off9:=by
    injection e9 with e9
    injection e9 with h1 h2
    exact ⟨h1,h2⟩
   clear e9
   go_upto_region 22 with (fail)
   obtain ⟨w7,hw7⟩:∃ w7,w6.alloc (.cells #[.int .i64 L[j].number,.string (str L[j].who),.string (str L[j].tag),.int .i64 L[j].until_,.string (str L[j].doc.ent),(.slice AT2 NT2 cT2),(.slice AN2 NN2 cN2)] 66)=w7:=⟨_,rfl⟩
   rw [hw7]
   have hk7:Blk w7 w6.heap.size 66 #[.int .i64 L[j].number,.string (str L[j].who),.string (str L[j].tag),.int .i64 L[j].until_,.string (str L[j].doc.ent),(.slice AT2 NT2 cT2),(.slice AN2 NN2 cN2)]:=hw7▸Blk.new w6 _ _
   have f7:Fr (fun k=>w6.heap.size<=k) w6 w7:=hw7▸(Fr.refl (fun k=>w6.heap.size<=k) w6).alloc _
   clear hw7 y0 y1 y2 y3 y4 y5 y6
   clear c0 c1 c2 c3 c4 c5 c6 c7 c8 a0 a1 a2 a3 a4 a5 a6 a7
   have HW:Hid (Below W0.heap.size W0 w7):=hid (HW6.out.trans (f7.to_below HW6.out.size (fun k e=>Nat.le_trans HW6.out.size e)))
   obtain ⟨c0,c1,c2,c3,c4,c5,c6,c7,c8⟩:=(HBX.out w7 HW.out).sc
   obtain ⟨a0,a1,a2,a3,a4,a5,a6,a7⟩:=(HBX.out w7 HW.out).ac
   rw [hh] at a3
   have b0:=hk7.cell 0
   have b1:=hk7.cell 1
   have b2:=hk7.cell 2
   have b3:=hk7.cell 3
   have b4:=hk7.cell 4
   have b5:=hk7.cell 5
   have b6:=hk7.cell 6
   have d2x:=hk7.frozen 2
   have d3x:=hk7.frozen 3
   go_upto_region 23 with (fail)
   obtain ⟨w8,hw8⟩:∃ w8,(w7.setCell ⟨w6.heap.size,2,none⟩ (.string (str a.tag))).setCell ⟨w6.heap.size,3,none⟩ (.int .i64 (now+10*n))=w8:=⟨_,rfl⟩
   rw [hw8]
   have hk8:Blk w8 w6.heap.size 66 #[.int .i64 L[j].number,.string (str L[j].who),.string (str a.tag),.int .i64 (now+10*n),.string (str L[j].doc.ent),(.slice AT2 NT2 cT2),(.slice AN2 NN2 cN2)]:=hw8▸(hk7.set_ 2 _).set_ 3 _
   have f8:Fr (fun k=>w6.heap.size<=k) w6 w8:=hw8▸((f7.set (p:=⟨w6.heap.size,2,none⟩) (fun _=>Nat.le_refl _) _).set (p:=⟨w6.heap.size,3,none⟩) (fun _=>Nat.le_refl _) _)
   clear hw8 hk7 f7 d2x d3x b0 b1 b2 b3 b4 b5 b6
   clear c0 c1 c2 c3 c4 c5 c6 c7 c8 a0 a1 a2 a3 a4 a5 a6 a7
   have HW:Hid (Below W0.heap.size W0 w8):=hid (HW6.out.trans (f8.to_below HW6.out.size (fun k e=>Nat.le_trans HW6.out.size e)))
   obtain ⟨c0,c1,c2,c3,c4,c5,c6,c7,c8⟩:=(HBX.out w8 HW.out).sc
   obtain ⟨a0,a1,a2,a3,a4,a5,a6,a7⟩:=(HBX.out w8 HW.out).ac
   rw [hh] at a3
   have b0:=hk8.cell 0
   have b1:=hk8.cell 1
   have b2:=hk8.cell 2
   have b3:=hk8.cell 3
   have b4:=hk8.cell 4
   have b5:=hk8.cell 5
   have b6:=hk8.cell 6
   go_upto_region 25 with (fail)
   obtain ⟨w9,hw9⟩:∃ w9,w8=w9:=⟨_,rfl⟩
   subst hw9
   have hk9:=hk8
   have f9:=f8
   clear hk8 b0 b1 b2 b3 b4 b5 b6
   clear c0 c1 c2 c3 c4 c5 c6 c7 c8 a0 a1 a2 a3 a4 a5 a6 a7
   have b0:=hk9.cell 0
   have b1:=hk9.cell 1
   have b2:=hk9.cell 2
   have b3:=hk9.cell 3
   have b4:=hk9.cell 4
   have b5:=hk9.cell 5
   have b6:=hk9.cell 6
   have HW9:Hid (Below W0.heap.size W0 w8):=hid (HW6.out.trans (f9.to_below HW6.out.size (fun k e=>Nat.le_trans HW6.out.size e)))
   have HO9:Hid (w8.ownsRow w5.heap.size 66 7 v13 j (rows rpC (xs.take j))):=hid (own_fr HO6.out f9 (fun k hk e=>by have:=(HO6.out.lt k hk).2;omega))
   have HS9:Hid (w5.heap.size<=w8.heap.size):=hid (Nat.le_trans HS6.out f9.size)
   go_upto_region 26 with (at_builtin;go_must (refine wpList_app1' rfl (.tmp 186) (.tmp 188) 45 rfl w5.heap.size 66 7 112 _ Tryz.underlying45 ePub rfl (by omega) _ j (rows rpC (xs.take j)) rfl HO9.out [.int .i64 L[j].number,.string (str L[j].who),.string (str a.tag),.int .i64 (now+10*n),.string (str L[j].doc.ent),(.slice AT2 NT2 cT2),(.slice AN2 NN2 cN2)] _ rfl (by first|rfl|(simp;done)) rfl (rpC_one (⟨⟨L[j].number,L[j].who,a.tag,now+10*n,L[j].doc⟩,(.slice AT2 NT2 cT2),(.slice AN2 NN2 cN2)⟩:RP) rfl rfl) (by have:=HLX.out;unfold maxLen;omega) (by have:=HLX.out;omega) (by have:=HS9.out;first|exact this|(simp;omega)) ?_);intro v14 w10 hown10 hb10 hg10 hat10)
   have HO10:Hid (w10.ownsRow w5.heap.size 66 7 v14 (j+1) (rows rpC (xs.take j)++rpC (⟨⟨L[j].number,L[j].who,a.tag,now+10*n,L[j].doc⟩,(.slice AT2 NT2 cT2),(.slice AN2 NN2 cN2)⟩:RP))):=hid hown10
   have HW10:Hid (Below W0.heap.size W0 w10):=hid (HW9.out.trans (hb10.mono HBL0.out))
   have HS10:Hid (w5.heap.size<=w10.heap.size):=hid (Nat.le_trans HS9.out hb10.size)
   clear hown10 hb10 hg10 hat10 hk9 f9 f8 b0 b1 b2 b3 b4 b5 b6
   have HWD:Hid (Below W0.heap.size W0 w10.drew):=hid HW10.out.drew
   have HWZ:=HW10
   have HBL:=HBL0
   have HBS:Hid (w.heap.size+4<=w5.heap.size):=hid (Nat.le_trans HBZ.out HBL0.out)
   have HOLD:Hid (w10.drew.ownsRow w5.heap.size 66 7 v14 (j+1) (rows rpC (xs.take j)++rpC (⟨⟨L[j].number,L[j].who,a.tag,now+10*n,L[j].doc⟩,(.slice AT2 NT2 cT2),(.slice AN2 NN2 cN2)⟩:RP))):=hid HO10.out
   have hsl:Hid (w5.heap.size<=w10.drew.heap.size):=hid HS10.out
   have hRD2:Hid (∀ A2,(¬cp0=j+1->A2=some ⟨gb,off+(j+1)*7,none⟩)->Rd w10.drew 66 7 (L.length-(j+1)) A2 (rows rpC (xs.drop (j+1)))):=hid (fun A2 h=>by
    have hcl:=HXN.out
    have hcc:=HCP.out
    by_cases hc1:cp0=j+1
    .have e:xs.drop (j+1)=[]:=List.drop_eq_nil_of_le (by omega)
     rw [e,show L.length-(j+1)=0 by omega]
     exact Rd.nil _ _ _ _
    .rw [h hc1,hcl]
     have:=rd_cut rpC_len (HXN.out▸HR0.out _ HW10.out) (k:=j+1) (cap:=cp0) (by omega) (by omega)
     rw [if_neg hc1,show (some (⟨gb,off,none⟩:Addr)).map (·.add ((j+1)*7))=some ⟨gb,off+(j+1)*7,none⟩ by simp only [Option.map_some,Addr.add];by_cases e:(j+1)*7=0 <;> simp [e]] at this
     exact this.drewN 1)
   have HHH:=hid hh
   have HSS:Hid (∀ W' W'',Below W0.heap.size W0 W''->Fr (fun k=>k=w.heap.size+2\/k=w.heap.size+3) W'' W'->W'.cell? ⟨w.heap.size,0,none⟩=some (.string (str c.host))/\W'.cell? ⟨w.heap.size,1,none⟩=some (.int .i64 c.calls)/\W'.cell? ⟨w.heap.size,2,none⟩=some (.int .i64 c.pubs)/\W'.cell? ⟨w.heap.size,3,none⟩=some (.int .i64 c.subs)/\W'.cell? ⟨w.heap.size,4,none⟩=some (.int .i64 c.least)/\W'.cell? ⟨w.heap.size,5,none⟩=some (.int .i64 c.most)/\W'.cell? ⟨w.heap.size,6,none⟩=some (.int .i64 c.usual)/\W'.cell? ⟨w.heap.size,7,none⟩=some (.int .i64 last)/\W'.cell? ⟨w.heap.size,8,none⟩=some (.slice (some ⟨gb,off,none⟩) L.length cp0)/\W'.cell? ⟨w.heap.size+1,7,none⟩=some (.string (str a.tag))/\W'.cell? ⟨w.heap.size+1,3,none⟩=some (.bool false)):=hid (fun W' W'' hb hf=>by
    have hbx:=HBX.out W'' hb
    have q1:=hbx.s.fr hf (by omega)
    have q2:=hbx.a.fr hf (by omega)
    exact ⟨q1.cell 0,q1.cell 1,q1.cell 2,q1.cell 3,q1.cell 4,q1.cell 5,q1.cell 6,q1.cell 7,q1.cell 8,q2.cell 7,by have h3:=q2.cell 3;rw [hh] at h3;exact h3⟩)
   have HS0:Hid (∀ W'',Below W0.heap.size W0 W''->W''.cell? ⟨w.heap.size,0,none⟩=some (.string (str c.host))/\W''.cell? ⟨w.heap.size,1,none⟩=some (.int .i64 c.calls)/\W''.cell? ⟨w.heap.size,2,none⟩=some (.int .i64 c.pubs)/\W''.cell? ⟨w.heap.size,3,none⟩=some (.int .i64 c.subs)/\W''.cell? ⟨w.heap.size,4,none⟩=some (.int .i64 c.least)/\W''.cell? ⟨w.heap.size,5,none⟩=some (.int .i64 c.most)/\W''.cell? ⟨w.heap.size,6,none⟩=some (.int .i64 c.usual)/\W''.cell? ⟨w.heap.size,7,none⟩=some (.int .i64 last)/\W''.cell? ⟨w.heap.size,8,none⟩=some (.slice (some ⟨gb,off,none⟩) L.length cp0)/\W''.cell? ⟨w.heap.size+1,7,none⟩=some (.string (str a.tag))/\W''.cell? ⟨w.heap.size+1,3,none⟩=some (.bool false)):=hid (fun W'' hb=>HSS.out _ _ hb (Fr.refl _ _))
   have HS9:Hid (∀ W'',Below W0.heap.size W0 W''->∀ y0 y1 y2 y3 y4 y5 y6 y7 y8,(((((((((W''.setCell ⟨(w.heap.size+2),0,none⟩ y0).setCell ⟨(w.heap.size+2),1,none⟩ y1).setCell ⟨(w.heap.size+2),2,none⟩ y2).setCell ⟨(w.heap.size+2),3,none⟩ y3).setCell ⟨(w.heap.size+2),4,none⟩ y4).setCell ⟨(w.heap.size+2),5,none⟩ y5).setCell ⟨(w.heap.size+2),6,none⟩ y6).setCell ⟨(w.heap.size+2),7,none⟩ y7).setCell ⟨(w.heap.size+2),8,none⟩ y8).cell? ⟨w.heap.size,0,none⟩=some (.string (str c.host))/\(((((((((W''.setCell ⟨(w.heap.size+2),0,none⟩ y0).setCell ⟨(w.heap.size+2),1,none⟩ y1).setCell ⟨(w.heap.size+2),2,none⟩ y2).setCell ⟨(w.heap.size+2),3,none⟩ y3).setCell ⟨(w.heap.size+2),4,none⟩ y4).setCell ⟨(w.heap.size+2),5,none⟩ y5).setCell ⟨(w.heap.size+2),6,none⟩ y6).setCell ⟨(w.heap.size+2),7,none⟩ y7).setCell ⟨(w.heap.size+2),8,none⟩ y8).cell? ⟨w.heap.size,1,none⟩=some (.int .i64 c.calls)/\(((((((((W''.setCell ⟨(w.heap.size+2),0,none⟩ y0).setCell ⟨(w.heap.size+2),1,none⟩ y1).setCell ⟨(w.heap.size+2),2,none⟩ y2).setCell ⟨(w.heap.size+2),3,none⟩ y3).setCell ⟨(w.heap.size+2),4,none⟩ y4).setCell ⟨(w.heap.size+2),5,none⟩ y5).setCell ⟨(w.heap.size+2),6,none⟩ y6).setCell ⟨(w.heap.size+2),7,none⟩ y7).setCell ⟨(w.heap.size+2),8,none⟩ y8).cell? ⟨w.heap.size,2,none⟩=some (.int .i64 c.pubs)/\(((((((((W''.setCell ⟨(w.heap.size+2),0,none⟩ y0).setCell ⟨(w.heap.size+2),1,none⟩ y1).setCell ⟨(w.heap.size+2),2,none⟩ y2).setCell ⟨(w.heap.size+2),3,none⟩ y3).setCell ⟨(w.heap.size+2),4,none⟩ y4).setCell ⟨(w.heap.size+2),5,none⟩ y5).setCell ⟨(w.heap.size+2),6,none⟩ y6).setCell ⟨(w.heap.size+2),7,none⟩ y7).setCell ⟨(w.heap.size+2),8,none⟩ y8).cell? ⟨w.heap.size,3,none⟩=some (.int .i64 c.subs)/\(((((((((W''.setCell ⟨(w.heap.size+2),0,none⟩ y0).setCell ⟨(w.heap.size+2),1,none⟩ y1).setCell ⟨(w.heap.size+2),2,none⟩ y2).setCell ⟨(w.heap.size+2),3,none⟩ y3).setCell ⟨(w.heap.size+2),4,none⟩ y4).setCell ⟨(w.heap.size+2),5,none⟩ y5).setCell ⟨(w.heap.size+2),6,none⟩ y6).setCell ⟨(w.heap.size+2),7,none⟩ y7).setCell ⟨(w.heap.size+2),8,none⟩ y8).cell? ⟨w.heap.size,4,none⟩=some (.int .i64 c.least)/\(((((((((W''.setCell ⟨(w.heap.size+2),0,none⟩ y0).setCell ⟨(w.heap.size+2),1,none⟩ y1).setCell ⟨(w.heap.size+2),2,none⟩ y2).setCell ⟨(w.heap.size+2),3,none⟩ y3).setCell ⟨(w.heap.size+2),4,none⟩ y4).setCell ⟨(w.heap.size+2),5,none⟩ y5).setCell ⟨(w.heap.size+2),6,none⟩ y6).setCell ⟨(w.heap.size+2),7,none⟩ y7).setCell ⟨(w.heap.size+2),8,none⟩ y8).cell? ⟨w.heap.size,5,none⟩=some (.int .i64 c.most)/\(((((((((W''.setCell ⟨(w.heap.size+2),0,none⟩ y0).setCell ⟨(w.heap.size+2),1,none⟩ y1).setCell ⟨(w.heap.size+2),2,none⟩ y2).setCell ⟨(w.heap.size+2),3,none⟩ y3).setCell ⟨(w.heap.size+2),4,none⟩ y4).setCell ⟨(w.heap.size+2),5,none⟩ y5).setCell ⟨(w.heap.size+2),6,none⟩ y6).setCell ⟨(w.heap.size+2),7,none⟩ y7).setCell ⟨(w.heap.size+2),8,none⟩ y8).cell? ⟨w.heap.size,6,none⟩=some (.int .i64 c.usual)/\(((((((((W''.setCell ⟨(w.heap.size+2),0,none⟩ y0).setCell ⟨(w.heap.size+2),1,none⟩ y1).setCell ⟨(w.heap.size+2),2,none⟩ y2).setCell ⟨(w.heap.size+2),3,none⟩ y3).setCell ⟨(w.heap.size+2),4,none⟩ y4).setCell ⟨(w.heap.size+2),5,none⟩ y5).setCell ⟨(w.heap.size+2),6,none⟩ y6).setCell ⟨(w.heap.size+2),7,none⟩ y7).setCell ⟨(w.heap.size+2),8,none⟩ y8).cell? ⟨w.heap.size,7,none⟩=some (.int .i64 last)/\(((((((((W''.setCell ⟨(w.heap.size+2),0,none⟩ y0).setCell ⟨(w.heap.size+2),1,none⟩ y1).setCell ⟨(w.heap.size+2),2,none⟩ y2).setCell ⟨(w.heap.size+2),3,none⟩ y3).setCell ⟨(w.heap.size+2),4,none⟩ y4).setCell ⟨(w.heap.size+2),5,none⟩ y5).setCell ⟨(w.heap.size+2),6,none⟩ y6).setCell ⟨(w.heap.size+2),7,none⟩ y7).setCell ⟨(w.heap.size+2),8,none⟩ y8).cell? ⟨w.heap.size,8,none⟩=some (.slice (some ⟨gb,off,none⟩) L.length cp0)/\(((((((((W''.setCell ⟨(w.heap.size+2),0,none⟩ y0).setCell ⟨(w.heap.size+2),1,none⟩ y1).setCell ⟨(w.heap.size+2),2,none⟩ y2).setCell ⟨(w.heap.size+2),3,none⟩ y3).setCell ⟨(w.heap.size+2),4,none⟩ y4).setCell ⟨(w.heap.size+2),5,none⟩ y5).setCell ⟨(w.heap.size+2),6,none⟩ y6).setCell ⟨(w.heap.size+2),7,none⟩ y7).setCell ⟨(w.heap.size+2),8,none⟩ y8).cell? ⟨w.heap.size+1,7,none⟩=some (.string (str a.tag))/\(((((((((W''.setCell ⟨(w.heap.size+2),0,none⟩ y0).setCell ⟨(w.heap.size+2),1,none⟩ y1).setCell ⟨(w.heap.size+2),2,none⟩ y2).setCell ⟨(w.heap.size+2),3,none⟩ y3).setCell ⟨(w.heap.size+2),4,none⟩ y4).setCell ⟨(w.heap.size+2),5,none⟩ y5).setCell ⟨(w.heap.size+2),6,none⟩ y6).setCell ⟨(w.heap.size+2),7,none⟩ y7).setCell ⟨(w.heap.size+2),8,none⟩ y8).cell? ⟨w.heap.size+1,3,none⟩=some (.bool false)):=hid (fun W'' hb y0 y1 y2 y3 y4 y5 y6 y7 y8=>HSS.out _ _ hb (set9_fr23 _ _ y0 y1 y2 y3 y4 y5 y6 y7 y8 _ rfl))
   have HS94:Hid (∀ W'',Below W0.heap.size W0 W''->∀ y0 y1 y2 y3 y4 y5 y6 y7 y8 z0 z1 z2 z3,(((((((((((((W''.setCell ⟨(w.heap.size+2),0,none⟩ y0).setCell ⟨(w.heap.size+2),1,none⟩ y1).setCell ⟨(w.heap.size+2),2,none⟩ y2).setCell ⟨(w.heap.size+2),3,none⟩ y3).setCell ⟨(w.heap.size+2),4,none⟩ y4).setCell ⟨(w.heap.size+2),5,none⟩ y5).setCell ⟨(w.heap.size+2),6,none⟩ y6).setCell ⟨(w.heap.size+2),7,none⟩ y7).setCell ⟨(w.heap.size+2),8,none⟩ y8).setCell ⟨(w.heap.size+3),0,none⟩ z0).setCell ⟨(w.heap.size+3),1,none⟩ z1).setCell ⟨(w.heap.size+3),2,none⟩ z2).setCell ⟨(w.heap.size+3),3,none⟩ z3).cell? ⟨w.heap.size,0,none⟩=some (.string (str c.host))/\(((((((((((((W''.setCell ⟨(w.heap.size+2),0,none⟩ y0).setCell ⟨(w.heap.size+2),1,none⟩ y1).setCell ⟨(w.heap.size+2),2,none⟩ y2).setCell ⟨(w.heap.size+2),3,none⟩ y3).setCell ⟨(w.heap.size+2),4,none⟩ y4).setCell ⟨(w.heap.size+2),5,none⟩ y5).setCell ⟨(w.heap.size+2),6,none⟩ y6).setCell ⟨(w.heap.size+2),7,none⟩ y7).setCell ⟨(w.heap.size+2),8,none⟩ y8).setCell ⟨(w.heap.size+3),0,none⟩ z0).setCell ⟨(w.heap.size+3),1,none⟩ z1).setCell ⟨(w.heap.size+3),2,none⟩ z2).setCell ⟨(w.heap.size+3),3,none⟩ z3).cell? ⟨w.heap.size,1,none⟩=some (.int .i64 c.calls)/\(((((((((((((W''.setCell ⟨(w.heap.size+2),0,none⟩ y0).setCell ⟨(w.heap.size+2),1,none⟩ y1).setCell ⟨(w.heap.size+2),2,none⟩ y2).setCell ⟨(w.heap.size+2),3,none⟩ y3).setCell ⟨(w.heap.size+2),4,none⟩ y4).setCell ⟨(w.heap.size+2),5,none⟩ y5).setCell ⟨(w.heap.size+2),6,none⟩ y6).setCell ⟨(w.heap.size+2),7,none⟩ y7).setCell ⟨(w.heap.size+2),8,none⟩ y8).setCell ⟨(w.heap.size+3),0,none⟩ z0).setCell ⟨(w.heap.size+3),1,none⟩ z1).setCell ⟨(w.heap.size+3),2,none⟩ z2).setCell ⟨(w.heap.size+3),3,none⟩ z3).cell? ⟨w.heap.size,2,none⟩=some (.int .i64 c.pubs)/\(((((((((((((W''.setCell ⟨(w.heap.size+2),0,none⟩ y0).setCell ⟨(w.heap.size+2),1,none⟩ y1).setCell ⟨(w.heap.size+2),2,none⟩ y2).setCell ⟨(w.heap.size+2),3,none⟩ y3).setCell ⟨(w.heap.size+2),4,none⟩ y4).setCell ⟨(w.heap.size+2),5,none⟩ y5).setCell ⟨(w.heap.size+2),6,none⟩ y6).setCell ⟨(w.heap.size+2),7,none⟩ y7).setCell ⟨(w.heap.size+2),8,none⟩ y8).setCell ⟨(w.heap.size+3),0,none⟩ z0).setCell ⟨(w.heap.size+3),1,none⟩ z1).setCell ⟨(w.heap.size+3),2,none⟩ z2).setCell ⟨(w.heap.size+3),3,none⟩ z3).cell? ⟨w.heap.size,3,none⟩=some (.int .i64 c.subs)/\(((((((((((((W''.setCell ⟨(w.heap.size+2),0,none⟩ y0).setCell ⟨(w.heap.size+2),1,none⟩ y1).setCell ⟨(w.heap.size+2),2,none⟩ y2).setCell ⟨(w.heap.size+2),3,none⟩ y3).setCell ⟨(w.heap.size+2),4,none⟩ y4).setCell ⟨(w.heap.size+2),5,none⟩ y5).setCell ⟨(w.heap.size+2),6,none⟩ y6).setCell ⟨(w.heap.size+2),7,none⟩ y7).setCell ⟨(w.heap.size+2),8,none⟩ y8).setCell ⟨(w.heap.size+3),0,none⟩ z0).setCell ⟨(w.heap.size+3),1,none⟩ z1).setCell ⟨(w.heap.size+3),2,none⟩ z2).setCell ⟨(w.heap.size+3),3,none⟩ z3).cell? ⟨w.heap.size,4,none⟩=some (.int .i64 c.least)/\(((((((((((((W''.setCell ⟨(w.heap.size+2),0,none⟩ y0).setCell ⟨(w.heap.size+2),1,none⟩ y1).setCell ⟨(w.heap.size+2),2,none⟩ y2).setCell ⟨(w.heap.size+2),3,none⟩ y3).setCell ⟨(w.heap.size+2),4,none⟩ y4).setCell ⟨(w.heap.size+2),5,none⟩ y5).setCell ⟨(w.heap.size+2),6,none⟩ y6).setCell ⟨(w.heap.size+2),7,none⟩ y7).setCell ⟨(w.heap.size+2),8,none⟩ y8).setCell ⟨(w.heap.size+3),0,none⟩ z0).setCell ⟨(w.heap.size+3),1,none⟩ z1).setCell ⟨(w.heap.size+3),2,none⟩ z2).setCell ⟨(w.heap.size+3),3,none⟩ z3).cell? ⟨w.heap.size,5,none⟩=some (.int .i64 c.most)/\(((((((((((((W''.setCell ⟨(w.heap.size+2),0,none⟩ y0).setCell ⟨(w.heap.size+2),1,none⟩ y1).setCell ⟨(w.heap.size+2),2,none⟩ y2).setCell ⟨(w.heap.size+2),3,none⟩ y3).setCell ⟨(w.heap.size+2),4,none⟩ y4).setCell ⟨(w.heap.size+2),5,none⟩ y5).setCell ⟨(w.heap.size+2),6,none⟩ y6).setCell ⟨(w.heap.size+2),7,none⟩ y7).setCell ⟨(w.heap.size+2),8,none⟩ y8).setCell ⟨(w.heap.size+3),0,none⟩ z0).setCell ⟨(w.heap.size+3),1,none⟩ z1).setCell ⟨(w.heap.size+3),2,none⟩ z2).setCell ⟨(w.heap.size+3),3,none⟩ z3).cell? ⟨w.heap.size,6,none⟩=some (.int .i64 c.usual)/\(((((((((((((W''.setCell ⟨(w.heap.size+2),0,none⟩ y0).setCell ⟨(w.heap.size+2),1,none⟩ y1).setCell ⟨(w.heap.size+2),2,none⟩ y2).setCell ⟨(w.heap.size+2),3,none⟩ y3).setCell ⟨(w.heap.size+2),4,none⟩ y4).setCell ⟨(w.heap.size+2),5,none⟩ y5).setCell ⟨(w.heap.size+2),6,none⟩ y6).setCell ⟨(w.heap.size+2),7,none⟩ y7).setCell ⟨(w.heap.size+2),8,none⟩ y8).setCell ⟨(w.heap.size+3),0,none⟩ z0).setCell ⟨(w.heap.size+3),1,none⟩ z1).setCell ⟨(w.heap.size+3),2,none⟩ z2).setCell ⟨(w.heap.size+3),3,none⟩ z3).cell? ⟨w.heap.size,7,none⟩=some (.int .i64 last)/\(((((((((((((W''.setCell ⟨(w.heap.size+2),0,none⟩ y0).setCell ⟨(w.heap.size+2),1,none⟩ y1).setCell ⟨(w.heap.size+2),2,none⟩ y2).setCell ⟨(w.heap.size+2),3,none⟩ y3).setCell ⟨(w.heap.size+2),4,none⟩ y4).setCell ⟨(w.heap.size+2),5,none⟩ y5).setCell ⟨(w.heap.size+2),6,none⟩ y6).setCell ⟨(w.heap.size+2),7,none⟩ y7).setCell ⟨(w.heap.size+2),8,none⟩ y8).setCell ⟨(w.heap.size+3),0,none⟩ z0).setCell ⟨(w.heap.size+3),1,none⟩ z1).setCell ⟨(w.heap.size+3),2,none⟩ z2).setCell ⟨(w.heap.size+3),3,none⟩ z3).cell? ⟨w.heap.size,8,none⟩=some (.slice (some ⟨gb,off,none⟩) L.length cp0)/\(((((((((((((W''.setCell ⟨(w.heap.size+2),0,none⟩ y0).setCell ⟨(w.heap.size+2),1,none⟩ y1).setCell ⟨(w.heap.size+2),2,none⟩ y2).setCell ⟨(w.heap.size+2),3,none⟩ y3).setCell ⟨(w.heap.size+2),4,none⟩ y4).setCell ⟨(w.heap.size+2),5,none⟩ y5).setCell ⟨(w.heap.size+2),6,none⟩ y6).setCell ⟨(w.heap.size+2),7,none⟩ y7).setCell ⟨(w.heap.size+2),8,none⟩ y8).setCell ⟨(w.heap.size+3),0,none⟩ z0).setCell ⟨(w.heap.size+3),1,none⟩ z1).setCell ⟨(w.heap.size+3),2,none⟩ z2).setCell ⟨(w.heap.size+3),3,none⟩ z3).cell? ⟨w.heap.size+1,7,none⟩=some (.string (str a.tag))/\(((((((((((((W''.setCell ⟨(w.heap.size+2),0,none⟩ y0).setCell ⟨(w.heap.size+2),1,none⟩ y1).setCell ⟨(w.heap.size+2),2,none⟩ y2).setCell ⟨(w.heap.size+2),3,none⟩ y3).setCell ⟨(w.heap.size+2),4,none⟩ y4).setCell ⟨(w.heap.size+2),5,none⟩ y5).setCell ⟨(w.heap.size+2),6,none⟩ y6).setCell ⟨(w.heap.size+2),7,none⟩ y7).setCell ⟨(w.heap.size+2),8,none⟩ y8).setCell ⟨(w.heap.size+3),0,none⟩ z0).setCell ⟨(w.heap.size+3),1,none⟩ z1).setCell ⟨(w.heap.size+3),2,none⟩ z2).setCell ⟨(w.heap.size+3),3,none⟩ z3).cell? ⟨w.heap.size+1,3,none⟩=some (.bool false)):=hid (fun W'' hb y0 y1 y2 y3 y4 y5 y6 y7 y8 z0 z1 z2 z3=>HSS.out _ _ hb ((set9_fr23 _ _ y0 y1 y2 y3 y4 y5 y6 y7 y8 _ rfl).trans (set4_fr23 _ _ z0 z1 z2 z3 _ rfl) (fun _ _ h=>h)))
   obtain ⟨c0,c1,c2,c3,c4,c5,c6,c7,c8,a7,a3⟩:=HSS.out _ _ HW10.out (Fr.refl _ _)
   have k1:(0:Int)<=(j:Int)+1:=by omega
   have k2:(j:Int)+1<=L.length:=by omega
   have k3:IntKind.i64.wrap ((j:Int)+1)=(j:Int)+1:=IntWalk.i64_in _ (by have:=HLX.out;omega)
   have k4:((j:Int)+1).toNat=j+1:=by omega
   have k5:(L.length:Int)<=cp0:=by have:=HCP.out;omega
   have k7:(j:Int)+1<=cp0:=by have:=HCP.out;omega
   have hm6:Hid (j+1+(L.length-(j+1))<=1000000):=hid (by have:=HLX.out;omega)
   have hcc:cp0=j+1\/¬cp0=j+1:=Classical.em _
   go_wp2_with fail
   rcases hcc with hcc|hcc
   all_goals
    have HCC:=hid hcc
    go_region_held3 (fun w'=>w'.cell? ⟨w.heap.size,0,none⟩=some (.string (str c.host))/\w'.cell? ⟨w.heap.size,1,none⟩=some (.int .i64 c.calls)/\w'.cell? ⟨w.heap.size,2,none⟩=some (.int .i64 c.pubs)/\w'.cell? ⟨w.heap.size,3,none⟩=some (.int .i64 c.subs)/\w'.cell? ⟨w.heap.size,4,none⟩=some (.int .i64 c.least)/\w'.cell? ⟨w.heap.size,5,none⟩=some (.int .i64 c.most)/\w'.cell? ⟨w.heap.size,6,none⟩=some (.int .i64 c.usual)/\w'.cell? ⟨w.heap.size,7,none⟩=some (.int .i64 last)/\w'.cell? ⟨w.heap.size,8,none⟩=some (.slice (some ⟨gb,off,none⟩) L.length cp0)/\w'.cell? ⟨w.heap.size+1,7,none⟩=some (.string (str a.tag))/\w'.cell? ⟨w.heap.size+1,3,none⟩=some (.bool false))
     (first|(with_reducible exact HS94.out _ HW16.out _ _ _ _ _ _ _ _ _ _ _ _ _)|(with_reducible exact HS9.out _ HW16.out _ _ _ _ _ _ _ _ _)|(with_reducible exact HS0.out _ HW16.out)|(with_reducible exact HS0.out _ HWZ.out)|(with_reducible exact HS0.out _ HWD.out)) (first|(refine step_app_rd ?_ (.tmp 194) (.tmp 199) 45 ?_ w5.heap.size 66 7 112 (.agg #[.int .i64 0,.string ⟨#[]⟩,.string ⟨#[]⟩,.int .i64 0,.string ⟨#[]⟩,.slice none 0 0,.slice none 0 0]) Tryz.underlying45 ePub ?_ ?_ v14 (j+1) (rows rpC (xs.take j)++rpC (⟨⟨L[j].number,L[j].who,a.tag,now+10*n,L[j].doc⟩,(.slice AT2 NT2 cT2),(.slice AN2 NN2 cN2)⟩:RP)) ?_ HOLD.out (some ⟨gb,off,none⟩) (L.length-(j+1)) 0 (rows rpC (xs.drop (j+1))) ?_ ?_ HONE2.out ?_ ?_ hsl.out ?_;rfl;rfl;rfl;omega;rfl;rfl;(exact hRD2.out _ (fun h=>by first|exact absurd HCC.out h|rfl));(have:=hm6.out;unfold maxLen;omega);(have:=hm6.out;omega);intro v16 w16 hown16 hb16 hg16 hat16;obtain ⟨A16,c16,e16,_⟩:=RdV.of_own hown16;subst e16;have HW16:Hid (Below W0.heap.size W0 w16):=hid (by first|exact HWD.out.trans (hb16.mono HBL.out)|exact HWZ.out.trans (hb16.mono HBL.out));obtain ⟨zr0,zr1,zr2,zr3,zr4,zr5,zr6,zr7,zr8,zf0,zf1,zf2,zf3,zf4,zf5,zf6,zf7,zf8⟩:=(HBX.out w16 HW16.out).rc;obtain ⟨yr0,yr1,yr2,yr3,yf0,yf1,yf2,yf3⟩:=(HBX.out w16 HW16.out).tc)|(refine step_app_rd ?_ (.tmp 194) (.tmp 199) 45 ?_ w5.heap.size 66 7 112 (.agg #[.int .i64 0,.string ⟨#[]⟩,.string ⟨#[]⟩,.int .i64 0,.string ⟨#[]⟩,.slice none 0 0,.slice none 0 0]) Tryz.underlying45 ePub ?_ ?_ v14 (j+1) (rows rpC (xs.take j)++rpC (⟨⟨L[j].number,L[j].who,a.tag,now+10*n,L[j].doc⟩,(.slice AT2 NT2 cT2),(.slice AN2 NN2 cN2)⟩:RP)) ?_ HOLD.out (some ⟨gb,off,none⟩) (L.length-(j+1)) (cp0-(j+1)) (rows rpC (xs.drop (j+1))) ?_ ?_ HONE2.out ?_ ?_ hsl.out ?_;rfl;rfl;rfl;omega;rfl;rfl;(exact hRD2.out _ (fun h=>by first|exact absurd HCC.out h|rfl));(have:=hm6.out;unfold maxLen;omega);(have:=hm6.out;omega);intro v16 w16 hown16 hb16 hg16 hat16;obtain ⟨A16,c16,e16,_⟩:=RdV.of_own hown16;subst e16;have HW16:Hid (Below W0.heap.size W0 w16):=hid (by first|exact HWD.out.trans (hb16.mono HBL.out)|exact HWZ.out.trans (hb16.mono HBL.out));obtain ⟨zr0,zr1,zr2,zr3,zr4,zr5,zr6,zr7,zr8,zf0,zf1,zf2,zf3,zf4,zf5,zf6,zf7,zf8⟩:=(HBX.out w16 HW16.out).rc;obtain ⟨yr0,yr1,yr2,yr3,yf0,yf1,yf2,yf3⟩:=(HBX.out w16 HW16.out).tc)|(refine step_app_rd ?_ (.tmp 194) (.tmp 199) 45 ?_ w5.heap.size 66 7 112 (.agg #[.int .i64 0,.string ⟨#[]⟩,.string ⟨#[]⟩,.int .i64 0,.string ⟨#[]⟩,.slice none 0 0,.slice none 0 0]) Tryz.underlying45 ePub ?_ ?_ v14 (j+1) (rows rpC (xs.take j)++rpC (⟨⟨L[j].number,L[j].who,a.tag,now+10*n,L[j].doc⟩,(.slice AT2 NT2 cT2),(.slice AN2 NN2 cN2)⟩:RP)) ?_ HOLD.out (some ⟨gb,off+(j+1)*7,none⟩) (L.length-(j+1)) (cp0-(j+1)) (rows rpC (xs.drop (j+1))) ?_ ?_ HONE2.out ?_ ?_ hsl.out ?_;rfl;rfl;rfl;omega;rfl;rfl;(exact hRD2.out _ (fun h=>by first|exact absurd HCC.out h|rfl));(have:=hm6.out;unfold maxLen;omega);(have:=hm6.out;omega);intro v16 w16 hown16 hb16 hg16 hat16;obtain ⟨A16,c16,e16,_⟩:=RdV.of_own hown16;subst e16;have HW16:Hid (Below W0.heap.size W0 w16):=hid (by first|exact HWD.out.trans (hb16.mono HBL.out)|exact HWZ.out.trans (hb16.mono HBL.out));obtain ⟨zr0,zr1,zr2,zr3,zr4,zr5,zr6,zr7,zr8,zf0,zf1,zf2,zf3,zf4,zf5,zf6,zf7,zf8⟩:=(HBX.out w16 HW16.out).rc;obtain ⟨yr0,yr1,yr2,yr3,yf0,yf1,yf2,yf3⟩:=(HBX.out w16 HW16.out).tc))
    all_goals first|(obtain ⟨⟨e0,e1,e2,e3,e4,e5,e6,e7,e8,e9,e10,e11,e12⟩,hp⟩:=HENDN.out _ _ _ (⟨⟨L[j].number,L[j].who,a.tag,now+10*n,L[j].doc⟩,(.slice AT2 NT2 cT2),(.slice AN2 NN2 cN2)⟩:RP) _ HHH.out (by unfold putP;rw [HHH.out];rfl) HBS.out HW16.out (HXD.out _ HW16.out) hown16 _ (.inl rfl);have HP:=hid (hp);clear hp;go_wp2;exact bodyPost_ret (v:=.tuple #[.agg #[.string (str c.host),.int .i64 c.calls,.int .i64 c.pubs,.int .i64 c.subs,.int .i64 c.least,.int .i64 c.most,.int .i64 c.usual,.int .i64 last,.slice A16 (j+1+(L.length-(j+1))) c16],.agg #[.int .i64 200,.int .i64 n,.string (str a.tag),.bool false],.int .i64 0]) (by simp [results,Tryz.results29,go_sem,e0,e1,e2,e3,e4,e5,e6,e7,e8,e9,e10,e11,e12]) rfl HP.out)|(obtain ⟨⟨e0,e1,e2,e3,e4,e5,e6,e7,e8,e9,e10,e11,e12⟩,hp⟩:=HENDN.out _ _ _ (⟨⟨L[j].number,L[j].who,a.tag,now+10*n,L[j].doc⟩,(.slice AT2 NT2 cT2),(.slice AN2 NN2 cN2)⟩:RP) _ HHH.out (by unfold putP;rw [HHH.out];rfl) HBS.out HW16.out (HXD.out _ HW16.out) hown16 _ (.inl rfl);have HP:=hid (rdo_drew hp);clear hp;go_wp2;exact bodyPost_ret (v:=.tuple #[.agg #[.string (str c.host),.int .i64 c.calls,.int .i64 c.pubs,.int .i64 c.subs,.int .i64 c.least,.int .i64 c.most,.int .i64 c.usual,.int .i64 last,.slice A16 (j+1+(L.length-(j+1))) c16],.agg #[.int .i64 200,.int .i64 n,.string (str a.tag),.bool false],.int .i64 0]) (by simp [results,Tryz.results29,go_sem,e0,e1,e2,e3,e4,e5,e6,e7,e8,e9,e10,e11,e12]) rfl HP.out)
 | true =>
   rw [hh] at a3
   go_wp2_with fail
   refine (HTK.out _).mono ?_
   rintro e w1 ⟨rfl,rfl⟩
   go_wp2_with fail
   refine (HPT2.out _ HW.out).mono ?_
   rintro e w1 ⟨rfl,hb9⟩
   have HW:=hid (thenB_ HW.out hb9)
   clear hb9
   clear c0 c1 c2 c3 c4 c5 c6 c7 c8 a0 a1 a2 a3 a4 a5 a6 a7 r0 r1 r2 r3 r4 r5 r6 r7 r8 f0 f1 f2 f3 f4 f5 f6 f7 f8 t0 t1 t2 t3 g0 g1 g2 g3
   obtain ⟨c0,c1,c2,c3,c4,c5,c6,c7,c8⟩:=(HBX.out w1 HW.out).sc
   obtain ⟨a0,a1,a2,a3,a4,a5,a6,a7⟩:=(HBX.out w1 HW.out).ac
   obtain ⟨r0,r1,r2,r3,r4,r5,r6,r7,r8,f0,f1,f2,f3,f4,f5,f6,f7,f8⟩:=(HBX.out w1 HW.out).rc
   obtain ⟨t0,t1,t2,t3,g0,g1,g2,g3⟩:=(HBX.out w1 HW.out).tc
   rw [hh] at a3
   go_wp2_with fail
   refine (HCK2.out hh _ HW.out).mono ?_
   rintro e w2 ⟨rfl,hb9⟩
   have HW:=hid (thenB_ HW.out hb9)
   clear hb9
   clear c0 c1 c2 c3 c4 c5 c6 c7 c8 a0 a1 a2 a3 a4 a5 a6 a7 r0 r1 r2 r3 r4 r5 r6 r7 r8 f0 f1 f2 f3 f4 f5 f6 f7 f8 t0 t1 t2 t3 g0 g1 g2 g3
   obtain ⟨c0,c1,c2,c3,c4,c5,c6,c7,c8⟩:=(HBX.out w2 HW.out).sc
   obtain ⟨a0,a1,a2,a3,a4,a5,a6,a7⟩:=(HBX.out w2 HW.out).ac
   obtain ⟨r0,r1,r2,r3,r4,r5,r6,r7,r8,f0,f1,f2,f3,f4,f5,f6,f7,f8⟩:=(HBX.out w2 HW.out).rc
   obtain ⟨t0,t1,t2,t3,g0,g1,g2,g3⟩:=(HBX.out w2 HW.out).tc
   rw [hh] at a3
   go_wp2_with fail
   refine (HSEC.out _).mono ?_
   rintro e w3 ⟨rfl,hb9⟩
   have HW:=hid (thenB_ HW.out hb9)
   clear hb9
   clear c0 c1 c2 c3 c4 c5 c6 c7 c8 a0 a1 a2 a3 a4 a5 a6 a7 r0 r1 r2 r3 r4 r5 r6 r7 r8 f0 f1 f2 f3 f4 f5 f6 f7 f8 t0 t1 t2 t3 g0 g1 g2 g3
   obtain ⟨c0,c1,c2,c3,c4,c5,c6,c7,c8⟩:=(HBX.out w3 HW.out).sc
   obtain ⟨a0,a1,a2,a3,a4,a5,a6,a7⟩:=(HBX.out w3 HW.out).ac
   obtain ⟨r0,r1,r2,r3,r4,r5,r6,r7,r8,f0,f1,f2,f3,f4,f5,f6,f7,f8⟩:=(HBX.out w3 HW.out).rc
   obtain ⟨t0,t1,t2,t3,g0,g1,g2,g3⟩:=(HBX.out w3 HW.out).tc
   rw [hh] at a3
   go_wp2_with fail
   refine (HPM.out _ HW.out).mono ?_
   rintro e w4 ⟨rfl,hb9⟩
   have HW:=hid (thenB_ HW.out hb9)
   clear hb9
   clear c0 c1 c2 c3 c4 c5 c6 c7 c8 a0 a1 a2 a3 a4 a5 a6 a7 r0 r1 r2 r3 r4 r5 r6 r7 r8 f0 f1 f2 f3 f4 f5 f6 f7 f8 t0 t1 t2 t3 g0 g1 g2 g3
   obtain ⟨c0,c1,c2,c3,c4,c5,c6,c7,c8⟩:=(HBX.out w4 HW.out).sc
   obtain ⟨a0,a1,a2,a3,a4,a5,a6,a7⟩:=(HBX.out w4 HW.out).ac
   obtain ⟨r0,r1,r2,r3,r4,r5,r6,r7,r8,f0,f1,f2,f3,f4,f5,f6,f7,f8⟩:=(HBX.out w4 HW.out).rc
   obtain ⟨t0,t1,t2,t3,g0,g1,g2,g3⟩:=(HBX.out w4 HW.out).tc
   rw [hh] at a3
   obtain ⟨gb,off,rfl,yw⟩:=HROW.out _ HW.out
   go_wp2
   go_quiet (fail)
   have HWq:=hid (below_drewN HW.out nq)
   obtain ⟨w5,hw5⟩:∃ w5,w4.drewN nq=w5:=⟨_,rfl⟩
   rw [hw5] at HWq ⊢
   have HW:=HWq
   clear HWq hw5
   clear c0 c1 c2 c3 c4 c5 c6 c7 c8 a0 a1 a2 a3 a4 a5 a6 a7 r0 r1 r2 r3 r4 r5 r6 r7 r8 f0 f1 f2 f3 f4 f5 f6 f7 f8 t0 t1 t2 t3 g0 g1 g2 g3
   obtain ⟨c0,c1,c2,c3,c4,c5,c6,c7,c8⟩:=(HBX.out w5 HW.out).sc
   obtain ⟨a0,a1,a2,a3,a4,a5,a6,a7⟩:=(HBX.out w5 HW.out).ac
   obtain ⟨r0,r1,r2,r3,r4,r5,r6,r7,r8,f0,f1,f2,f3,f4,f5,f6,f7,f8⟩:=(HBX.out w5 HW.out).rc
   obtain ⟨t0,t1,t2,t3,g0,g1,g2,g3⟩:=(HBX.out w5 HW.out).tc
   rw [hh] at a3
   have z1:(n == 0)=false:=by simpa using hy
   have HBL0:Hid (W0.heap.size<=w5.heap.size):=hid HW.out.size
   have hoe:Hid ((w5.alloc (.cells #[] 66)).ownsRow w5.heap.size 66 7 (.slice (some ⟨w5.heap.size,0,none⟩) 0 0) 0 []):=hid (own_empty (Blk.new w5 _ _) (Nat.le_refl _))
   have hra:Hid (Rd (w5.alloc (.cells #[] 66)) 66 7 j (some ⟨gb,off,none⟩) (rows rpC (xs.take j))):=hid (rd_take rpC_len (HXN.out▸(HR0.out _ HW.out).alloc _) (by have:=HXN.out;omega))
   have c8t:w5.cell? ⟨w.heap.size,8,none⟩=some (.slice (some ⟨gb,off,none⟩) L.length cp0):=c8
   clear c8
   have c8:=c8t
   clear c8t
   have c8a:(w5.alloc (.cells #[] 66)).cell? ⟨w.heap.size,8,none⟩=some (.slice (some ⟨gb,off,none⟩) L.length cp0):=((HBX.out _ HW.out).s.alloc _).cell 8
   have k6:(j:Int)<=cp0:=by have:=HCP.out;omega
   have hsw:w.heap.size+4<=w5.heap.size:=Nat.le_trans HBZ.out HW.out.size
   go_upto_region 19 with (at_builtin;go_must (refine wpList_app_rd _ rfl (.tmp 145) (.tmp 149) 45 rfl w5.heap.size 66 7 112 _ Tryz.underlying45 ePub rfl (by omega) (.slice (some ⟨w5.heap.size,0,none⟩) 0 0) 0 [] rfl hoe.out _ _ _ _ rfl hra.out HONE1.out (by have:=HLX.out;unfold maxLen;omega) (by have:=HLX.out;omega) (by simp) ?_);intro v13 w6 hown6 hb6 hg6 hat6;rw [Nat.zero_add,List.nil_append] at hown6)
   have HO6:=hid hown6
   have HW6:=hid (HW.out.trans ((((Below.refl w5.heap.size w5).alloc (Nat.le_refl _) (.cells #[] 66)).trans hb6).mono HW.out.size))
   have HS6:Hid (w5.heap.size<=w6.heap.size):=hid (Nat.le_trans (by simp) hb6.size)
   clear hown6 hb6 hg6 hat6 c8a
   clear c0 c1 c2 c3 c4 c5 c6 c7 c8 a0 a1 a2 a3 a4 a5 a6 a7 r0 r1 r2 r3 r4 r5 r6 r7 r8 f0 f1 f2 f3 f4 f5 f6 f7 f8 t0 t1 t2 t3 g0 g1 g2 g3
   have HW:=HW6
   obtain ⟨c0,c1,c2,c3,c4,c5,c6,c7,c8⟩:=(HBX.out w6 HW.out).sc
   obtain ⟨a0,a1,a2,a3,a4,a5,a6,a7⟩:=(HBX.out w6 HW.out).ac
   have c8t:w6.cell? ⟨w.heap.size,8,none⟩=some (.slice (some ⟨gb,off,none⟩) L.length cp0):=c8
   clear c8
   have c8:=c8t
   clear c8t
   rw [hh] at a3
   obtain ⟨hn0,hn1⟩:=HNB.out
   obtain ⟨hl0,hl1⟩:=HLA.out
   have hq0:=HARG.out.1
   have hq1:=HARG.out.2.1
   obtain ⟨gb9,off9,e9,y0,y1,y2,y3,y4,y5,y6⟩:=HROWS.out _ HW6.out
   obtain ⟨rfl,rfl⟩:gb=gb9/\off=off9:=by
    injection e9 with e9
    injection e9 with h1 h2
    exact ⟨h1,h2⟩
   clear e9
   go_upto_region 22 with (fail)
   obtain ⟨w7,hw7⟩:∃ w7,w6.alloc (.cells #[.int .i64 L[j].number,.string (str L[j].who),.string (str L[j].tag),.int .i64 L[j].until_,.string (str L[j].doc.ent),(.slice AT2 NT2 cT2),(.slice AN2 NN2 cN2)] 66)=w7:=⟨_,rfl⟩
   rw [hw7]
   have hk7:Blk w7 w6.heap.size 66 #[.int .i64 L[j].number,.string (str L[j].who),.string (str L[j].tag),.int .i64 L[j].until_,.string (str L[j].doc.ent),(.slice AT2 NT2 cT2),(.slice AN2 NN2 cN2)]:=hw7▸Blk.new w6 _ _
   have f7:Fr (fun k=>w6.heap.size<=k) w6 w7:=hw7▸(Fr.refl (fun k=>w6.heap.size<=k) w6).alloc _
   clear hw7 y0 y1 y2 y3 y4 y5 y6
   clear c0 c1 c2 c3 c4 c5 c6 c7 c8 a0 a1 a2 a3 a4 a5 a6 a7
   have HW:Hid (Below W0.heap.size W0 w7):=hid (HW6.out.trans (f7.to_below HW6.out.size (fun k e=>Nat.le_trans HW6.out.size e)))
   obtain ⟨c0,c1,c2,c3,c4,c5,c6,c7,c8⟩:=(HBX.out w7 HW.out).sc
   obtain ⟨a0,a1,a2,a3,a4,a5,a6,a7⟩:=(HBX.out w7 HW.out).ac
   rw [hh] at a3
   have b0:=hk7.cell 0
   have b1:=hk7.cell 1
   have b2:=hk7.cell 2
   have b3:=hk7.cell 3
   have b4:=hk7.cell 4
   have b5:=hk7.cell 5
   have b6:=hk7.cell 6
   have d2x:=hk7.frozen 2
   have d3x:=hk7.frozen 3
   go_upto_region 23 with (fail)
   obtain ⟨w8,hw8⟩:∃ w8,(w7.setCell ⟨w6.heap.size,2,none⟩ (.string (str a.tag))).setCell ⟨w6.heap.size,3,none⟩ (.int .i64 (now+10*n))=w8:=⟨_,rfl⟩
   rw [hw8]
   have hk8:Blk w8 w6.heap.size 66 #[.int .i64 L[j].number,.string (str L[j].who),.string (str a.tag),.int .i64 (now+10*n),.string (str L[j].doc.ent),(.slice AT2 NT2 cT2),(.slice AN2 NN2 cN2)]:=hw8▸(hk7.set_ 2 _).set_ 3 _
   have f8:Fr (fun k=>w6.heap.size<=k) w6 w8:=hw8▸((f7.set (p:=⟨w6.heap.size,2,none⟩) (fun _=>Nat.le_refl _) _).set (p:=⟨w6.heap.size,3,none⟩) (fun _=>Nat.le_refl _) _)
   clear hw8 hk7 f7 d2x d3x b0 b1 b2 b3 b4 b5 b6
   clear c0 c1 c2 c3 c4 c5 c6 c7 c8 a0 a1 a2 a3 a4 a5 a6 a7
   have HW:Hid (Below W0.heap.size W0 w8):=hid (HW6.out.trans (f8.to_below HW6.out.size (fun k e=>Nat.le_trans HW6.out.size e)))
   obtain ⟨c0,c1,c2,c3,c4,c5,c6,c7,c8⟩:=(HBX.out w8 HW.out).sc
   obtain ⟨a0,a1,a2,a3,a4,a5,a6,a7⟩:=(HBX.out w8 HW.out).ac
   rw [hh] at a3
   have b0:=hk8.cell 0
   have b1:=hk8.cell 1
   have b2:=hk8.cell 2
   have b3:=hk8.cell 3
   have b4:=hk8.cell 4
   have b5:=hk8.cell 5
   have b6:=hk8.cell 6
   have d4x:=hk8.frozen 4
   have d5x:=hk8.frozen 5
   have d6x:=hk8.frozen 6
   go_upto_region 25 with (fail)
   obtain ⟨w9,hw9⟩:∃ w9,((w8.setCell ⟨w6.heap.size,4,none⟩ (.string (str a.doc.ent))).setCell ⟨w6.heap.size,5,none⟩ (.slice At a.doc.tups.length ct)).setCell ⟨w6.heap.size,6,none⟩ (.slice An a.doc.notes.length cn)=w9:=⟨_,rfl⟩
   rw [hw9]
   have hk9:Blk w9 w6.heap.size 66 #[.int .i64 L[j].number,.string (str L[j].who),.string (str a.tag),.int .i64 (now+10*n),.string (str a.doc.ent),.slice At a.doc.tups.length ct,.slice An a.doc.notes.length cn]:=hw9▸((hk8.set_ 4 _).set_ 5 _).set_ 6 _
   have f9:Fr (fun k=>w6.heap.size<=k) w6 w9:=hw9▸(((f8.set (p:=⟨w6.heap.size,4,none⟩) (fun _=>Nat.le_refl _) _).set (p:=⟨w6.heap.size,5,none⟩) (fun _=>Nat.le_refl _) _).set (p:=⟨w6.heap.size,6,none⟩) (fun _=>Nat.le_refl _) _)
   clear hw9 d4x d5x d6x
   clear hk8 b0 b1 b2 b3 b4 b5 b6
   clear c0 c1 c2 c3 c4 c5 c6 c7 c8 a0 a1 a2 a3 a4 a5 a6 a7
   have b0:=hk9.cell 0
   have b1:=hk9.cell 1
   have b2:=hk9.cell 2
   have b3:=hk9.cell 3
   have b4:=hk9.cell 4
   have b5:=hk9.cell 5
   have b6:=hk9.cell 6
   have HW9:Hid (Below W0.heap.size W0 w9):=hid (HW6.out.trans (f9.to_below HW6.out.size (fun k e=>Nat.le_trans HW6.out.size e)))
   have HO9:Hid (w9.ownsRow w5.heap.size 66 7 v13 j (rows rpC (xs.take j))):=hid (own_fr HO6.out f9 (fun k hk e=>by have:=(HO6.out.lt k hk).2;omega))
   have HS9:Hid (w5.heap.size<=w9.heap.size):=hid (Nat.le_trans HS6.out f9.size)
   go_upto_region 26 with (at_builtin;go_must (refine wpList_app1' rfl (.tmp 186) (.tmp 188) 45 rfl w5.heap.size 66 7 112 _ Tryz.underlying45 ePub rfl (by omega) _ j (rows rpC (xs.take j)) rfl HO9.out [.int .i64 L[j].number,.string (str L[j].who),.string (str a.tag),.int .i64 (now+10*n),.string (str a.doc.ent),.slice At a.doc.tups.length ct,.slice An a.doc.notes.length cn] _ rfl (by first|rfl|(simp;done)) rfl (rpC_one (⟨⟨L[j].number,L[j].who,a.tag,now+10*n,a.doc⟩,.slice At a.doc.tups.length ct,.slice An a.doc.notes.length cn⟩:RP) rfl rfl) (by have:=HLX.out;unfold maxLen;omega) (by have:=HLX.out;omega) (by have:=HS9.out;first|exact this|(simp;omega)) ?_);intro v14 w10 hown10 hb10 hg10 hat10)
   have HO10:Hid (w10.ownsRow w5.heap.size 66 7 v14 (j+1) (rows rpC (xs.take j)++rpC (⟨⟨L[j].number,L[j].who,a.tag,now+10*n,a.doc⟩,.slice At a.doc.tups.length ct,.slice An a.doc.notes.length cn⟩:RP))):=hid hown10
   have HW10:Hid (Below W0.heap.size W0 w10):=hid (HW9.out.trans (hb10.mono HBL0.out))
   have HS10:Hid (w5.heap.size<=w10.heap.size):=hid (Nat.le_trans HS9.out hb10.size)
   clear hown10 hb10 hg10 hat10 hk9 f9 f8 b0 b1 b2 b3 b4 b5 b6
   have HWD:Hid (Below W0.heap.size W0 w10.drew):=hid HW10.out.drew
   have HWZ:=HW10
   have HBL:=HBL0
   have HBS:Hid (w.heap.size+4<=w5.heap.size):=hid (Nat.le_trans HBZ.out HBL0.out)
   have HOLD:Hid (w10.drew.ownsRow w5.heap.size 66 7 v14 (j+1) (rows rpC (xs.take j)++rpC (⟨⟨L[j].number,L[j].who,a.tag,now+10*n,a.doc⟩,.slice At a.doc.tups.length ct,.slice An a.doc.notes.length cn⟩:RP))):=hid HO10.out
   have hsl:Hid (w5.heap.size<=w10.drew.heap.size):=hid HS10.out
   have hRD2:Hid (∀ A2,(¬cp0=j+1->A2=some ⟨gb,off+(j+1)*7,none⟩)->Rd w10.drew 66 7 (L.length-(j+1)) A2 (rows rpC (xs.drop (j+1)))):=hid (fun A2 h=>by
    have hcl:=HXN.out
    have hcc:=HCP.out
    by_cases hc1:cp0=j+1
    .have e:xs.drop (j+1)=[]:=List.drop_eq_nil_of_le (by omega)
     rw [e,show L.length-(j+1)=0 by omega]
     exact Rd.nil _ _ _ _
    .rw [h hc1,hcl]
     have:=rd_cut rpC_len (HXN.out▸HR0.out _ HW10.out) (k:=j+1) (cap:=cp0) (by omega) (by omega)
     rw [if_neg hc1,show (some (⟨gb,off,none⟩:Addr)).map (·.add ((j+1)*7))=some ⟨gb,off+(j+1)*7,none⟩ by simp only [Option.map_some,Addr.add];by_cases e:(j+1)*7=0 <;> simp [e]] at this
     exact this.drewN 1)
   have HHH:=hid hh
   have HSS:Hid (∀ W' W'',Below W0.heap.size W0 W''->Fr (fun k=>k=w.heap.size+2\/k=w.heap.size+3) W'' W'->W'.cell? ⟨w.heap.size,0,none⟩=some (.string (str c.host))/\W'.cell? ⟨w.heap.size,1,none⟩=some (.int .i64 c.calls)/\W'.cell? ⟨w.heap.size,2,none⟩=some (.int .i64 c.pubs)/\W'.cell? ⟨w.heap.size,3,none⟩=some (.int .i64 c.subs)/\W'.cell? ⟨w.heap.size,4,none⟩=some (.int .i64 c.least)/\W'.cell? ⟨w.heap.size,5,none⟩=some (.int .i64 c.most)/\W'.cell? ⟨w.heap.size,6,none⟩=some (.int .i64 c.usual)/\W'.cell? ⟨w.heap.size,7,none⟩=some (.int .i64 last)/\W'.cell? ⟨w.heap.size,8,none⟩=some (.slice (some ⟨gb,off,none⟩) L.length cp0)/\W'.cell? ⟨w.heap.size+1,7,none⟩=some (.string (str a.tag))/\W'.cell? ⟨w.heap.size+1,3,none⟩=some (.bool true)):=hid (fun W' W'' hb hf=>by
    have hbx:=HBX.out W'' hb
    have q1:=hbx.s.fr hf (by omega)
    have q2:=hbx.a.fr hf (by omega)
    exact ⟨q1.cell 0,q1.cell 1,q1.cell 2,q1.cell 3,q1.cell 4,q1.cell 5,q1.cell 6,q1.cell 7,q1.cell 8,q2.cell 7,by have h3:=q2.cell 3;rw [hh] at h3;exact h3⟩)
   have HS0:Hid (∀ W'',Below W0.heap.size W0 W''->W''.cell? ⟨w.heap.size,0,none⟩=some (.string (str c.host))/\W''.cell? ⟨w.heap.size,1,none⟩=some (.int .i64 c.calls)/\W''.cell? ⟨w.heap.size,2,none⟩=some (.int .i64 c.pubs)/\W''.cell? ⟨w.heap.size,3,none⟩=some (.int .i64 c.subs)/\W''.cell? ⟨w.heap.size,4,none⟩=some (.int .i64 c.least)/\W''.cell? ⟨w.heap.size,5,none⟩=some (.int .i64 c.most)/\W''.cell? ⟨w.heap.size,6,none⟩=some (.int .i64 c.usual)/\W''.cell? ⟨w.heap.size,7,none⟩=some (.int .i64 last)/\W''.cell? ⟨w.heap.size,8,none⟩=some (.slice (some ⟨gb,off,none⟩) L.length cp0)/\W''.cell? ⟨w.heap.size+1,7,none⟩=some (.string (str a.tag))/\W''.cell? ⟨w.heap.size+1,3,none⟩=some (.bool true)):=hid (fun W'' hb=>HSS.out _ _ hb (Fr.refl _ _))
   have HS9:Hid (∀ W'',Below W0.heap.size W0 W''->∀ y0 y1 y2 y3 y4 y5 y6 y7 y8,(((((((((W''.setCell ⟨(w.heap.size+2),0,none⟩ y0).setCell ⟨(w.heap.size+2),1,none⟩ y1).setCell ⟨(w.heap.size+2),2,none⟩ y2).setCell ⟨(w.heap.size+2),3,none⟩ y3).setCell ⟨(w.heap.size+2),4,none⟩ y4).setCell ⟨(w.heap.size+2),5,none⟩ y5).setCell ⟨(w.heap.size+2),6,none⟩ y6).setCell ⟨(w.heap.size+2),7,none⟩ y7).setCell ⟨(w.heap.size+2),8,none⟩ y8).cell? ⟨w.heap.size,0,none⟩=some (.string (str c.host))/\(((((((((W''.setCell ⟨(w.heap.size+2),0,none⟩ y0).setCell ⟨(w.heap.size+2),1,none⟩ y1).setCell ⟨(w.heap.size+2),2,none⟩ y2).setCell ⟨(w.heap.size+2),3,none⟩ y3).setCell ⟨(w.heap.size+2),4,none⟩ y4).setCell ⟨(w.heap.size+2),5,none⟩ y5).setCell ⟨(w.heap.size+2),6,none⟩ y6).setCell ⟨(w.heap.size+2),7,none⟩ y7).setCell ⟨(w.heap.size+2),8,none⟩ y8).cell? ⟨w.heap.size,1,none⟩=some (.int .i64 c.calls)/\(((((((((W''.setCell ⟨(w.heap.size+2),0,none⟩ y0).setCell ⟨(w.heap.size+2),1,none⟩ y1).setCell ⟨(w.heap.size+2),2,none⟩ y2).setCell ⟨(w.heap.size+2),3,none⟩ y3).setCell ⟨(w.heap.size+2),4,none⟩ y4).setCell ⟨(w.heap.size+2),5,none⟩ y5).setCell ⟨(w.heap.size+2),6,none⟩ y6).setCell ⟨(w.heap.size+2),7,none⟩ y7).setCell ⟨(w.heap.size+2),8,none⟩ y8).cell? ⟨w.heap.size,2,none⟩=some (.int .i64 c.pubs)/\(((((((((W''.setCell ⟨(w.heap.size+2),0,none⟩ y0).setCell ⟨(w.heap.size+2),1,none⟩ y1).setCell ⟨(w.heap.size+2),2,none⟩ y2).setCell ⟨(w.heap.size+2),3,none⟩ y3).setCell ⟨(w.heap.size+2),4,none⟩ y4).setCell ⟨(w.heap.size+2),5,none⟩ y5).setCell ⟨(w.heap.size+2),6,none⟩ y6).setCell ⟨(w.heap.size+2),7,none⟩ y7).setCell ⟨(w.heap.size+2),8,none⟩ y8).cell? ⟨w.heap.size,3,none⟩=some (.int .i64 c.subs)/\(((((((((W''.setCell ⟨(w.heap.size+2),0,none⟩ y0).setCell ⟨(w.heap.size+2),1,none⟩ y1).setCell ⟨(w.heap.size+2),2,none⟩ y2).setCell ⟨(w.heap.size+2),3,none⟩ y3).setCell ⟨(w.heap.size+2),4,none⟩ y4).setCell ⟨(w.heap.size+2),5,none⟩ y5).setCell ⟨(w.heap.size+2),6,none⟩ y6).setCell ⟨(w.heap.size+2),7,none⟩ y7).setCell ⟨(w.heap.size+2),8,none⟩ y8).cell? ⟨w.heap.size,4,none⟩=some (.int .i64 c.least)/\(((((((((W''.setCell ⟨(w.heap.size+2),0,none⟩ y0).setCell ⟨(w.heap.size+2),1,none⟩ y1).setCell ⟨(w.heap.size+2),2,none⟩ y2).setCell ⟨(w.heap.size+2),3,none⟩ y3).setCell ⟨(w.heap.size+2),4,none⟩ y4).setCell ⟨(w.heap.size+2),5,none⟩ y5).setCell ⟨(w.heap.size+2),6,none⟩ y6).setCell ⟨(w.heap.size+2),7,none⟩ y7).setCell ⟨(w.heap.size+2),8,none⟩ y8).cell? ⟨w.heap.size,5,none⟩=some (.int .i64 c.most)/\(((((((((W''.setCell ⟨(w.heap.size+2),0,none⟩ y0).setCell ⟨(w.heap.size+2),1,none⟩ y1).setCell ⟨(w.heap.size+2),2,none⟩ y2).setCell ⟨(w.heap.size+2),3,none⟩ y3).setCell ⟨(w.heap.size+2),4,none⟩ y4).setCell ⟨(w.heap.size+2),5,none⟩ y5).setCell ⟨(w.heap.size+2),6,none⟩ y6).setCell ⟨(w.heap.size+2),7,none⟩ y7).setCell ⟨(w.heap.size+2),8,none⟩ y8).cell? ⟨w.heap.size,6,none⟩=some (.int .i64 c.usual)/\(((((((((W''.setCell ⟨(w.heap.size+2),0,none⟩ y0).setCell ⟨(w.heap.size+2),1,none⟩ y1).setCell ⟨(w.heap.size+2),2,none⟩ y2).setCell ⟨(w.heap.size+2),3,none⟩ y3).setCell ⟨(w.heap.size+2),4,none⟩ y4).setCell ⟨(w.heap.size+2),5,none⟩ y5).setCell ⟨(w.heap.size+2),6,none⟩ y6).setCell ⟨(w.heap.size+2),7,none⟩ y7).setCell ⟨(w.heap.size+2),8,none⟩ y8).cell? ⟨w.heap.size,7,none⟩=some (.int .i64 last)/\(((((((((W''.setCell ⟨(w.heap.size+2),0,none⟩ y0).setCell ⟨(w.heap.size+2),1,none⟩ y1).setCell ⟨(w.heap.size+2),2,none⟩ y2).setCell ⟨(w.heap.size+2),3,none⟩ y3).setCell ⟨(w.heap.size+2),4,none⟩ y4).setCell ⟨(w.heap.size+2),5,none⟩ y5).setCell ⟨(w.heap.size+2),6,none⟩ y6).setCell ⟨(w.heap.size+2),7,none⟩ y7).setCell ⟨(w.heap.size+2),8,none⟩ y8).cell? ⟨w.heap.size,8,none⟩=some (.slice (some ⟨gb,off,none⟩) L.length cp0)/\(((((((((W''.setCell ⟨(w.heap.size+2),0,none⟩ y0).setCell ⟨(w.heap.size+2),1,none⟩ y1).setCell ⟨(w.heap.size+2),2,none⟩ y2).setCell ⟨(w.heap.size+2),3,none⟩ y3).setCell ⟨(w.heap.size+2),4,none⟩ y4).setCell ⟨(w.heap.size+2),5,none⟩ y5).setCell ⟨(w.heap.size+2),6,none⟩ y6).setCell ⟨(w.heap.size+2),7,none⟩ y7).setCell ⟨(w.heap.size+2),8,none⟩ y8).cell? ⟨w.heap.size+1,7,none⟩=some (.string (str a.tag))/\(((((((((W''.setCell ⟨(w.heap.size+2),0,none⟩ y0).setCell ⟨(w.heap.size+2),1,none⟩ y1).setCell ⟨(w.heap.size+2),2,none⟩ y2).setCell ⟨(w.heap.size+2),3,none⟩ y3).setCell ⟨(w.heap.size+2),4,none⟩ y4).setCell ⟨(w.heap.size+2),5,none⟩ y5).setCell ⟨(w.heap.size+2),6,none⟩ y6).setCell ⟨(w.heap.size+2),7,none⟩ y7).setCell ⟨(w.heap.size+2),8,none⟩ y8).cell? ⟨w.heap.size+1,3,none⟩=some (.bool true)):=hid (fun W'' hb y0 y1 y2 y3 y4 y5 y6 y7 y8=>HSS.out _ _ hb (set9_fr23 _ _ y0 y1 y2 y3 y4 y5 y6 y7 y8 _ rfl))
   have HS94:Hid (∀ W'',Below W0.heap.size W0 W''->∀ y0 y1 y2 y3 y4 y5 y6 y7 y8 z0 z1 z2 z3,(((((((((((((W''.setCell ⟨(w.heap.size+2),0,none⟩ y0).setCell ⟨(w.heap.size+2),1,none⟩ y1).setCell ⟨(w.heap.size+2),2,none⟩ y2).setCell ⟨(w.heap.size+2),3,none⟩ y3).setCell ⟨(w.heap.size+2),4,none⟩ y4).setCell ⟨(w.heap.size+2),5,none⟩ y5).setCell ⟨(w.heap.size+2),6,none⟩ y6).setCell ⟨(w.heap.size+2),7,none⟩ y7).setCell ⟨(w.heap.size+2),8,none⟩ y8).setCell ⟨(w.heap.size+3),0,none⟩ z0).setCell ⟨(w.heap.size+3),1,none⟩ z1).setCell ⟨(w.heap.size+3),2,none⟩ z2).setCell ⟨(w.heap.size+3),3,none⟩ z3).cell? ⟨w.heap.size,0,none⟩=some (.string (str c.host))/\(((((((((((((W''.setCell ⟨(w.heap.size+2),0,none⟩ y0).setCell ⟨(w.heap.size+2),1,none⟩ y1).setCell ⟨(w.heap.size+2),2,none⟩ y2).setCell ⟨(w.heap.size+2),3,none⟩ y3).setCell ⟨(w.heap.size+2),4,none⟩ y4).setCell ⟨(w.heap.size+2),5,none⟩ y5).setCell ⟨(w.heap.size+2),6,none⟩ y6).setCell ⟨(w.heap.size+2),7,none⟩ y7).setCell ⟨(w.heap.size+2),8,none⟩ y8).setCell ⟨(w.heap.size+3),0,none⟩ z0).setCell ⟨(w.heap.size+3),1,none⟩ z1).setCell ⟨(w.heap.size+3),2,none⟩ z2).setCell ⟨(w.heap.size+3),3,none⟩ z3).cell? ⟨w.heap.size,1,none⟩=some (.int .i64 c.calls)/\(((((((((((((W''.setCell ⟨(w.heap.size+2),0,none⟩ y0).setCell ⟨(w.heap.size+2),1,none⟩ y1).setCell ⟨(w.heap.size+2),2,none⟩ y2).setCell ⟨(w.heap.size+2),3,none⟩ y3).setCell ⟨(w.heap.size+2),4,none⟩ y4).setCell ⟨(w.heap.size+2),5,none⟩ y5).setCell ⟨(w.heap.size+2),6,none⟩ y6).setCell ⟨(w.heap.size+2),7,none⟩ y7).setCell ⟨(w.heap.size+2),8,none⟩ y8).setCell ⟨(w.heap.size+3),0,none⟩ z0).setCell ⟨(w.heap.size+3),1,none⟩ z1).setCell ⟨(w.heap.size+3),2,none⟩ z2).setCell ⟨(w.heap.size+3),3,none⟩ z3).cell? ⟨w.heap.size,2,none⟩=some (.int .i64 c.pubs)/\(((((((((((((W''.setCell ⟨(w.heap.size+2),0,none⟩ y0).setCell ⟨(w.heap.size+2),1,none⟩ y1).setCell ⟨(w.heap.size+2),2,none⟩ y2).setCell ⟨(w.heap.size+2),3,none⟩ y3).setCell ⟨(w.heap.size+2),4,none⟩ y4).setCell ⟨(w.heap.size+2),5,none⟩ y5).setCell ⟨(w.heap.size+2),6,none⟩ y6).setCell ⟨(w.heap.size+2),7,none⟩ y7).setCell ⟨(w.heap.size+2),8,none⟩ y8).setCell ⟨(w.heap.size+3),0,none⟩ z0).setCell ⟨(w.heap.size+3),1,none⟩ z1).setCell ⟨(w.heap.size+3),2,none⟩ z2).setCell ⟨(w.heap.size+3),3,none⟩ z3).cell? ⟨w.heap.size,3,none⟩=some (.int .i64 c.subs)/\(((((((((((((W''.setCell ⟨(w.heap.size+2),0,none⟩ y0).setCell ⟨(w.heap.size+2),1,none⟩ y1).setCell ⟨(w.heap.size+2),2,none⟩ y2).setCell ⟨(w.heap.size+2),3,none⟩ y3).setCell ⟨(w.heap.size+2),4,none⟩ y4).setCell ⟨(w.heap.size+2),5,none⟩ y5).setCell ⟨(w.heap.size+2),6,none⟩ y6).setCell ⟨(w.heap.size+2),7,none⟩ y7).setCell ⟨(w.heap.size+2),8,none⟩ y8).setCell ⟨(w.heap.size+3),0,none⟩ z0).setCell ⟨(w.heap.size+3),1,none⟩ z1).setCell ⟨(w.heap.size+3),2,none⟩ z2).setCell ⟨(w.heap.size+3),3,none⟩ z3).cell? ⟨w.heap.size,4,none⟩=some (.int .i64 c.least)/\(((((((((((((W''.setCell ⟨(w.heap.size+2),0,none⟩ y0).setCell ⟨(w.heap.size+2),1,none⟩ y1).setCell ⟨(w.heap.size+2),2,none⟩ y2).setCell ⟨(w.heap.size+2),3,none⟩ y3).setCell ⟨(w.heap.size+2),4,none⟩ y4).setCell ⟨(w.heap.size+2),5,none⟩ y5).setCell ⟨(w.heap.size+2),6,none⟩ y6).setCell ⟨(w.heap.size+2),7,none⟩ y7).setCell ⟨(w.heap.size+2),8,none⟩ y8).setCell ⟨(w.heap.size+3),0,none⟩ z0).setCell ⟨(w.heap.size+3),1,none⟩ z1).setCell ⟨(w.heap.size+3),2,none⟩ z2).setCell ⟨(w.heap.size+3),3,none⟩ z3).cell? ⟨w.heap.size,5,none⟩=some (.int .i64 c.most)/\(((((((((((((W''.setCell ⟨(w.heap.size+2),0,none⟩ y0).setCell ⟨(w.heap.size+2),1,none⟩ y1).setCell ⟨(w.heap.size+2),2,none⟩ y2).setCell ⟨(w.heap.size+2),3,none⟩ y3).setCell ⟨(w.heap.size+2),4,none⟩ y4).setCell ⟨(w.heap.size+2),5,none⟩ y5).setCell ⟨(w.heap.size+2),6,none⟩ y6).setCell ⟨(w.heap.size+2),7,none⟩ y7).setCell ⟨(w.heap.size+2),8,none⟩ y8).setCell ⟨(w.heap.size+3),0,none⟩ z0).setCell ⟨(w.heap.size+3),1,none⟩ z1).setCell ⟨(w.heap.size+3),2,none⟩ z2).setCell ⟨(w.heap.size+3),3,none⟩ z3).cell? ⟨w.heap.size,6,none⟩=some (.int .i64 c.usual)/\(((((((((((((W''.setCell ⟨(w.heap.size+2),0,none⟩ y0).setCell ⟨(w.heap.size+2),1,none⟩ y1).setCell ⟨(w.heap.size+2),2,none⟩ y2).setCell ⟨(w.heap.size+2),3,none⟩ y3).setCell ⟨(w.heap.size+2),4,none⟩ y4).setCell ⟨(w.heap.size+2),5,none⟩ y5).setCell ⟨(w.heap.size+2),6,none⟩ y6).setCell ⟨(w.heap.size+2),7,none⟩ y7).setCell ⟨(w.heap.size+2),8,none⟩ y8).setCell ⟨(w.heap.size+3),0,none⟩ z0).setCell ⟨(w.heap.size+3),1,none⟩ z1).setCell ⟨(w.heap.size+3),2,none⟩ z2).setCell ⟨(w.heap.size+3),3,none⟩ z3).cell? ⟨w.heap.size,7,none⟩=some (.int .i64 last)/\(((((((((((((W''.setCell ⟨(w.heap.size+2),0,none⟩ y0).setCell ⟨(w.heap.size+2),1,none⟩ y1).setCell ⟨(w.heap.size+2),2,none⟩ y2).setCell ⟨(w.heap.size+2),3,none⟩ y3).setCell ⟨(w.heap.size+2),4,none⟩ y4).setCell ⟨(w.heap.size+2),5,none⟩ y5).setCell ⟨(w.heap.size+2),6,none⟩ y6).setCell ⟨(w.heap.size+2),7,none⟩ y7).setCell ⟨(w.heap.size+2),8,none⟩ y8).setCell ⟨(w.heap.size+3),0,none⟩ z0).setCell ⟨(w.heap.size+3),1,none⟩ z1).setCell ⟨(w.heap.size+3),2,none⟩ z2).setCell ⟨(w.heap.size+3),3,none⟩ z3).cell? ⟨w.heap.size,8,none⟩=some (.slice (some ⟨gb,off,none⟩) L.length cp0)/\(((((((((((((W''.setCell ⟨(w.heap.size+2),0,none⟩ y0).setCell ⟨(w.heap.size+2),1,none⟩ y1).setCell ⟨(w.heap.size+2),2,none⟩ y2).setCell ⟨(w.heap.size+2),3,none⟩ y3).setCell ⟨(w.heap.size+2),4,none⟩ y4).setCell ⟨(w.heap.size+2),5,none⟩ y5).setCell ⟨(w.heap.size+2),6,none⟩ y6).setCell ⟨(w.heap.size+2),7,none⟩ y7).setCell ⟨(w.heap.size+2),8,none⟩ y8).setCell ⟨(w.heap.size+3),0,none⟩ z0).setCell ⟨(w.heap.size+3),1,none⟩ z1).setCell ⟨(w.heap.size+3),2,none⟩ z2).setCell ⟨(w.heap.size+3),3,none⟩ z3).cell? ⟨w.heap.size+1,7,none⟩=some (.string (str a.tag))/\(((((((((((((W''.setCell ⟨(w.heap.size+2),0,none⟩ y0).setCell ⟨(w.heap.size+2),1,none⟩ y1).setCell ⟨(w.heap.size+2),2,none⟩ y2).setCell ⟨(w.heap.size+2),3,none⟩ y3).setCell ⟨(w.heap.size+2),4,none⟩ y4).setCell ⟨(w.heap.size+2),5,none⟩ y5).setCell ⟨(w.heap.size+2),6,none⟩ y6).setCell ⟨(w.heap.size+2),7,none⟩ y7).setCell ⟨(w.heap.size+2),8,none⟩ y8).setCell ⟨(w.heap.size+3),0,none⟩ z0).setCell ⟨(w.heap.size+3),1,none⟩ z1).setCell ⟨(w.heap.size+3),2,none⟩ z2).setCell ⟨(w.heap.size+3),3,none⟩ z3).cell? ⟨w.heap.size+1,3,none⟩=some (.bool true)):=hid (fun W'' hb y0 y1 y2 y3 y4 y5 y6 y7 y8 z0 z1 z2 z3=>HSS.out _ _ hb ((set9_fr23 _ _ y0 y1 y2 y3 y4 y5 y6 y7 y8 _ rfl).trans (set4_fr23 _ _ z0 z1 z2 z3 _ rfl) (fun _ _ h=>h)))
   obtain ⟨c0,c1,c2,c3,c4,c5,c6,c7,c8,a7,a3⟩:=HSS.out _ _ HW10.out (Fr.refl _ _)
   have k1:(0:Int)<=(j:Int)+1:=by omega
   have k2:(j:Int)+1<=L.length:=by omega
   have k3:IntKind.i64.wrap ((j:Int)+1)=(j:Int)+1:=IntWalk.i64_in _ (by have:=HLX.out;omega)
   have k4:((j:Int)+1).toNat=j+1:=by omega
   have k5:(L.length:Int)<=cp0:=by have:=HCP.out;omega
   have k7:(j:Int)+1<=cp0:=by have:=HCP.out;omega
   have hm6:Hid (j+1+(L.length-(j+1))<=1000000):=hid (by have:=HLX.out;omega)
   have hcc:cp0=j+1\/¬cp0=j+1:=Classical.em _
   go_wp2_with fail
   rcases hcc with hcc|hcc
   all_goals
    have HCC:=hid hcc
    go_region_held3 (fun w'=>w'.cell? ⟨w.heap.size,0,none⟩=some (.string (str c.host))/\w'.cell? ⟨w.heap.size,1,none⟩=some (.int .i64 c.calls)/\w'.cell? ⟨w.heap.size,2,none⟩=some (.int .i64 c.pubs)/\w'.cell? ⟨w.heap.size,3,none⟩=some (.int .i64 c.subs)/\w'.cell? ⟨w.heap.size,4,none⟩=some (.int .i64 c.least)/\w'.cell? ⟨w.heap.size,5,none⟩=some (.int .i64 c.most)/\w'.cell? ⟨w.heap.size,6,none⟩=some (.int .i64 c.usual)/\w'.cell? ⟨w.heap.size,7,none⟩=some (.int .i64 last)/\w'.cell? ⟨w.heap.size,8,none⟩=some (.slice (some ⟨gb,off,none⟩) L.length cp0)/\w'.cell? ⟨w.heap.size+1,7,none⟩=some (.string (str a.tag))/\w'.cell? ⟨w.heap.size+1,3,none⟩=some (.bool true))
     (first|(with_reducible exact HS94.out _ HW16.out _ _ _ _ _ _ _ _ _ _ _ _ _)|(with_reducible exact HS9.out _ HW16.out _ _ _ _ _ _ _ _ _)|(with_reducible exact HS0.out _ HW16.out)|(with_reducible exact HS0.out _ HWZ.out)|(with_reducible exact HS0.out _ HWD.out)) (first|(refine step_app_rd ?_ (.tmp 194) (.tmp 199) 45 ?_ w5.heap.size 66 7 112 (.agg #[.int .i64 0,.string ⟨#[]⟩,.string ⟨#[]⟩,.int .i64 0,.string ⟨#[]⟩,.slice none 0 0,.slice none 0 0]) Tryz.underlying45 ePub ?_ ?_ v14 (j+1) (rows rpC (xs.take j)++rpC (⟨⟨L[j].number,L[j].who,a.tag,now+10*n,a.doc⟩,.slice At a.doc.tups.length ct,.slice An a.doc.notes.length cn⟩:RP)) ?_ HOLD.out (some ⟨gb,off,none⟩) (L.length-(j+1)) 0 (rows rpC (xs.drop (j+1))) ?_ ?_ HONE2.out ?_ ?_ hsl.out ?_;rfl;rfl;rfl;omega;rfl;rfl;(exact hRD2.out _ (fun h=>by first|exact absurd HCC.out h|rfl));(have:=hm6.out;unfold maxLen;omega);(have:=hm6.out;omega);intro v16 w16 hown16 hb16 hg16 hat16;obtain ⟨A16,c16,e16,_⟩:=RdV.of_own hown16;subst e16;have HW16:Hid (Below W0.heap.size W0 w16):=hid (by first|exact HWD.out.trans (hb16.mono HBL.out)|exact HWZ.out.trans (hb16.mono HBL.out));obtain ⟨zr0,zr1,zr2,zr3,zr4,zr5,zr6,zr7,zr8,zf0,zf1,zf2,zf3,zf4,zf5,zf6,zf7,zf8⟩:=(HBX.out w16 HW16.out).rc;obtain ⟨yr0,yr1,yr2,yr3,yf0,yf1,yf2,yf3⟩:=(HBX.out w16 HW16.out).tc)|(refine step_app_rd ?_ (.tmp 194) (.tmp 199) 45 ?_ w5.heap.size 66 7 112 (.agg #[.int .i64 0,.string ⟨#[]⟩,.string ⟨#[]⟩,.int .i64 0,.string ⟨#[]⟩,.slice none 0 0,.slice none 0 0]) Tryz.underlying45 ePub ?_ ?_ v14 (j+1) (rows rpC (xs.take j)++rpC (⟨⟨L[j].number,L[j].who,a.tag,now+10*n,a.doc⟩,.slice At a.doc.tups.length ct,.slice An a.doc.notes.length cn⟩:RP)) ?_ HOLD.out (some ⟨gb,off,none⟩) (L.length-(j+1)) (cp0-(j+1)) (rows rpC (xs.drop (j+1))) ?_ ?_ HONE2.out ?_ ?_ hsl.out ?_;rfl;rfl;rfl;omega;rfl;rfl;(exact hRD2.out _ (fun h=>by first|exact absurd HCC.out h|rfl));(have:=hm6.out;unfold maxLen;omega);(have:=hm6.out;omega);intro v16 w16 hown16 hb16 hg16 hat16;obtain ⟨A16,c16,e16,_⟩:=RdV.of_own hown16;subst e16;have HW16:Hid (Below W0.heap.size W0 w16):=hid (by first|exact HWD.out.trans (hb16.mono HBL.out)|exact HWZ.out.trans (hb16.mono HBL.out));obtain ⟨zr0,zr1,zr2,zr3,zr4,zr5,zr6,zr7,zr8,zf0,zf1,zf2,zf3,zf4,zf5,zf6,zf7,zf8⟩:=(HBX.out w16 HW16.out).rc;obtain ⟨yr0,yr1,yr2,yr3,yf0,yf1,yf2,yf3⟩:=(HBX.out w16 HW16.out).tc)|(refine step_app_rd ?_ (.tmp 194) (.tmp 199) 45 ?_ w5.heap.size 66 7 112 (.agg #[.int .i64 0,.string ⟨#[]⟩,.string ⟨#[]⟩,.int .i64 0,.string ⟨#[]⟩,.slice none 0 0,.slice none 0 0]) Tryz.underlying45 ePub ?_ ?_ v14 (j+1) (rows rpC (xs.take j)++rpC (⟨⟨L[j].number,L[j].who,a.tag,now+10*n,a.doc⟩,.slice At a.doc.tups.length ct,.slice An a.doc.notes.length cn⟩:RP)) ?_ HOLD.out (some ⟨gb,off+(j+1)*7,none⟩) (L.length-(j+1)) (cp0-(j+1)) (rows rpC (xs.drop (j+1))) ?_ ?_ HONE2.out ?_ ?_ hsl.out ?_;rfl;rfl;rfl;omega;rfl;rfl;(exact hRD2.out _ (fun h=>by first|exact absurd HCC.out h|rfl));(have:=hm6.out;unfold maxLen;omega);(have:=hm6.out;omega);intro v16 w16 hown16 hb16 hg16 hat16;obtain ⟨A16,c16,e16,_⟩:=RdV.of_own hown16;subst e16;have HW16:Hid (Below W0.heap.size W0 w16):=hid (by first|exact HWD.out.trans (hb16.mono HBL.out)|exact HWZ.out.trans (hb16.mono HBL.out));obtain ⟨zr0,zr1,zr2,zr3,zr4,zr5,zr6,zr7,zr8,zf0,zf1,zf2,zf3,zf4,zf5,zf6,zf7,zf8⟩:=(HBX.out w16 HW16.out).rc;obtain ⟨yr0,yr1,yr2,yr3,yf0,yf1,yf2,yf3⟩:=(HBX.out w16 HW16.out).tc))
    all_goals first|(obtain ⟨⟨e0,e1,e2,e3,e4,e5,e6,e7,e8,e9,e10,e11,e12⟩,hp⟩:=HENDN.out _ _ _ (⟨⟨L[j].number,L[j].who,a.tag,now+10*n,a.doc⟩,.slice At a.doc.tups.length ct,.slice An a.doc.notes.length cn⟩:RP) _ HHH.out (by unfold putP;rw [HHH.out];rfl) HBS.out HW16.out (HDA.out _ HW16.out) hown16 _ (.inl rfl);have HP:=hid (hp);clear hp;go_wp2;exact bodyPost_ret (v:=.tuple #[.agg #[.string (str c.host),.int .i64 c.calls,.int .i64 c.pubs,.int .i64 c.subs,.int .i64 c.least,.int .i64 c.most,.int .i64 c.usual,.int .i64 last,.slice A16 (j+1+(L.length-(j+1))) c16],.agg #[.int .i64 200,.int .i64 n,.string (str a.tag),.bool true],.int .i64 0]) (by simp [results,Tryz.results29,go_sem,e0,e1,e2,e3,e4,e5,e6,e7,e8,e9,e10,e11,e12]) rfl HP.out)|(obtain ⟨⟨e0,e1,e2,e3,e4,e5,e6,e7,e8,e9,e10,e11,e12⟩,hp⟩:=HENDN.out _ _ _ (⟨⟨L[j].number,L[j].who,a.tag,now+10*n,a.doc⟩,.slice At a.doc.tups.length ct,.slice An a.doc.notes.length cn⟩:RP) _ HHH.out (by unfold putP;rw [HHH.out];rfl) HBS.out HW16.out (HDA.out _ HW16.out) hown16 _ (.inl rfl);have HP:=hid (rdo_drew hp);clear hp;go_wp2;exact bodyPost_ret (v:=.tuple #[.agg #[.string (str c.host),.int .i64 c.calls,.int .i64 c.pubs,.int .i64 c.subs,.int .i64 c.least,.int .i64 c.most,.int .i64 c.usual,.int .i64 last,.slice A16 (j+1+(L.length-(j+1))) c16],.agg #[.int .i64 200,.int .i64 n,.string (str a.tag),.bool true],.int .i64 0]) (by simp [results,Tryz.results29,go_sem,e0,e1,e2,e3,e4,e5,e6,e7,e8,e9,e10,e11,e12]) rfl HP.out)
end Go.Proofs.YthfmekdbcoaolaaGreatDoor
