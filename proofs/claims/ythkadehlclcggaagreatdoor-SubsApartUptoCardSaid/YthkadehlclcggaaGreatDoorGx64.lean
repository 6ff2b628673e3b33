/- Chapter 19: rosterref03.Parse once more, its lists told with their room. -/
import Derived.Test.YthkadehlclcggaaGreatDoorGx21
import Derived.Test.YthkadehlclcggaaGreatDoorGx50
import Derived.Deep.RegionWith
namespace Go.Proofs.YthkadehlclcggaaGreatDoor
set_option linter.unusedSimpArgs false
set_option linter.unusedVariables false
open Go.RowKit
open Go.Lib (hid)
def ParseP2 (r:Uri × Int) (w:World) (e:Ending) (w':World):Prop :=
 ∃ vp vh,e=.returned (.tuple #[uriV r.1 vp vh,.int .i64 r.2])/\PrM w' r.1.params vp/\PrM w' r.1.headers vh/\Below w.heap.size w w'
theorem ParseP2.err {r:Uri × Int} {w w':World} {k:Int} (h:r=(noUri,k)) (hb:Below w.heap.size w w'):ParseP2 r w (.returned (.tuple #[.agg #[.string ⟨#[]⟩,.string ⟨#[]⟩,.string ⟨#[]⟩,.int .i64 0,.slice none 0 0,.slice none 0 0],.int .i64 k])) w':=by
 subst h
 exact ⟨_,_,rfl,PrM.nil _,PrM.nil _,hb⟩
theorem OwnP.prM {n:Nat} {wr:World} {v:Value} {ps:List Par} (h:OwnP n wr v ps):PrM wr ps v:=by
 obtain ⟨base,_,ho⟩:=h
 exact RdV.of_own ho
theorem ParseP2.ok {r:Uri × Int} {w w':World} {u:Uri} {vp vh:Value} {n:Nat} (h:r=(u,0)) (hp:OwnP n w' vp u.params) (hh:OwnP n w' vh u.headers) (hb:Below w.heap.size w w'):ParseP2 r w (.returned (.tuple #[.agg #[.string (str u.scheme),.string (str u.user),.string (str u.host),.int .i64 u.port,vp,vh],.int .i64 0])) w':=by
 subst h
 exact ⟨_,_,rfl,hp.prM,hh.prM,hb⟩
set_option maxRecDepth 100000 in
set_option maxHeartbeats 8000000 in
theorem rParse2_any (s:ByteArray) (w:World) (hs:s.size<=100000000):Calls Tryz.prog 40 #[.string s] w (ParseP2 (parseE s.data.toList) w):=by
 have hl:s.data.toList.length=s.size:=by simp
 have HP0:=hid (PSt.start w)
 obtain ⟨g,hg⟩:∃ g,w.heap.size=g:=⟨_,rfl⟩
 have HG:=hid hg
 have HW0:Hid (∃ w0,(w.alloc (.cells #[.string ⟨#[]⟩,.string ⟨#[]⟩,.string ⟨#[]⟩,.int .i64 0,.slice none 0 0,.slice none 0 0] 32)).alloc (.cells #[.string ⟨#[]⟩,.string ⟨#[]⟩,.string ⟨#[]⟩,.int .i64 0,.slice none 0 0,.slice none 0 0] 32)=w0):=hid ⟨_,rfl⟩
 have hcl:=cut_lens 58 s.data.toList
 have HC1:Hid (∀ W,Calls Tryz.prog 70 #[.string (s),.int .u8 58] W fun e w'=>e=.returned (cutV (s) 58)/\∃ n,w'=W.drewN n):=hid (fun W=>rCut_any (s) 58 W (by omega))
 have HNO:=hid (fun q=>parse_no (s:=s.data.toList) q)
 have HYES:=hid (fun q1 q2=>parse_yes (s:=s.data.toList) q1 q2)
 have HCV:Hid (∀ p q f,cutT 58 s.data.toList=(p,q,f)->cutV s 58=.tuple #[.string (str p),.string (str q),.bool f]):=hid (fun p q f h=>cutV_is h)
 generalize cutT 58 s.data.toList=t at *
 obtain ⟨hd,rest,ok⟩:=t
 simp only at hcl HNO HYES
 have HCV:=hid (HCV.out hd rest ok rfl)
 have HLOW:Hid (lowS (str hd)=str (low hd)):=hid rfl
 have hhd:hd.length<=100000000:=by omega
 have hrl:rest.length<=100000000:=by omega
 have HSC:Hid (schemeB (str (low hd)).data.toList=schemeB (low hd)):=hid rfl
 clear hcl hl
 go_enter Tryz.func40,Tryz.ntmps40
 go_wp2_with fail
 obtain ⟨w0,hw0⟩:=HW0.out
 rw [hw0]
 have HP0:Hid (PSt w zeroU w0):=hid (by have q:=HP0.out;unfold zeroU at q;rw [hw0] at q;exact q)
 clear hw0 HW0
 refine (HC1.out _).mono ?_
 rintro e w1 ⟨rfl,n1,rfl⟩
 rw [HCV.out]
 go_wp2_with fail
 refine (rLower_any (str hd) _ (by show hd.length<=_;omega)).mono ?_
 rintro e w3 ⟨rfl,hb2⟩
 rw [HLOW.out]
 have HP3:=hid ((HP0.out.drewN n1).on hb2)
 clear hb2
 cases ok with
 | false =>
   have HX:=hid (HNO.out (.inl rfl))
   have HZ:=hid (HP3.out.rz hg (.string ⟨#[]⟩) (.string ⟨#[]⟩) (.string ⟨#[]⟩) (.int .i64 0) (.slice none 0 0) (.slice none 0 0))
   obtain ⟨⟨e0,e1,e2,e3,e4,e5⟩,f0,f1,f2,f3,f4,f5⟩:=HP3.out.rc hg
   obtain ⟨d0,d1,d2,d3,d4,d5⟩:=HP3.out.uc hg
   go_wp2
   obtain ⟨⟨z0,z1,z2,z3,z4,z5⟩,hbz⟩:=HZ.out
   exact bodyPost_ret (v:=.tuple #[.agg #[.string ⟨#[]⟩,.string ⟨#[]⟩,.string ⟨#[]⟩,.int .i64 0,.slice none 0 0,.slice none 0 0],.int .i64 30]) (by simp [results,Tryz.results40,go_sem,z0,z1,z2,z3,z4,z5]) rfl (ParseP2.err HX.out hbz)
 | true =>
   cases hsch:schemeB (low hd) with
   | false =>
     have HX:=hid (HNO.out (.inr hsch))
     rw [hsch] at HSC
     clear hsch
     have HZ:=hid (HP3.out.rz hg (.string ⟨#[]⟩) (.string ⟨#[]⟩) (.string ⟨#[]⟩) (.int .i64 0) (.slice none 0 0) (.slice none 0 0))
     obtain ⟨⟨e0,e1,e2,e3,e4,e5⟩,f0,f1,f2,f3,f4,f5⟩:=HP3.out.rc hg
     obtain ⟨d0,d1,d2,d3,d4,d5⟩:=HP3.out.uc hg
     go_wp2_with fail
     refine (rScheme_any _ w3).mono ?_
     rintro e w' ⟨rfl,hw⟩
     subst hw
     rw [HSC.out]
     go_wp2
     obtain ⟨⟨z0,z1,z2,z3,z4,z5⟩,hbz⟩:=HZ.out
     exact bodyPost_ret (v:=.tuple #[.agg #[.string ⟨#[]⟩,.string ⟨#[]⟩,.string ⟨#[]⟩,.int .i64 0,.slice none 0 0,.slice none 0 0],.int .i64 30]) (by simp [results,Tryz.results40,go_sem,z0,z1,z2,z3,z4,z5]) rfl (ParseP2.err HX.out hbz)
   | true =>
     rw [hsch] at HSC
     have HU:=hid (HYES.out rfl hsch)
     clear hsch
     have HC2:Hid (∀ W,Calls Tryz.prog 70 #[.string (str rest),.int .u8 64] W fun e w'=>e=.returned (cutV (str rest) 64)/\∃ n,w'=W.drewN n):=hid (fun W=>rCut_any (str rest) 64 W (by show rest.length<=_;omega))
     have HHAS:Hid (∀ W,Calls Tryz.prog 73 #[.string (str rest),.int .u8 64] W fun e w'=>e=.returned (.bool (cutT 64 rest).2.2)/\W=w'):=hid (fun W=>(rHas_any (str rest) 64 W (by show rest.length<=_;omega)).mono (fun e w' h=>⟨by rw [h.1,in_cut];rfl,h.2⟩))
     have hcl:=cut_lens 64 rest
     have HCV2:Hid (∀ p q f,cutT 64 rest=(p,q,f)->cutV (str rest) 64=.tuple #[.string (str p),.string (str q),.bool f]):=hid (fun p q f h=>cutV_is (s:=str rest) h)
     unfold userR at HU
     generalize cutT 64 rest=t2 at *
     obtain ⟨ua,ub,is⟩:=t2
     simp only at hcl HU HHAS
     have HCV2:=hid (HCV2.out ua ub is rfl)
     have hua:ua.length<=100000000:=by omega
     have hub:ub.length<=100000000:=by omega
     have HPL:Hid (∀ W,Calls Tryz.prog 74 #[.string (str ua),.string ⟨#[38,61,43,36,44,59,63,47]⟩] W fun e w'=>e=.returned (plV (plainT users ua))/\Below W.heap.size W w'):=hid (fun W=>rwritten_any (str ua) ⟨#[38,61,43,36,44,59,63,47]⟩ W (by show ua.length<=_;omega) (by show 8<=_;omega))
     clear hcl
     have hcases:(is=true/\userO ua=none)\/∃ usr R,R.length<=100000000/\usr.length<=64/\(if is=true then (userO ua).map (·,ub) else some ([],rest))=some (usr,R)/\((is=true/\userO ua=some usr/\R=ub)\/(is=false/\usr=[]/\R=rest)):=by
      cases is with
      | false=>exact .inr ⟨[],rest,hrl,by simp,by simp,.inr ⟨rfl,rfl,rfl⟩⟩
      | true =>
        cases hu:userO ua with
        | none=>exact .inl ⟨rfl,rfl⟩
        | some usr=>exact .inr ⟨usr,ub,hub,user_some_len hu,by simp,.inl ⟨rfl,rfl,rfl⟩⟩
     go_wp2_with fail
     refine (rScheme_any _ w3).mono ?_
     rintro e w' ⟨rfl,hw⟩
     subst hw
     rw [HSC.out]
     go_wp2_with fail
     refine (HHAS.out _).mono ?_
     rintro e w' ⟨rfl,hw⟩
     subst hw
     rcases hcases with ⟨rfl,hu⟩|⟨usr,R,hRl,hul,hR,hway⟩
     .have HX:Hid (parseE s.data.toList=(noUri,31)):=hid (by rw [HU.out,hu];rfl)
      clear HU
      go_wp2_with fail
      refine (HC2.out _).mono ?_
      rintro e w4 ⟨rfl,n2,rfl⟩
      rw [HCV2.out]
      go_wp2_with fail
      refine (HPL.out _).mono ?_
      rintro e w5 ⟨rfl,hb5⟩
      have HP5:=hid ((HP3.out.drewN n2).on hb5)
      clear hb5
      cases hpl:plainT users ua with
      | none =>
        unfold plV
        have HZ:=hid (HP5.out.rz hg (.string ⟨#[]⟩) (.string ⟨#[]⟩) (.string ⟨#[]⟩) (.int .i64 0) (.slice none 0 0) (.slice none 0 0))
        obtain ⟨⟨e0,e1,e2,e3,e4,e5⟩,f0,f1,f2,f3,f4,f5⟩:=HP5.out.rc hg
        obtain ⟨d0,d1,d2,d3,d4,d5⟩:=HP5.out.uc hg
        go_wp2
        obtain ⟨⟨z0,z1,z2,z3,z4,z5⟩,hbz⟩:=HZ.out
        exact bodyPost_ret (v:=.tuple #[.agg #[.string ⟨#[]⟩,.string ⟨#[]⟩,.string ⟨#[]⟩,.int .i64 0,.slice none 0 0,.slice none 0 0],.int .i64 31]) (by simp [results,Tryz.results40,go_sem,z0,z1,z2,z3,z4,z5]) rfl (ParseP2.err HX.out hbz)
      | some t =>
        unfold plV
        by_cases ht:t=[]
        .subst ht
         have qe:(str []).toList.isEmpty=true:=by rw [Lib.toList_data];rfl
         have HZ:=hid (HP5.out.rz hg (.string ⟨#[]⟩) (.string ⟨#[]⟩) (.string ⟨#[]⟩) (.int .i64 0) (.slice none 0 0) (.slice none 0 0))
         obtain ⟨⟨e0,e1,e2,e3,e4,e5⟩,f0,f1,f2,f3,f4,f5⟩:=HP5.out.rc hg
         obtain ⟨d0,d1,d2,d3,d4,d5⟩:=HP5.out.uc hg
         go_wp2
         obtain ⟨⟨z0,z1,z2,z3,z4,z5⟩,hbz⟩:=HZ.out
         exact bodyPost_ret (v:=.tuple #[.agg #[.string ⟨#[]⟩,.string ⟨#[]⟩,.string ⟨#[]⟩,.int .i64 0,.slice none 0 0,.slice none 0 0],.int .i64 31]) (by simp [results,Tryz.results40,go_sem,z0,z1,z2,z3,z4,z5]) rfl (ParseP2.err HX.out hbz)
        .by_cases ht2:64<t.length
         .have qe:(str t).toList.isEmpty=false:=emp_no (fun q=>ht (str_inj q))
          have q64:(64:Int)<(str t).size:=by show (64:Int)<(t.length:Nat);omega
          have HZ:=hid (HP5.out.rz hg (.string ⟨#[]⟩) (.string ⟨#[]⟩) (.string ⟨#[]⟩) (.int .i64 0) (.slice none 0 0) (.slice none 0 0))
          obtain ⟨⟨e0,e1,e2,e3,e4,e5⟩,f0,f1,f2,f3,f4,f5⟩:=HP5.out.rc hg
          obtain ⟨d0,d1,d2,d3,d4,d5⟩:=HP5.out.uc hg
          go_wp2
          obtain ⟨⟨z0,z1,z2,z3,z4,z5⟩,hbz⟩:=HZ.out
          exact bodyPost_ret (v:=.tuple #[.agg #[.string ⟨#[]⟩,.string ⟨#[]⟩,.string ⟨#[]⟩,.int .i64 0,.slice none 0 0,.slice none 0 0],.int .i64 31]) (by simp [results,Tryz.results40,go_sem,z0,z1,z2,z3,z4,z5]) rfl (ParseP2.err HX.out hbz)
         .exfalso
          rw [user_good hpl ht ht2] at hu
          cases hu
     .have HX:Hid (parseE s.data.toList=restE (low hd) usr R):=hid (by rw [HU.out,hR])
      clear HU hR
      go_upto_if 46 with (fail)
      go_cut [6,9] (fun r us wx=>r=.string (str R)/\us=.string (str usr)/\PSt w zeroU wx)
      case first =>
       rcases hway with ⟨rfl,hu,rfl⟩|⟨rfl,rfl,rfl⟩
       .go_wp2_with fail
        refine (HC2.out _).mono ?_
        rintro e w4 ⟨rfl,n2,rfl⟩
        rw [HCV2.out]
        go_wp2_with fail
        refine (HPL.out _).mono ?_
        rintro e w5 ⟨rfl,hb5⟩
        have HP5:=hid ((HP3.out.drewN n2).on hb5)
        clear hb5
        obtain ⟨hpl,ht,ht2⟩:=user_some hu
        rw [hpl]
        unfold plV
        have qe:(str usr).toList.isEmpty=false:=emp_no (fun q=>ht (str_inj q))
        have q64:¬(64:Int)<(str usr).size:=by show ¬(64:Int)<(usr.length:Nat);omega
        go_wp2
        go_meet
        exact ⟨rfl,rfl,HP5.out⟩
       .go_wp2_with fail
        go_meet
        exact ⟨rfl,rfl,HP3.out⟩
      case rest =>
       obtain ⟨rfl,rfl,hP⟩:=hcut
       obtain ⟨w7,hw7⟩:∃ w7,w7=wc:=⟨_,rfl⟩
       subst hw7
       have HP7:=hid hP
       clear hP hway HPL HCV2 HC2 hrl hub hua
       have HC3:Hid (∀ W,Calls Tryz.prog 70 #[.string (str R),.int .u8 63] W fun e w'=>e=.returned (cutV (str R) 63)/\∃ n,w'=W.drewN n):=hid (fun W=>rCut_any (str R) 63 W (by show R.length<=_;omega))
       have hcl:=cut_lens 63 R
       have HCV3:Hid (∀ p q f,cutT 63 R=(p,q,f)->cutV (str R) 63=.tuple #[.string (str p),.string (str q),.bool f]):=hid (fun p q f h=>cutV_is (s:=str R) h)
       rw [rest_is] at HX
       generalize cutT 63 R=t3 at *
       obtain ⟨fr,bk,ask⟩:=t3
       simp only at hcl HX
       have HCV3:=hid (HCV3.out fr bk ask rfl)
       have hfr:fr.length<=100000000:=by omega
       have hbk:bk.length<=100000000:=by omega
       have HSP:Hid (∀ W,Calls Tryz.prog 75 #[.string (str fr),.int .u8 59] W fun e w'=>∃ v,e=.returned v/\w'.ownsRow W.heap.size 9 1 v (splitT 59 fr).length ((splitT 59 fr).map SC1)/\Below W.heap.size W w'):=hid (fun W=>rSplit_any (str fr) 59 W (by show fr.length<=_;omega))
       have hL0:0<(splitT 59 fr).length:=List.length_pos_iff.2 (split_ne 59 _)
       have hsl:=split_lens 59 fr
       generalize splitT 59 fr=L at *
       rw [head_of hL0] at HX
       have h0l:L[0].length<=100000000:=by have:=hsl.2 _ (List.getElem_mem hL0);omega
       have hLl:L.length<=100000001:=by omega
       have HLT:Hid (∀ s∈L.tail,s.length<=1000000000):=hid (fun s h=>by have:=hsl.2 s (List.mem_of_mem_tail h);omega)
       have HWH:Hid (∀ W,Calls Tryz.prog 76 #[.string (str L[0])] W fun e w'=>e=.returned (whV (whereE L[0]))/\Below W.heap.size W w'):=hid (fun W=>rWhere_any (str L[0]) W (by show L[0].length<=_;omega))
       have hwl:=where_len L[0]
       generalize whereE L[0]=W0 at *
       obtain ⟨hst,prt,er⟩:=W0
       simp only at HX hwl
       have HRL:=hid (fun ps (h:readP params L.tail=some ps)=>read_len h)
       clear hcl hsl hfr hRl
       go_wp2_with fail
       refine (HC3.out _).mono ?_
       rintro e w8 ⟨rfl,n3,rfl⟩
       rw [HCV3.out]
       go_wp2_with fail
       refine (HSP.out _).mono ?_
       rintro e w9 ⟨vs,rfl,hown9,hb9⟩
       have HP9:=hid ((HP7.out.drewN n3).on hb9)
       obtain ⟨gg,cg,rfl⟩:=own_pos hown9 hL0
       obtain ⟨A9,c9,eA,hc9,hcm,hrd9⟩:=RdV.of_own hown9
       obtain ⟨rfl,rfl⟩:A9=some ⟨gg,0,none⟩/\c9=cg:=by injection eA with h1 h2 h3;exact ⟨h1.symm,h3.symm⟩
       have HRD9:=hid hrd9
       have hc0:w9.cell? ⟨gg,0,none⟩=some (.string (str L[0])):=by
        rw [World.ownsRow.cellAt hown9 0 (by simpa using hL0),List.getElem?_map,List.getElem?_eq_getElem hL0]
        rfl
       have y0:(0:Int)<L.length:=by omega
       have y1:(1:Int)<=L.length:=by omega
       clear hb9 hown9 eA hrd9
       go_wp2_with fail
       refine (HWH.out _).mono ?_
       rintro e w12 ⟨rfl,hb10⟩
       have HP12:=hid (HP9.out.on hb10)
       have HRD12:=hid (HRD9.out.below hb10)
       unfold whV
       clear hb10 hc0
       by_cases her:er=0
       .subst her
        simp only [ne_eq,not_true_eq_false,if_false] at HX
        go_upto_region 18 with (fail)
        go_cut [18,22,23] (fun sl vv b wx=>∃ vp,vp=vv/\b=.bool (readP params L.tail).isSome/\PSt w zeroU wx/\∀ ps,readP params L.tail=some ps->OwnP (g+2) wx vp ps)
        case first =>
         have hlt12:=HP12.out.lt
         rw [hg] at hlt12
         have HRD:Hid (∀ A,(A=some ⟨gg,1,none⟩\/L.length=1)->Calls Tryz.prog 77 #[.slice A (L.length-1) (c9-1),.string ⟨#[91,93,47,58,38,43,36]⟩] w12 (ReadPost params L.tail w12)):=hid (fun A hA=>by
          have q:=rparams_any (l:=L.tail) (keep:=⟨#[91,93,47,58,38,43,36]⟩) (c:=c9-1) (Nat.le_refl _) (tail_rdv (c:=c9) HRD12.out hL0 A (by simpa using hA)) (by simp;omega) HLT.out (by show 7<=_;omega)
          rw [List.length_tail] at q
          exact q)
         have hL1:c9=1\/c9≠1:=by omega
         have y2:(1:Int)<=c9:=by omega
         rcases hL1 with hL1|hL1
         .have HRD2:Hid (Calls Tryz.prog 77 #[.slice (some ⟨gg,0,none⟩) (L.length-1) 0,.string ⟨#[91,93,47,58,38,43,36]⟩] w12 (ReadPost params L.tail w12)):=hid (by have q:=HRD.out (some ⟨gg,0,none⟩) (.inr (by omega));rw [hL1] at q;exact q)
          go_wp2_with fail
          refine HRD2.out.mono ?_
          rintro e w13 ⟨v,rfl,hown,hb13⟩
          have HOWN:=hid hown
          have HB13:=hid hb13
          clear hown hb13
          cases hrd:readP params L.tail with
          | none =>
            unfold readV
            go_wp2
            go_meet
            exact ⟨.slice none 0 0,rfl,by rw [hrd];rfl,HP12.out.on HB13.out,fun ps q=>by rw [hrd] at q;cases q⟩
          | some ps =>
            have HRDD:=hid hrd
            have HV:Hid (OwnP (g+2) w13 v ps):=hid ⟨_,hlt12,HOWN.out ps hrd⟩
            clear hrd
            unfold readV
            go_wp2
            go_meet
            exact ⟨v,rfl,by rw [HRDD.out];rfl,HP12.out.on HB13.out,fun ps' q=>by rw [HRDD.out] at q;injection q with q;subst q;exact HV.out⟩
         .have HRD2:=hid (HRD.out (some ⟨gg,1,none⟩) (.inl rfl))
          go_wp2_with fail
          refine HRD2.out.mono ?_
          rintro e w13 ⟨v,rfl,hown,hb13⟩
          have HOWN:=hid hown
          have HB13:=hid hb13
          clear hown hb13
          cases hrd:readP params L.tail with
          | none =>
            unfold readV
            go_wp2
            go_meet
            exact ⟨.slice none 0 0,rfl,by rw [hrd];rfl,HP12.out.on HB13.out,fun ps q=>by rw [hrd] at q;cases q⟩
          | some ps =>
            have HRDD:=hid hrd
            have HV:Hid (OwnP (g+2) w13 v ps):=hid ⟨_,hlt12,HOWN.out ps hrd⟩
            clear hrd
            unfold readV
            go_wp2
            go_meet
            exact ⟨v,rfl,by rw [HRDD.out];rfl,HP12.out.on HB13.out,fun ps' q=>by rw [HRDD.out] at q;injection q with q;subst q;exact HV.out⟩
        case rest =>
         obtain ⟨vp,rfl,rfl,hP,hO⟩:=hcut
         obtain ⟨w14,hw14⟩:∃ w14,w14=wc:=⟨_,rfl⟩
         subst hw14
         have HP14:=hid hP
         have HO14:=hid hO
         clear hP hO
         have HSP2:Hid (∀ W,Calls Tryz.prog 75 #[.string (str bk),.int .u8 38] W fun e w'=>∃ v,e=.returned v/\w'.ownsRow W.heap.size 9 1 v (splitT 38 bk).length ((splitT 38 bk).map SC1)/\Below W.heap.size W w'):=hid (fun W=>rSplit_any (str bk) 38 W (by show bk.length<=_;omega))
         have hsl2:=split_lens 38 bk
         have HHO:Hid (hdrO (fr,bk,ask)=if ask then readP headers (splitT 38 bk) else some []):=hid rfl
         have HHL:Hid (∀ ph,hdrO (fr,bk,ask)=some ph->ph.length<=100000001/\∀ p∈ph,parS p):=hid (fun ph h=>hdr_len (by omega) h)
         generalize hdrO (fr,bk,ask)=HO at *
         generalize splitT 38 bk=M at *
         have hMl:M.length<=100000001:=by omega
         have HMT:Hid (∀ s∈M,s.length<=1000000000):=hid (fun s h=>by have:=hsl2.2 s h;omega)
         clear hsl2
         generalize readP params L.tail=RP at *
         go_upto_if 98 with (fail)
         go_cut [23,24] (fun b hv wx=>∃ vh,vh=hv/\b=.bool (RP.isSome&&HO.isSome)/\PSt w zeroU wx/\(∀ ps,RP=some ps->OwnP (g+2) wx vp ps)/\(∀ ps,HO=some ps->OwnP (g+2) wx vh ps))
         case first =>
          cases ask with
          | false =>
            have HHO:Hid (HO=some []):=hid HHO.out
            go_wp2
            go_meet
            exact ⟨.slice none 0 0,rfl,by rw [HHO.out];simp,HP14.out,HO14.out,fun ps q=>by rw [HHO.out] at q;injection q with q;subst q;exact OwnP.nil _ _⟩
          | true =>
            have HHO:Hid (HO=readP headers M):=hid HHO.out
            go_wp2_with fail
            refine (HSP2.out _).mono ?_
            rintro e w15 ⟨v2,rfl,hown,hb15⟩
            have HB15:=hid hb15
            obtain ⟨A2,c2,rfl,hc2,hcm2,hrd2⟩:=RdV.of_own hown
            have HRD:Hid (Calls Tryz.prog 77 #[.slice A2 M.length c2,.string ⟨#[91,93,47,63,58,43,36]⟩] w15 (ReadPost headers M w15)):=hid (rparams_any (l:=M) (keep:=⟨#[91,93,47,63,58,43,36]⟩) (c:=c2) (Nat.le_refl _) hrd2.rdb (by omega) HMT.out (by show 7<=_;omega))
            clear hown hb15 hrd2 hc2 hcm2
            go_wp2_with fail
            refine HRD.out.mono ?_
            rintro e w16 ⟨v,rfl,hown,hb16⟩
            have HOWN:=hid hown
            have HB16:=hid (HB15.out.trans (hb16.mono HB15.out.size))
            have hlt15:g+2<=w15.heap.size:=by have a:=HB15.out.size;have b:=HP14.out.lt;rw [hg] at b;omega
            have HP16:=hid (HP14.out.on HB16.out)
            have HO16:Hid (∀ ps,RP=some ps->OwnP (g+2) w16 vp ps):=hid (fun ps q=>(HO14.out ps q).on HB16.out)
            clear hown hb16
            cases hrd:readP headers M with
            | none =>
              have HRDD:=hid (HHO.out.trans hrd)
              clear hrd
              unfold readV
              cases RP with
              | none =>
                go_wp2
                go_meet
                exact ⟨.slice none 0 0,rfl,by rw [HRDD.out];rfl,HP16.out,HO16.out,fun ps q=>by rw [HRDD.out] at q;cases q⟩
              | some rp =>
                go_wp2
                go_meet
                exact ⟨.slice none 0 0,rfl,by rw [HRDD.out];rfl,HP16.out,HO16.out,fun ps q=>by rw [HRDD.out] at q;cases q⟩
            | some ps =>
              have HRDD:=hid (HHO.out.trans hrd)
              have HV:Hid (OwnP (g+2) w16 v ps):=hid ⟨_,hlt15,HOWN.out ps hrd⟩
              clear hrd
              unfold readV
              cases RP with
              | none =>
                go_wp2
                go_meet
                exact ⟨v,rfl,by rw [HRDD.out];rfl,HP16.out,HO16.out,fun ps' q=>by rw [HRDD.out] at q;injection q with q;subst q;exact HV.out⟩
              | some rp =>
                go_wp2
                go_meet
                exact ⟨v,rfl,by rw [HRDD.out];rfl,HP16.out,HO16.out,fun ps' q=>by rw [HRDD.out] at q;injection q with q;subst q;exact HV.out⟩
         case rest =>
          obtain ⟨vh,rfl,rfl,hP,hO,hO2⟩:=hcut
          obtain ⟨w17,hw17⟩:∃ w17,w17=wc:=⟨_,rfl⟩
          subst hw17
          have HP17:=hid hP
          have HO17:=hid hO
          have HH17:=hid hO2
          clear hP hO hO2
          cases RP with
          | none =>
            have HX:Hid (parseE s.data.toList=(noUri,34)):=hid (by rw [HX.out])
            have HZ:=hid (HP17.out.rz hg (.string ⟨#[]⟩) (.string ⟨#[]⟩) (.string ⟨#[]⟩) (.int .i64 0) (.slice none 0 0) (.slice none 0 0))
            obtain ⟨⟨e0,e1,e2,e3,e4,e5⟩,f0,f1,f2,f3,f4,f5⟩:=HP17.out.rc hg
            obtain ⟨d0,d1,d2,d3,d4,d5⟩:=HP17.out.uc hg
            go_wp2
            obtain ⟨⟨z0,z1,z2,z3,z4,z5⟩,hbz⟩:=HZ.out
            exact bodyPost_ret (v:=.tuple #[.agg #[.string ⟨#[]⟩,.string ⟨#[]⟩,.string ⟨#[]⟩,.int .i64 0,.slice none 0 0,.slice none 0 0],.int .i64 34]) (by simp [results,Tryz.results40,go_sem,z0,z1,z2,z3,z4,z5]) rfl (ParseP2.err HX.out hbz)
          | some ps =>
            cases HO with
            | none =>
              have HX:Hid (parseE s.data.toList=(noUri,34)):=hid (by rw [HX.out])
              have HZ:=hid (HP17.out.rz hg (.string ⟨#[]⟩) (.string ⟨#[]⟩) (.string ⟨#[]⟩) (.int .i64 0) (.slice none 0 0) (.slice none 0 0))
              obtain ⟨⟨e0,e1,e2,e3,e4,e5⟩,f0,f1,f2,f3,f4,f5⟩:=HP17.out.rc hg
              obtain ⟨d0,d1,d2,d3,d4,d5⟩:=HP17.out.uc hg
              go_wp2
              obtain ⟨⟨z0,z1,z2,z3,z4,z5⟩,hbz⟩:=HZ.out
              exact bodyPost_ret (v:=.tuple #[.agg #[.string ⟨#[]⟩,.string ⟨#[]⟩,.string ⟨#[]⟩,.int .i64 0,.slice none 0 0,.slice none 0 0],.int .i64 34]) (by simp [results,Tryz.results40,go_sem,z0,z1,z2,z3,z4,z5]) rfl (ParseP2.err HX.out hbz)
            | some ph =>
              have HX:Hid (parseE s.data.toList=finE ⟨low hd,usr,hst,prt,ps,ph⟩):=hid (by rw [HX.out])
              have hOp:=HO17.out ps rfl
              have hOh:=HH17.out ph rfl
              have HOp:=hid hOp
              have HOh:=hid hOh
              obtain ⟨Ap,cp,rfl,hrp⟩:=hOp.prm
              obtain ⟨Ah,ch,rfl,hrh⟩:=hOh.prm
              have hpl:=HRL.out ps rfl
              have hhl:=HHL.out ph rfl
              have hUS:UriS ⟨low hd,usr,hst,prt,ps,ph⟩:=⟨by show (low hd).length<=_;unfold low;rw [List.length_map];omega,by show usr.length<=_;omega,by show hst.length<=_;omega,by show _<=prt/\prt<=_;omega,by show ps.length<=_;have:=hpl.1;rw [List.length_tail] at this;omega,by show ph.length<=_;omega,fun p hp=>by
               obtain ⟨s,hs,h1,h2⟩:=hpl.2 p hp
               have:=HLT.out s hs
               exact ⟨by omega,by omega⟩,hhl.2⟩
              have HCK:Hid (∀ W,Below w17.heap.size w17 W->Calls Tryz.prog 78 #[.agg #[.string (str (low hd)),.string (str usr),.string (str hst),.int .i64 prt,.slice Ap ps.length cp,.slice Ah ph.length ch]] W (CheckPost ⟨low hd,usr,hst,prt,ps,ph⟩ W)):=hid (fun W hb=>rCheck_any (u:=⟨low hd,usr,hst,prt,ps,ph⟩) (Nat.le_refl _) (hOp.on hb).prm (hOh.on hb).prm hUS)
              have HAL:Hid (∀ o,Below w17.heap.size w17 (w17.alloc o)):=hid (fun o=>(Below.refl _ _).alloc (Nat.le_refl _) o)
              clear hOp hOh hrp hrh hUS hpl hhl
              go_wp2_with fail
              have hbk:=Blk.new w17 32 #[.string (str (low hd)),.string (str usr),.string (str hst),.int .i64 prt,.slice Ap ps.length cp,.slice Ah ph.length ch]
              have hal:=HAL.out (.cells #[.string (str (low hd)),.string (str usr),.string (str hst),.int .i64 prt,.slice Ap ps.length cp,.slice Ah ph.length ch] 32)
              obtain ⟨gu,hgu⟩:∃ gu,w17.heap.size=gu:=⟨_,rfl⟩
              have HGU:=hid hgu
              obtain ⟨wu,hwu⟩:∃ wu,w17.alloc (.cells #[.string (str (low hd)),.string (str usr),.string (str hst),.int .i64 prt,.slice Ap ps.length cp,.slice Ah ph.length ch] 32)=wu:=⟨_,rfl⟩
              rw [hwu] at hbk hal ⊢
              rw [hgu] at hbk ⊢
              have HBU:=hid hbk
              have HAL2:=hid hal
              have hszu:=hal.size
              clear hbk hal hwu HAL hgu
              refine (HCK.out wu HAL2.out).mono ?_
              rintro e w18 ⟨rfl,hb18⟩
              have HB18:Hid (Below w17.heap.size w17 w18):=hid (HAL2.out.trans (hb18.mono hszu))
              have hbu:=HBU.out.fr (Fr.of_below (F:=fun _=>False) hb18) (fun h=>h)
              have HBU18:=hid hbu
              have HP18:=hid (HP17.out.on HB18.out)
              have HO18:=hid (HOp.out.on HB18.out)
              have HH18:=hid (HOh.out.on HB18.out)
              have hgr:g<gu:=by have:=HP17.out.lt;rw [hg,HGU.out] at this;omega
              clear hb18 hbu
              by_cases hck:checkE ⟨low hd,usr,hst,prt,ps,ph⟩=0
              .have HX:=hid (HX.out.trans (if_pos hck))
               rw [hck]
               have d0:=HBU18.out.cell 0
               have d1:=HBU18.out.cell 1
               have d2:=HBU18.out.cell 2
               have d3:=HBU18.out.cell 3
               have d4:=HBU18.out.cell 4
               have d5:=HBU18.out.cell 5
               have HZ:=hid (HP18.out.rz hg (.string (str (low hd))) (.string (str usr)) (.string (str hst)) (.int .i64 prt) (.slice Ap ps.length cp) (.slice Ah ph.length ch))
               have HOF:=hid (HO18.out.six_ (g:=g) (by omega) (.string (str (low hd))) (.string (str usr)) (.string (str hst)) (.int .i64 prt) (.slice Ap ps.length cp) (.slice Ah ph.length ch))
               have HHF:=hid (HH18.out.six_ (g:=g) (by omega) (.string (str (low hd))) (.string (str usr)) (.string (str hst)) (.int .i64 prt) (.slice Ap ps.length cp) (.slice Ah ph.length ch))
               obtain ⟨⟨e0,e1,e2,e3,e4,e5⟩,f0,f1,f2,f3,f4,f5⟩:=HP18.out.rc hg
               clear hck
               go_wp2
               obtain ⟨⟨z0,z1,z2,z3,z4,z5⟩,hbz⟩:=HZ.out
               exact bodyPost_ret (v:=.tuple #[.agg #[.string (str (low hd)),.string (str usr),.string (str hst),.int .i64 prt,.slice Ap ps.length cp,.slice Ah ph.length ch],.int .i64 0]) (by simp [results,Tryz.results40,go_sem,z0,z1,z2,z3,z4,z5]) rfl (ParseP2.ok HX.out HOF.out HHF.out hbz)
              .have HX:=hid (HX.out.trans (if_neg hck))
               have HCK2:=hid (HCK.out w18.drew (HB18.out.drew))
               unfold CheckPost at HCK2
               generalize checkE ⟨low hd,usr,hst,prt,ps,ph⟩=ck at *
               have qck:(ck != 0)=true:=by simpa using hck
               have HSS:Hid (∀ W,Below w17.heap.size w17 W->Below w18.heap.size w18 W->True):=hid (fun _ _ _=>trivial)
               clear hck
               have d0:=HBU18.out.cell 0
               have d1:=HBU18.out.cell 1
               have d2:=HBU18.out.cell 2
               have d3:=HBU18.out.cell 3
               have d4:=HBU18.out.cell 4
               have d5:=HBU18.out.cell 5
               obtain ⟨c0,c1,c2',c3,c4,c5⟩:=HP18.out.uc hg
               go_wp2_with fail
               go_region_with ((go_at_call 78;(with_reducible refine HCK2.out.mono ?_);rintro e w19 ⟨rfl,hb19⟩;have HP19:=hid ((HP18.out.drewN 1).on hb19);have HZ:=hid (HP19.out.rz hg (.string ⟨#[]⟩) (.string ⟨#[]⟩) (.string ⟨#[]⟩) (.int .i64 0) (.slice none 0 0) (.slice none 0 0));obtain ⟨⟨e0,e1,e2,e3,e4,e5⟩,f0,f1,f2,f3,f4,f5⟩:=HP19.out.rc hg;obtain ⟨k0,k1,k2,k3,k4,k5⟩:=HP19.out.uc hg))
               all_goals
                go_wp2
                obtain ⟨⟨z0,z1,z2,z3,z4,z5⟩,hbz⟩:=HZ.out
                exact bodyPost_ret (v:=.tuple #[.agg #[.string ⟨#[]⟩,.string ⟨#[]⟩,.string ⟨#[]⟩,.int .i64 0,.slice none 0 0,.slice none 0 0],.int .i64 ck]) (by simp [results,Tryz.results40,go_sem,z0,z1,z2,z3,z4,z5]) rfl (ParseP2.err HX.out hbz)
       .have HX:=hid (HX.out.trans (if_pos her))
        have qer:(er != 0)=true:=by simpa using her
        clear her
        have HZ:=hid (HP12.out.rz hg (.string ⟨#[]⟩) (.string ⟨#[]⟩) (.string ⟨#[]⟩) (.int .i64 0) (.slice none 0 0) (.slice none 0 0))
        obtain ⟨⟨e0,e1,e2,e3,e4,e5⟩,f0,f1,f2,f3,f4,f5⟩:=HP12.out.rc hg
        obtain ⟨d0,d1,d2,d3,d4,d5⟩:=HP12.out.uc hg
        go_wp2
        obtain ⟨⟨z0,z1,z2,z3,z4,z5⟩,hbz⟩:=HZ.out
        exact bodyPost_ret (v:=.tuple #[.agg #[.string ⟨#[]⟩,.string ⟨#[]⟩,.string ⟨#[]⟩,.int .i64 0,.slice none 0 0,.slice none 0 0],.int .i64 er]) (by simp [results,Tryz.results40,go_sem,z0,z1,z2,z3,z4,z5]) rfl (ParseP2.err HX.out hbz)
end Go.Proofs.YthkadehlclcggaaGreatDoor
