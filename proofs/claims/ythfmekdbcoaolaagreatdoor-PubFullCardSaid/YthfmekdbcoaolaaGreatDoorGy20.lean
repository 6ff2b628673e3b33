/- Chapter 3: uri.Parse. -/
import Derived.Test.YthfmekdbcoaolaaGreatDoorGy19
import Derived.Deep.DeepCutAuto
import Derived.Deep.CutBlock
namespace Go.Proofs.YthfmekdbcoaolaaGreatDoor
set_option linter.unusedSimpArgs false
set_option linter.unusedVariables false
open Go.RowKit
open Go.Lib (hid)
theorem user_some {l t:T} (h:userO l=some t):plainT users l=some t/\t≠[]/\¬64<t.length:=by
 unfold userO at h
 cases hp:plainT users l with
 | none=>rw [hp] at h;cases h
 | some x =>
   rw [hp] at h
   simp only at h
   split at h
   .cases h
   .rename_i hn
    injection h with h
    subst h
    exact ⟨rfl,fun q=>hn (.inl q),fun q=>hn (.inr q)⟩
theorem user_some_len {l t:T} (h:userO l=some t):t.length<=64:=by have:=(user_some h).2.2;omega
theorem cutV_is {s:ByteArray} {c:UInt8} {p q:T} {f:Bool} (h:cutT c s.data.toList=(p,q,f)):cutV s c=.tuple #[.string (str p),.string (str q),.bool f]:=by unfold cutV;rw [h]
set_option maxRecDepth 100000 in
set_option maxHeartbeats 8000000 in
theorem Parse_any (s:ByteArray) (w:World) (hs:s.size<=100000000):Calls Tryz.prog 94 #[.string s] w (ParsePost (parseE s.data.toList) w):=by
 have hl:s.data.toList.length=s.size:=by simp
 have HP0:=hid (PSt.start w)
 obtain ⟨g,hg⟩:∃ g,w.heap.size=g:=⟨_,rfl⟩
 have HG:=hid hg
 obtain ⟨w0,hw0⟩:∃ w0,(w.alloc (.cells #[.string ⟨#[]⟩,.string ⟨#[]⟩,.string ⟨#[]⟩,.int .i64 0,.slice none 0 0,.slice none 0 0] 155)).alloc (.cells #[.string ⟨#[]⟩,.string ⟨#[]⟩,.string ⟨#[]⟩,.int .i64 0,.slice none 0 0,.slice none 0 0] 155)=w0:=⟨_,rfl⟩
 have HP0:Hid (PSt w zeroU w0):=hid (by have q:=HP0.out;unfold zeroU at q;rw [hw0] at q;exact q)
 have hcl:=cut_lens 58 s.data.toList
 have HC1:Hid (∀ W,Calls Tryz.prog 121 #[.string s,.string ⟨#[58]⟩] W fun e w'=>e=.returned (cutV s 58)/\∃ n,w'=W.drewN n):=hid (fun W=>Cut_any s 58 W (by omega))
 have HNO:=hid (fun q=>parse_no (s:=s.data.toList) q)
 have HYES:=hid (fun q1 q2=>parse_yes (s:=s.data.toList) q1 q2)
 have HCV:Hid (∀ p q f,cutT 58 s.data.toList=(p,q,f)->cutV s 58=.tuple #[.string (str p),.string (str q),.bool f]):=hid (fun p q f h=>cutV_is h)
 generalize cutT 58 s.data.toList=t at *
 obtain ⟨hd,rest,ok⟩:=t
 simp only at hcl HNO HYES
 have HCV:=hid (HCV.out hd rest ok rfl)
 have HLOW:Hid (lowS (str hd)=str (low hd)):=hid rfl
 have hhd:hd.length<=100000000:=by omega
 have hrl:rest.length<=100000000:=by omega
 have HSC:Hid (schemeB (str (low hd)).data.toList=schemeB (low hd)):=hid rfl
 have f0:=HP0.out.u.frozen 0
 have hsz0:=HP0.out.lt
 rw [hg] at f0
 clear hcl hl
 go_enter Tryz.func94,Tryz.ntmps94
 go_wp2_with fail
 refine (HC1.out _).mono ?_
 rintro e w1 ⟨rfl,n1,rfl⟩
 rw [HCV.out]
 go_wp2_with fail
 refine (Lower_any (str hd) _ (by show hd.length<=_;omega)).mono ?_
 rintro e w2 ⟨rfl,hb2⟩
 rw [HLOW.out]
 have HP2:=hid ((HP0.out.drewN n1).on hb2)
 have q0:=HP2.out.u.cell 0
 have q0f:=HP2.out.u.frozen 0
 rw [hg] at q0 q0f
 have HP3:=hid (HP2.out.set 0 (.string (str (low hd))))
 rw [hg] at HP3
 obtain ⟨w3,hw3⟩:∃ w3,w2.setCell ⟨g+1,0,none⟩ (.string (str (low hd)))=w3:=⟨_,rfl⟩
 rw [hw3] at HP3
 have HP3:Hid (PSt w #[.string (str (low hd)),.string ⟨#[]⟩,.string ⟨#[]⟩,.int .i64 0,.slice none 0 0,.slice none 0 0] w3):=HP3
 have d0:=HP3.out.u.cell 0
 rw [hg] at d0
 clear hb2 f0
 cases ok with
 | false =>
   have HX:=hid (HNO.out (.inl rfl))
   have HZ:=hid (HP3.out.rz hg (.string ⟨#[]⟩) (.string ⟨#[]⟩) (.string ⟨#[]⟩) (.int .i64 0) (.slice none 0 0) (.slice none 0 0))
   obtain ⟨⟨e0,e1,e2,e3,e4,e5⟩,f0,f1,f2,f3,f4,f5⟩:=HP3.out.rc hg
   go_wp2
   obtain ⟨⟨z0,z1,z2,z3,z4,z5⟩,hbz⟩:=HZ.out
   exact bodyPost_ret (v:=.tuple #[.agg #[.string ⟨#[]⟩,.string ⟨#[]⟩,.string ⟨#[]⟩,.int .i64 0,.slice none 0 0,.slice none 0 0],.int .i64 30]) (by simp [results,Tryz.results94,go_sem,z0,z1,z2,z3,z4,z5]) rfl (ParsePost.err HX.out hbz)
 | true =>
   cases hsch:schemeB (low hd) with
   | false =>
     have HX:=hid (HNO.out (.inr hsch))
     rw [hsch] at HSC
     clear hsch
     have HZ:=hid (HP3.out.rz hg (.string ⟨#[]⟩) (.string ⟨#[]⟩) (.string ⟨#[]⟩) (.int .i64 0) (.slice none 0 0) (.slice none 0 0))
     obtain ⟨⟨e0,e1,e2,e3,e4,e5⟩,f0,f1,f2,f3,f4,f5⟩:=HP3.out.rc hg
     go_wp2_with fail
     refine (Scheme_any _ w3).mono ?_
     rintro e w' ⟨rfl,hw⟩
     subst hw
     rw [HSC.out]
     go_wp2
     obtain ⟨⟨z0,z1,z2,z3,z4,z5⟩,hbz⟩:=HZ.out
     exact bodyPost_ret (v:=.tuple #[.agg #[.string ⟨#[]⟩,.string ⟨#[]⟩,.string ⟨#[]⟩,.int .i64 0,.slice none 0 0,.slice none 0 0],.int .i64 30]) (by simp [results,Tryz.results94,go_sem,z0,z1,z2,z3,z4,z5]) rfl (ParsePost.err HX.out hbz)
   | true =>
     rw [hsch] at HSC
     have HU:=hid (HYES.out rfl hsch)
     clear hsch
     have HC2:Hid (∀ W,Calls Tryz.prog 121 #[.string (str rest),.string ⟨#[64]⟩] W fun e w'=>e=.returned (cutV (str rest) 64)/\∃ n,w'=W.drewN n):=hid (fun W=>Cut_any (str rest) 64 W (by show rest.length<=_;omega))
     have hcl:=cut_lens 64 rest
     have HCV2:Hid (∀ p q f,cutT 64 rest=(p,q,f)->cutV (str rest) 64=.tuple #[.string (str p),.string (str q),.bool f]):=hid (fun p q f h=>cutV_is (s:=str rest) h)
     unfold userR at HU
     generalize cutT 64 rest=t2 at *
     obtain ⟨ua,ub,is⟩:=t2
     simp only at hcl HU
     have HCV2:=hid (HCV2.out ua ub is rfl)
     have hua:ua.length<=100000000:=by omega
     have hub:ub.length<=100000000:=by omega
     have HPL:Hid (∀ W,Calls Tryz.prog 124 #[.string (str ua),.string ⟨#[38,61,43,36,44,59,63,47]⟩] W fun e w'=>e=.returned (plV (plainT users ua))/\Below W.heap.size W w'):=hid (fun W=>plain_any (str ua) ⟨#[38,61,43,36,44,59,63,47]⟩ W (by show ua.length<=_;omega) (by show 8<=_;omega))
     clear hcl
     have hcases:(is=true/\userO ua=none)\/∃ usr R,R.length<=100000000/\usr.length<=64/\(if is=true then (userO ua).map (·,ub) else some ([],rest))=some (usr,R)/\((is=true/\userO ua=some usr/\R=ub)\/(is=false/\usr=[]/\R=rest)):=by
      cases is with
      | false=>exact .inr ⟨[],rest,hrl,by simp,by simp,.inr ⟨rfl,rfl,rfl⟩⟩
      | true =>
        cases hu:userO ua with
        | none=>exact .inl ⟨rfl,rfl⟩
        | some usr=>exact .inr ⟨usr,ub,hub,user_some_len hu,by simp,.inl ⟨rfl,rfl,rfl⟩⟩
     rcases hcases with ⟨rfl,hu⟩|⟨usr,R,hRl,hul,hR,hway⟩
     .have HX:Hid (parseE s.data.toList=(noUri,31)):=hid (by rw [HU.out,hu];rfl)
      clear HU
      go_wp2_with fail
      refine (Scheme_any _ w3).mono ?_
      rintro e w' ⟨rfl,hw⟩
      subst hw
      rw [HSC.out]
      go_wp2_with fail
      refine (HC2.out _).mono ?_
      rintro e w4 ⟨rfl,n2,rfl⟩
      rw [HCV2.out]
      go_wp2_with fail
      refine (HPL.out _).mono ?_
      rintro e w5 ⟨rfl,hb5⟩
      have HP5:=hid ((HP3.out.drewN n2).on hb5)
      clear hb5
      have q1:=HP5.out.u.cell 1
      have q1f:=HP5.out.u.frozen 1
      rw [hg] at q1 q1f
      cases hpl:plainT users ua with
      | none =>
        have HP6:=hid (HP5.out.set 1 (.string ⟨#[]⟩))
        rw [hg] at HP6
        obtain ⟨w6,hw6⟩:∃ w6,w5.setCell ⟨g+1,1,none⟩ (.string ⟨#[]⟩)=w6:=⟨_,rfl⟩
        rw [hw6] at HP6
        unfold plV
        have d1:=HP6.out.u.cell 1
        rw [hg] at d1
        have HZ:=hid (HP6.out.rz hg (.string ⟨#[]⟩) (.string ⟨#[]⟩) (.string ⟨#[]⟩) (.int .i64 0) (.slice none 0 0) (.slice none 0 0))
        obtain ⟨⟨e0,e1,e2,e3,e4,e5⟩,f0,f1,f2,f3,f4,f5⟩:=HP6.out.rc hg
        go_wp2
        obtain ⟨⟨z0,z1,z2,z3,z4,z5⟩,hbz⟩:=HZ.out
        exact bodyPost_ret (v:=.tuple #[.agg #[.string ⟨#[]⟩,.string ⟨#[]⟩,.string ⟨#[]⟩,.int .i64 0,.slice none 0 0,.slice none 0 0],.int .i64 31]) (by simp [results,Tryz.results94,go_sem,z0,z1,z2,z3,z4,z5]) rfl (ParsePost.err HX.out hbz)
      | some t =>
        have HP6:=hid (HP5.out.set 1 (.string (str t)))
        rw [hg] at HP6
        obtain ⟨w6,hw6⟩:∃ w6,w5.setCell ⟨g+1,1,none⟩ (.string (str t))=w6:=⟨_,rfl⟩
        rw [hw6] at HP6
        unfold plV
        have d1:=HP6.out.u.cell 1
        rw [hg] at d1
        by_cases ht:t=[]
        .subst ht
         have qe:(str []).toList.isEmpty=true:=by rw [Lib.toList_data];rfl
         have HZ:=hid (HP6.out.rz hg (.string ⟨#[]⟩) (.string ⟨#[]⟩) (.string ⟨#[]⟩) (.int .i64 0) (.slice none 0 0) (.slice none 0 0))
         obtain ⟨⟨e0,e1,e2,e3,e4,e5⟩,f0,f1,f2,f3,f4,f5⟩:=HP6.out.rc hg
         go_wp2
         obtain ⟨⟨z0,z1,z2,z3,z4,z5⟩,hbz⟩:=HZ.out
         exact bodyPost_ret (v:=.tuple #[.agg #[.string ⟨#[]⟩,.string ⟨#[]⟩,.string ⟨#[]⟩,.int .i64 0,.slice none 0 0,.slice none 0 0],.int .i64 31]) (by simp [results,Tryz.results94,go_sem,z0,z1,z2,z3,z4,z5]) rfl (ParsePost.err HX.out hbz)
        .by_cases ht2:64<t.length
         .have qe:(str t).toList.isEmpty=false:=emp_no (fun q=>ht (str_inj q))
          have q64:(64:Int)<(str t).size:=by show (64:Int)<(t.length:Nat);omega
          have HZ:=hid (HP6.out.rz hg (.string ⟨#[]⟩) (.string ⟨#[]⟩) (.string ⟨#[]⟩) (.int .i64 0) (.slice none 0 0) (.slice none 0 0))
          obtain ⟨⟨e0,e1,e2,e3,e4,e5⟩,f0,f1,f2,f3,f4,f5⟩:=HP6.out.rc hg
          go_wp2
          obtain ⟨⟨z0,z1,z2,z3,z4,z5⟩,hbz⟩:=HZ.out
          exact bodyPost_ret (v:=.tuple #[.agg #[.string ⟨#[]⟩,.string ⟨#[]⟩,.string ⟨#[]⟩,.int .i64 0,.slice none 0 0,.slice none 0 0],.int .i64 31]) (by simp [results,Tryz.results94,go_sem,z0,z1,z2,z3,z4,z5]) rfl (ParsePost.err HX.out hbz)
         .exfalso
          rw [user_good hpl ht ht2] at hu
          cases hu
     .have HX:Hid (parseE s.data.toList=restE (low hd) usr R):=hid (by rw [HU.out,hR])
      clear HU hR
      go_wp2_with fail
      refine (Scheme_any _ w3).mono ?_
      rintro e w' ⟨rfl,hw⟩
      subst hw
      rw [HSC.out]
      go_wp2_with fail
      refine (HC2.out _).mono ?_
      rintro e w4 ⟨rfl,n2,rfl⟩
      rw [HCV2.out]
      have HP4:=hid (HP3.out.drewN n2)
      go_upto_if 42 with (fail)
      go_cut [6] (fun r wx=>r=.string (str R)/\PSt w #[.string (str (low hd)),.string (str usr),.string ⟨#[]⟩,.int .i64 0,.slice none 0 0,.slice none 0 0] wx)
      case first =>
       rcases hway with ⟨rfl,hu,rfl⟩|⟨rfl,rfl,rfl⟩
       .go_wp2_with fail
        refine (HPL.out _).mono ?_
        rintro e w5 ⟨rfl,hb5⟩
        have HP5:=hid (HP4.out.on hb5)
        clear hb5
        have q1:=HP5.out.u.cell 1
        have q1f:=HP5.out.u.frozen 1
        rw [hg] at q1 q1f
        obtain ⟨hpl,ht,ht2⟩:=user_some hu
        rw [hpl]
        have HP6:=hid (HP5.out.set 1 (.string (str usr)))
        rw [hg] at HP6
        obtain ⟨w6,hw6⟩:∃ w6,w5.setCell ⟨g+1,1,none⟩ (.string (str usr))=w6:=⟨_,rfl⟩
        rw [hw6] at HP6
        unfold plV
        have d1:=HP6.out.u.cell 1
        rw [hg] at d1
        have qe:(str usr).toList.isEmpty=false:=emp_no (fun q=>ht (str_inj q))
        have q64:¬(64:Int)<(str usr).size:=by show ¬(64:Int)<(usr.length:Nat);omega
        go_wp2
        go_meet
        exact ⟨rfl,HP6.out⟩
       .go_wp2_with fail
        go_meet
        exact ⟨rfl,HP4.out⟩
      case rest =>
       obtain ⟨rfl,hP⟩:=hcut
       obtain ⟨w7,hw7⟩:∃ w7,w7=wc:=⟨_,rfl⟩
       subst hw7
       have HP7:=hid hP
       clear hP hway d0 q0 q0f HPL HCV2 HC2 HP4 hrl hub hua
       have HC3:Hid (∀ W,Calls Tryz.prog 121 #[.string (str R),.string ⟨#[63]⟩] W fun e w'=>e=.returned (cutV (str R) 63)/\∃ n,w'=W.drewN n):=hid (fun W=>Cut_any (str R) 63 W (by show R.length<=_;omega))
       have hcl:=cut_lens 63 R
       have HCV3:Hid (∀ p q f,cutT 63 R=(p,q,f)->cutV (str R) 63=.tuple #[.string (str p),.string (str q),.bool f]):=hid (fun p q f h=>cutV_is (s:=str R) h)
       rw [rest_is] at HX
       generalize cutT 63 R=t3 at *
       obtain ⟨fr,bk,ask⟩:=t3
       simp only at hcl HX
       have HCV3:=hid (HCV3.out fr bk ask rfl)
       have hfr:fr.length<=100000000:=by omega
       have hbk:bk.length<=100000000:=by omega
       have HSP:Hid (∀ W,Calls Tryz.prog 125 #[.string (str fr),.string ⟨#[59]⟩] W fun e w'=>∃ gg,e=.returned (.slice (some ⟨gg,0,none⟩) (splitT 59 fr).length (splitT 59 fr).length)/\W.heap.size<=gg/\Blk w' gg 9 ((splitT 59 fr).map SC1).toArray/\Below W.heap.size W w'):=hid (fun W=>Split_any (str fr) 59 W (by show fr.length<=_;omega))
       have hL0:0<(splitT 59 fr).length:=List.length_pos_iff.2 (split_ne 59 _)
       have hsl:=split_lens 59 fr
       generalize splitT 59 fr=L at *
       rw [head_of hL0] at HX
       have h0l:L[0].length<=100000000:=by have:=hsl.2 _ (List.getElem_mem hL0);omega
       have hLl:L.length<=100000001:=by omega
       have HLT:Hid (∀ s∈L.tail,s.length<=1000000000):=hid (fun s h=>by have:=hsl.2 s (List.mem_of_mem_tail h);omega)
       have HWH:Hid (∀ W,Calls Tryz.prog 126 #[.string (str L[0])] W fun e w'=>e=.returned (whV (whereE L[0]))/\Below W.heap.size W w'):=hid (fun W=>where_any (str L[0]) W (by show L[0].length<=_;omega))
       have hwl:=where_len L[0]
       generalize whereE L[0]=W0 at *
       obtain ⟨hst,prt,er⟩:=W0
       simp only at HX hwl
       have HRL:=hid (fun ps (h:readP params L.tail=some ps)=>read_len h)
       clear hcl hsl hfr hRl
       go_wp2_with fail
       refine (HC3.out _).mono ?_
       rintro e w8 ⟨rfl,n3,rfl⟩
       rw [HCV3.out]
       go_wp2_with fail
       refine (HSP.out _).mono ?_
       rintro e w9 ⟨gg,rfl,hgg,hblk,hb9⟩
       have HP9:=hid ((HP7.out.drewN n3).on hb9)
       have HBK9:=hid hblk
       have hgg2:g+2<=gg:=by have:=HP7.out.lt;rw [hg] at this;exact Nat.le_trans this hgg
       have hc0:w9.cell? ⟨gg,0,none⟩=some (.string (str L[0])):=by
        rw [hblk.cell,List.getElem?_toArray,List.getElem?_map,List.getElem?_eq_getElem hL0]
        rfl
       have y0:(0:Int)<L.length:=by omega
       have y1:(1:Int)<=L.length:=by omega
       clear hb9 hgg hblk
       go_wp2_with fail
       refine (HWH.out _).mono ?_
       rintro e w10 ⟨rfl,hb10⟩
       have HP10:=hid (HP9.out.on hb10)
       have HBK10:=hid (HBK9.out.fr (Fr.of_below (F:=fun _=>False) hb10) (fun h=>h))
       unfold whV
       have q2:=HP10.out.u.cell 2
       have q2f:=HP10.out.u.frozen 2
       rw [hg] at q2 q2f
       clear hb10 hc0
       have HP11:=hid (HP10.out.set 2 (.string (str hst)))
       rw [hg] at HP11
       obtain ⟨w11,hw11⟩:∃ w11,w10.setCell ⟨g+1,2,none⟩ (.string (str hst))=w11:=⟨_,rfl⟩
       rw [hw11] at HP11
       have q3:=HP11.out.u.cell 3
       have q3f:=HP11.out.u.frozen 3
       rw [hg] at q3 q3f
       have HP12:=hid (HP11.out.set 3 (.int .i64 prt))
       rw [hg] at HP12
       obtain ⟨w12,hw12⟩:∃ w12,w11.setCell ⟨g+1,3,none⟩ (.int .i64 prt)=w12:=⟨_,rfl⟩
       rw [hw12] at HP12
       have HBK12:Hid (Blk w12 gg 9 (L.map SC1).toArray):=hid (by
        rw [<-hw12,<-hw11]
        exact (HBK10.out.far (p:=⟨g+1,2,none⟩) (by show gg≠g+1;omega) _).far (p:=⟨g+1,3,none⟩) (by show gg≠g+1;omega) _)
       have HP12:Hid (PSt w #[.string (str (low hd)),.string (str usr),.string (str hst),.int .i64 prt,.slice none 0 0,.slice none 0 0] w12):=HP12
       by_cases her:er=0
       .subst her
        simp only [ne_eq,not_true_eq_false,if_false] at HX
        go_upto_region 19 with (fail)
        clear q2 q2f q3 q3f
        go_cut [13,15] (fun sl b wx=>∃ vp,b=.bool (readP params L.tail).isSome/\PSt w #[.string (str (low hd)),.string (str usr),.string (str hst),.int .i64 prt,vp,.slice none 0 0] wx/\∀ ps,readP params L.tail=some ps->OwnP (g+2) wx vp ps)
        case first =>
         have HRD:Hid (∀ A,(A=some ⟨gg,1,none⟩\/L.length=1)->Calls Tryz.prog 127 #[.slice A (L.length-1) (L.length-1),.string ⟨#[91,93,47,58,38,43,36]⟩] w12 (ReadPost params L.tail w12)):=hid (fun A hA=>by
          have q:=read_any (l:=L.tail) (keep:=⟨#[91,93,47,58,38,43,36]⟩) (c:=L.length-1) (Nat.le_refl _) (tail_rd HBK12.out hL0 A hA) (by simp;omega) HLT.out (by show 7<=_;omega)
          rw [List.length_tail] at q
          exact q)
         have q4:=HP12.out.u.cell 4
         rw [hg] at q4
         have hlt12:=HP12.out.lt
         rw [hg] at hlt12
         have hfin:Hid (∀ w13 vv,Below w12.heap.size w12 w13->PSt w #[.string (str (low hd)),.string (str usr),.string (str hst),.int .i64 prt,vv,.slice none 0 0] (w13.setCell ⟨g+1,4,none⟩ vv)):=hid (fun w13 vv hb=>by have q:=(HP12.out.on hb).set 4 vv;rw [hg] at q;exact q)
         have hq4:Hid (∀ w13,Below w12.heap.size w12 w13->w13.cell? ⟨g+1,4,none⟩=some (.slice none 0 0)/\w13.frozen? ⟨g+1,4,none⟩=false):=hid (fun w13 hb=>by have q:=(HP12.out.on hb).u;rw [hg] at q;exact ⟨q.cell 4,q.frozen 4⟩)
         have hL1:L.length=1\/L.length≠1:=by omega
         rcases hL1 with hL1|hL1
         .have HRD2:Hid (Calls Tryz.prog 127 #[.slice (some ⟨gg,0,none⟩) 0 0,.string ⟨#[91,93,47,58,38,43,36]⟩] w12 (ReadPost params L.tail w12)):=hid (by have q:=HRD.out (some ⟨gg,0,none⟩) (.inr hL1);rw [hL1] at q;exact q)
          go_wp2_with fail
          refine HRD2.out.mono ?_
          rintro e w13 ⟨v,rfl,hown,hb13⟩
          have HOWN:=hid hown
          have HB13:=hid hb13
          obtain ⟨q4,q4f⟩:=hq4.out w13 hb13
          clear hown hb13
          cases hrd:readP params L.tail with
          | none =>
            unfold readV
            go_wp2
            go_meet
            exact ⟨.slice none 0 0,by rw [hrd];rfl,hfin.out w13 _ HB13.out,fun ps q=>by rw [hrd] at q;cases q⟩
          | some ps =>
            obtain ⟨A13,c13,rfl,_,_,_⟩:=RdV.of_own (HOWN.out ps hrd)
            have HRDD:=hid hrd
            have hv:OwnP (g+2) w13 (.slice A13 ps.length c13) ps:=⟨_,hlt12,HOWN.out ps hrd⟩
            have HV:=hid (hv.set (g:=g+1) (i:=4) (by omega) (.slice A13 ps.length c13))
            clear hv hrd
            unfold readV
            go_wp2
            go_meet
            exact ⟨_,by rw [HRDD.out];rfl,hfin.out w13 _ HB13.out,fun ps' q=>by rw [HRDD.out] at q;injection q with q;subst q;exact HV.out⟩
         .have HRD2:=hid (HRD.out (some ⟨gg,1,none⟩) (.inl rfl))
          go_wp2_with fail
          refine HRD2.out.mono ?_
          rintro e w13 ⟨v,rfl,hown,hb13⟩
          have HOWN:=hid hown
          have HB13:=hid hb13
          obtain ⟨q4,q4f⟩:=hq4.out w13 hb13
          clear hown hb13
          cases hrd:readP params L.tail with
          | none =>
            unfold readV
            go_wp2
            go_meet
            exact ⟨.slice none 0 0,by rw [hrd];rfl,hfin.out w13 _ HB13.out,fun ps q=>by rw [hrd] at q;cases q⟩
          | some ps =>
            obtain ⟨A13,c13,rfl,_,_,_⟩:=RdV.of_own (HOWN.out ps hrd)
            have HRDD:=hid hrd
            have hv:OwnP (g+2) w13 (.slice A13 ps.length c13) ps:=⟨_,hlt12,HOWN.out ps hrd⟩
            have HV:=hid (hv.set (g:=g+1) (i:=4) (by omega) (.slice A13 ps.length c13))
            clear hv hrd
            unfold readV
            go_wp2
            go_meet
            exact ⟨_,by rw [HRDD.out];rfl,hfin.out w13 _ HB13.out,fun ps' q=>by rw [HRDD.out] at q;injection q with q;subst q;exact HV.out⟩
        case rest =>
         obtain ⟨vp,rfl,hP,hO⟩:=hcut
         obtain ⟨w14,hw14⟩:∃ w14,w14=wc:=⟨_,rfl⟩
         subst hw14
         have HP14:=hid hP
         have HO14:=hid hO
         clear hP hO
         have HSP2:Hid (∀ W,Calls Tryz.prog 125 #[.string (str bk),.string ⟨#[38]⟩] W fun e w'=>∃ gg,e=.returned (.slice (some ⟨gg,0,none⟩) (splitT 38 bk).length (splitT 38 bk).length)/\W.heap.size<=gg/\Blk w' gg 9 ((splitT 38 bk).map SC1).toArray/\Below W.heap.size W w'):=hid (fun W=>Split_any (str bk) 38 W (by show bk.length<=_;omega))
         have hsl2:=split_lens 38 bk
         have HHO:Hid (hdrO (fr,bk,ask)=if ask then readP headers (splitT 38 bk) else some []):=hid rfl
         have HHL:Hid (∀ ph,hdrO (fr,bk,ask)=some ph->ph.length<=100000001/\∀ p∈ph,parS p):=hid (fun ph h=>hdr_len (by omega) h)
         generalize hdrO (fr,bk,ask)=HO at *
         generalize splitT 38 bk=M at *
         have hMl:M.length<=100000001:=by omega
         have HMT:Hid (∀ s∈M,s.length<=1000000000):=hid (fun s h=>by have:=hsl2.2 s h;omega)
         clear hsl2
         go_upto_if 93 with (fail)
         go_cut [16] (fun b wx=>∃ vh,b=.bool HO.isSome/\PSt w #[.string (str (low hd)),.string (str usr),.string (str hst),.int .i64 prt,vp,vh] wx/\(∀ ps,readP params L.tail=some ps->OwnP (g+2) wx vp ps)/\(∀ ps,HO=some ps->OwnP (g+2) wx vh ps))
         case first =>
          cases ask with
          | false =>
            have HHO:Hid (HO=some []):=hid HHO.out
            go_wp2
            go_meet
            exact ⟨.slice none 0 0,by rw [HHO.out];rfl,HP14.out,HO14.out,fun ps q=>by rw [HHO.out] at q;injection q with q;subst q;exact OwnP.nil _ _⟩
          | true =>
            have HHO:Hid (HO=readP headers M):=hid HHO.out
            go_wp2_with fail
            refine (HSP2.out _).mono ?_
            rintro e w15 ⟨g2,rfl,hg2,hblk,hb15⟩
            have HB15:=hid hb15
            have HRD:Hid (Calls Tryz.prog 127 #[.slice (some ⟨g2,0,none⟩) M.length M.length,.string ⟨#[91,93,47,63,58,43,36]⟩] w15 (ReadPost headers M w15)):=hid (read_any (l:=M) (keep:=⟨#[91,93,47,63,58,43,36]⟩) (c:=M.length) (Nat.le_refl _) (row_rd hblk) (by omega) HMT.out (by show 7<=_;omega))
            clear hblk hb15 hg2
            go_wp2_with fail
            refine HRD.out.mono ?_
            rintro e w16 ⟨v,rfl,hown,hb16⟩
            have HOWN:=hid hown
            have HB16:=hid (HB15.out.trans (hb16.mono HB15.out.size))
            have hlt15:g+2<=w15.heap.size:=by have a:=HB15.out.size;have b:=HP14.out.lt;rw [hg] at b;omega
            have HP16:=hid (HP14.out.on HB16.out)
            have q5:=HP16.out.u.cell 5
            have q5f:=HP16.out.u.frozen 5
            rw [hg] at q5 q5f
            have HS16:Hid (∀ vv,PSt w #[.string (str (low hd)),.string (str usr),.string (str hst),.int .i64 prt,vp,vv] (w16.setCell ⟨g+1,5,none⟩ vv)):=hid (fun vv=>by have q:=HP16.out.set 5 vv;rw [hg] at q;exact q)
            have HO16:Hid (∀ vv ps,readP params L.tail=some ps->OwnP (g+2) (w16.setCell ⟨g+1,5,none⟩ vv) vp ps):=hid (fun vv ps q=>((HO14.out ps q).on HB16.out).set (by omega) _)
            clear hown hb16
            cases hrd:readP headers M with
            | none =>
              have HRDD:=hid (HHO.out.trans hrd)
              clear hrd
              unfold readV
              go_wp2
              go_meet
              exact ⟨.slice none 0 0,by rw [HRDD.out];rfl,HS16.out _,HO16.out _,fun ps q=>by rw [HRDD.out] at q;cases q⟩
            | some ps =>
              obtain ⟨A16,c16,rfl,_,_,_⟩:=RdV.of_own (HOWN.out ps hrd)
              have HRDD:=hid (HHO.out.trans hrd)
              have hv:OwnP (g+2) w16 (.slice A16 ps.length c16) ps:=⟨_,hlt15,HOWN.out ps hrd⟩
              have HV:=hid (hv.set (g:=g+1) (i:=5) (by omega) (.slice A16 ps.length c16))
              clear hv hrd
              unfold readV
              go_wp2
              go_meet
              exact ⟨_,by rw [HRDD.out];rfl,HS16.out _,HO16.out _,fun ps' q=>by rw [HRDD.out] at q;injection q with q;subst q;exact HV.out⟩
         case rest =>
          obtain ⟨vh,rfl,hP,hO,hO2⟩:=hcut
          obtain ⟨w17,hw17⟩:∃ w17,w17=wc:=⟨_,rfl⟩
          subst hw17
          have HP17:=hid hP
          have HO17:=hid hO
          have HH17:=hid hO2
          clear hP hO hO2
          generalize readP params L.tail=RP at *
          cases RP with
          | none =>
            have HX:Hid (parseE s.data.toList=(noUri,34)):=hid (by rw [HX.out])
            have HZ:=hid (HP17.out.rz hg (.string ⟨#[]⟩) (.string ⟨#[]⟩) (.string ⟨#[]⟩) (.int .i64 0) (.slice none 0 0) (.slice none 0 0))
            obtain ⟨⟨e0,e1,e2,e3,e4,e5⟩,f0,f1,f2,f3,f4,f5⟩:=HP17.out.rc hg
            go_wp2
            obtain ⟨⟨z0,z1,z2,z3,z4,z5⟩,hbz⟩:=HZ.out
            exact bodyPost_ret (v:=.tuple #[.agg #[.string ⟨#[]⟩,.string ⟨#[]⟩,.string ⟨#[]⟩,.int .i64 0,.slice none 0 0,.slice none 0 0],.int .i64 34]) (by simp [results,Tryz.results94,go_sem,z0,z1,z2,z3,z4,z5]) rfl (ParsePost.err HX.out hbz)
          | some ps =>
            cases HO with
            | none =>
              have HX:Hid (parseE s.data.toList=(noUri,34)):=hid (by rw [HX.out])
              have HZ:=hid (HP17.out.rz hg (.string ⟨#[]⟩) (.string ⟨#[]⟩) (.string ⟨#[]⟩) (.int .i64 0) (.slice none 0 0) (.slice none 0 0))
              obtain ⟨⟨e0,e1,e2,e3,e4,e5⟩,f0,f1,f2,f3,f4,f5⟩:=HP17.out.rc hg
              go_wp2
              obtain ⟨⟨z0,z1,z2,z3,z4,z5⟩,hbz⟩:=HZ.out
              exact bodyPost_ret (v:=.tuple #[.agg #[.string ⟨#[]⟩,.string ⟨#[]⟩,.string ⟨#[]⟩,.int .i64 0,.slice none 0 0,.slice none 0 0],.int .i64 34]) (by simp [results,Tryz.results94,go_sem,z0,z1,z2,z3,z4,z5]) rfl (ParsePost.err HX.out hbz)
            | some ph =>
              have HX:Hid (parseE s.data.toList=finE ⟨low hd,usr,hst,prt,ps,ph⟩):=hid (by rw [HX.out])
              have hOp:=HO17.out ps rfl
              have hOh:=HH17.out ph rfl
              have HOp:=hid hOp
              have HOh:=hid hOh
              obtain ⟨Ap,cp,rfl,hrp⟩:=hOp.prm
              obtain ⟨Ah,ch,rfl,hrh⟩:=hOh.prm
              have hpl:=HRL.out ps rfl
              have hhl:=HHL.out ph rfl
              have hUS:UriS ⟨low hd,usr,hst,prt,ps,ph⟩:=⟨by show (low hd).length<=_;unfold low;rw [List.length_map];omega,by show usr.length<=_;omega,by show hst.length<=_;omega,by show _<=prt/\prt<=_;omega,by show ps.length<=_;have:=hpl.1;rw [List.length_tail] at this;omega,by show ph.length<=_;omega,fun p hp=>by
               obtain ⟨s,hs,h1,h2⟩:=hpl.2 p hp
               have:=HLT.out s hs
               exact ⟨by omega,by omega⟩,hhl.2⟩
              have HCK:Hid (Calls Tryz.prog 128 #[.agg #[.string (str (low hd)),.string (str usr),.string (str hst),.int .i64 prt,.slice Ap ps.length cp,.slice Ah ph.length ch]] w17 (CheckPost ⟨low hd,usr,hst,prt,ps,ph⟩ w17)):=hid (Check_any (u:=⟨low hd,usr,hst,prt,ps,ph⟩) (Nat.le_refl _) hOp.prm hOh.prm hUS)
              have hu17:=HP17.out.u
              rw [hg] at hu17
              have d0:=hu17.cell 0
              have d1:=hu17.cell 1
              have d2:=hu17.cell 2
              have d3:=hu17.cell 3
              have d4:=hu17.cell 4
              have d5:=hu17.cell 5
              clear hOp hOh hrp hrh hUS hu17 hpl hhl
              go_wp2_with fail
              refine HCK.out.mono ?_
              rintro e w18 ⟨rfl,hb18⟩
              have HP18:=hid (HP17.out.on hb18)
              have HO18:=hid (HOp.out.on hb18)
              have HH18:=hid (HOh.out.on hb18)
              have hu18:=HP18.out.u
              rw [hg] at hu18
              clear d0 d1 d2 d3 d4 d5 hb18
              by_cases hck:checkE ⟨low hd,usr,hst,prt,ps,ph⟩=0
              .have HX:=hid (HX.out.trans (if_pos hck))
               rw [hck]
               have d0:=hu18.cell 0
               have d1:=hu18.cell 1
               have d2:=hu18.cell 2
               have d3:=hu18.cell 3
               have d4:=hu18.cell 4
               have d5:=hu18.cell 5
               have HZ:=hid (HP18.out.rz hg (.string (str (low hd))) (.string (str usr)) (.string (str hst)) (.int .i64 prt) (.slice Ap ps.length cp) (.slice Ah ph.length ch))
               have HOF:=hid (HO18.out.six_ (g:=g) (by omega) (.string (str (low hd))) (.string (str usr)) (.string (str hst)) (.int .i64 prt) (.slice Ap ps.length cp) (.slice Ah ph.length ch))
               have HHF:=hid (HH18.out.six_ (g:=g) (by omega) (.string (str (low hd))) (.string (str usr)) (.string (str hst)) (.int .i64 prt) (.slice Ap ps.length cp) (.slice Ah ph.length ch))
               obtain ⟨⟨e0,e1,e2,e3,e4,e5⟩,f0,f1,f2,f3,f4,f5⟩:=HP18.out.rc hg
               clear hu18 hck
               go_wp2
               obtain ⟨⟨z0,z1,z2,z3,z4,z5⟩,hbz⟩:=HZ.out
               exact bodyPost_ret (v:=.tuple #[.agg #[.string (str (low hd)),.string (str usr),.string (str hst),.int .i64 prt,.slice Ap ps.length cp,.slice Ah ph.length ch],.int .i64 0]) (by simp [results,Tryz.results94,go_sem,z0,z1,z2,z3,z4,z5]) rfl (ParsePost.ok HX.out HOF.out HHF.out hbz)
              .have HX:=hid (HX.out.trans (if_neg hck))
               generalize checkE ⟨low hd,usr,hst,prt,ps,ph⟩=ck at *
               have qck:(ck != 0)=true:=by simpa using hck
               clear hck hu18
               have HZ:=hid (HP18.out.rz hg (.string ⟨#[]⟩) (.string ⟨#[]⟩) (.string ⟨#[]⟩) (.int .i64 0) (.slice none 0 0) (.slice none 0 0))
               obtain ⟨⟨e0,e1,e2,e3,e4,e5⟩,f0,f1,f2,f3,f4,f5⟩:=HP18.out.rc hg
               go_wp2
               obtain ⟨⟨z0,z1,z2,z3,z4,z5⟩,hbz⟩:=HZ.out
               exact bodyPost_ret (v:=.tuple #[.agg #[.string ⟨#[]⟩,.string ⟨#[]⟩,.string ⟨#[]⟩,.int .i64 0,.slice none 0 0,.slice none 0 0],.int .i64 ck]) (by simp [results,Tryz.results94,go_sem,z0,z1,z2,z3,z4,z5]) rfl (ParsePost.err HX.out hbz)
       .have HX:=hid (HX.out.trans (if_pos her))
        have qer:(er != 0)=true:=by simpa using her
        clear her
        have HZ:=hid (HP12.out.rz hg (.string ⟨#[]⟩) (.string ⟨#[]⟩) (.string ⟨#[]⟩) (.int .i64 0) (.slice none 0 0) (.slice none 0 0))
        obtain ⟨⟨e0,e1,e2,e3,e4,e5⟩,f0,f1,f2,f3,f4,f5⟩:=HP12.out.rc hg
        go_wp2
        obtain ⟨⟨z0,z1,z2,z3,z4,z5⟩,hbz⟩:=HZ.out
        exact bodyPost_ret (v:=.tuple #[.agg #[.string ⟨#[]⟩,.string ⟨#[]⟩,.string ⟨#[]⟩,.int .i64 0,.slice none 0 0,.slice none 0 0],.int .i64 er]) (by simp [results,Tryz.results94,go_sem,z0,z1,z2,z3,z4,z5]) rfl (ParsePost.err HX.out hbz)
end Go.Proofs.YthfmekdbcoaolaaGreatDoor
