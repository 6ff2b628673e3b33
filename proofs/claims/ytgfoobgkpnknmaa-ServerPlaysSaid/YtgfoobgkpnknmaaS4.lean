/- The server's table as an object: Find, Answer, Cached. -/
import Derived.Test.YtgfoobgkpnknmaaS3
namespace Go.Proofs.Ytgfoobgkpnknmaa
set_option linter.unusedSimpArgs false
set_option linter.unusedVariables false
open Go.RowKit
theorem sv_find {w : World} {p bn bc pw : Nat} {most last : Int} {xs : List XS} {l : List TM} {F FW : Nat → Prop} {kn : List (SK × Value)} {kc : List (Int × Value)}
    (H : SvI w p most last xs l F bn bc pw kn kc FW) (P : SvP most last (xs.map (·.2))) (k : SK) : mget k kn = (sFind k (xs.map (·.2))).map (Value.int .i64) := by
  by_cases hh : k ∈ (xs.map (·.2)).map (·.key)
  · obtain ⟨c, hcx, hbr⟩ := List.mem_map.1 hh
    have hfi := sfind_in P.keynd hcx
    obtain ⟨x, hx, rfl⟩ := List.mem_map.1 hcx
    obtain ⟨i, hi⟩ := List.getElem?_of_mem hx
    rw [← hbr, hfi, H.getn P.keynd hi]
    rfl
  · rw [H.non hh, sfind_not hh]
    rfl
theorem sfind_any {w : World} {p : Nat} {most last : Int} {cs : List SC} {F : Nat → Prop} (H : Sv w p most last cs F) (k1 k2 k3 : ByteArray) :
    Calls Try.prog 51 #[.pointer (some ⟨p, 0, none⟩), .string k1, .string k2, .string k3] w fun e w' => e = .returned (.tuple #[.int .i64 ((sFind (k1, k2, k3) cs).getD 0), .bool (sFind (k1, k2, k3) cs).isSome]) ∧ w = w' := by
  obtain ⟨xs, l, bn, bc, pw, kn, kc, FW, rfl, H, P⟩ := H
  have hm := Lib.hid (smade_any H.top)
  have hc := H.top.cell 2
  have hlk := H.nm.lookup (T := 124) (E := 3) skLaw Try.underlying124 (zint w) (k1, k2, k3) true
  rw [sv_find H P.p] at hlk
  generalize hf : sFind (k1, k2, k3) (xs.map (·.2)) = f at *
  clear hf H P
  rcases f with _ | n
  · have hlk' : (Instr.lookup 124 (.map (some bn)) (.agg #[.string k1, .string k2, .string k3]) true).run Try.prog w = .ok (.tuple #[.int .i64 0, .bool false]) w := hlk
    clear hlk
    go_enter Try.func51, Try.ntmps51
    go_wp2_with fail
    refine (hm.out).mono ?_
    rintro e w' ⟨rfl, rfl⟩
    go_wp2
    go_ret2
    exact ⟨rfl, rfl⟩
  · have hlk' : (Instr.lookup 124 (.map (some bn)) (.agg #[.string k1, .string k2, .string k3]) true).run Try.prog w = .ok (.tuple #[.int .i64 n, .bool true]) w := hlk
    clear hlk
    go_enter Try.func51, Try.ntmps51
    go_wp2_with fail
    refine (hm.out).mono ?_
    rintro e w' ⟨rfl, rfl⟩
    go_wp2
    go_ret2
    exact ⟨rfl, rfl⟩
theorem place_of {cs : List SC} (hn : cs.Pairwise fun a b => a.id < b.id) {i : Nat} {c : SC} (h : cs[i]? = some c) : sPlace c.id cs = some (i, c) := by
  induction cs generalizing i with
  | nil => cases h
  | cons a r ih =>
    rw [List.pairwise_cons] at hn
    cases i with
    | zero => simp at h; subst h; unfold sPlace; rw [if_pos rfl]
    | succ i =>
      have h' : r[i]? = some c := by simpa using h
      have hm := List.mem_of_getElem? h'
      have := hn.1 c hm
      unfold sPlace
      rw [if_neg (by omega), ih hn.2 h']
      rfl
theorem place_no {cs : List SC} {n : Int} (h : n ∉ cs.map (·.id)) : sPlace n cs = none :=
  place_none.2 fun c hc e => h (List.mem_map.2 ⟨c, hc, e⟩)
def SCachPost (w : World) (cs : List SC) (n : Int) (e : Ending) (w' : World) : Prop :=
  e = .returned (.tuple #[.agg #[.string ((sCached n cs).getD (⟨#[]⟩, ⟨#[]⟩)).1, .string ((sCached n cs).getD (⟨#[]⟩, ⟨#[]⟩)).2], .bool (sCached n cs).isSome]) ∧ Below w.heap.size w w'
theorem cach_of {w w' : World} {cs : List SC} {n : Int} {a b : ByteArray} {t : Bool} (h : sCached n cs = if t then some (a, b) else none) (hb : Below w.heap.size w w') (h1 : t = false → a = ⟨#[]⟩ ∧ b = ⟨#[]⟩) :
    SCachPost w cs n (.returned (.tuple #[.agg #[.string a, .string b], .bool t])) w' := by
  refine ⟨?_, hb⟩
  rw [h]
  cases t
  · obtain ⟨rfl, rfl⟩ := h1 rfl
    rfl
  · rfl
set_option maxRecDepth 100000 in
theorem scached_any {w : World} {p : Nat} {most last : Int} {cs : List SC} {F : Nat → Prop} (H : Sv w p most last cs F) (n : Int) :
    Calls Try.prog 54 #[.pointer (some ⟨p, 0, none⟩), .int .i64 n] w (SCachPost w cs n) := by
  have hal : Below w.heap.size w (w.alloc (.cells #[.string ⟨#[]⟩, .string ⟨#[]⟩] 71)) := (Below.refl _ _).alloc (Nat.le_refl _) _
  obtain ⟨xs, l, bn, bc, pw, kn, kc, FW, rfl, H0, P⟩ := H
  have H := H0.fr (Fr.of_below (F := fun _ => False) hal) (fun _ _ h => h)
  have HAL := Lib.hid hal
  have hBL := Blk.new w 71 #[.string ⟨#[]⟩, .string ⟨#[]⟩]
  have HBL := Lib.hid hBL
  generalize hw0 : w.alloc (.cells #[.string ⟨#[]⟩, .string ⟨#[]⟩] 71) = w0 at *
  have HW0 := Lib.hid hw0
  have hm := Lib.hid (smade_any H.top)
  have hc := H.top.cell 3
  have r0 := hBL.cell 0
  have r1 := hBL.cell 1
  have r2 := hBL.frozen 0
  have r3 := hBL.frozen 1
  have hlk := H.cm.lookup (T := 125) (E := 159) (intLaw Try.underlying3) Try.underlying125 (zscall w0) n true
  by_cases hin : n ∈ (xs.map (·.2)).map (·.id)
  · obtain ⟨c, hcx, rfl⟩ := List.mem_map.1 hin
    obtain ⟨x, hx, rfl⟩ := List.mem_map.1 hcx
    obtain ⟨i, hi⟩ := List.getElem?_of_mem hx
    have hci : (xs.map (·.2))[i]? = some x.2 := by rw [List.getElem?_map, hi]; rfl
    have HV : Hid (sCached x.2.id (xs.map (·.2)) = if x.2.told then some (x.2.to, x.2.bs) else none) := Lib.hid (by unfold sCached; rw [place_of P.p.ids hci])
    rw [H.getc P.p.idnd hi] at hlk
    have hlk' : (Instr.lookup 125 (.map (some bc)) (.int .i64 x.2.id) true).run Try.prog w0 = .ok (.tuple #[.pointer (some ⟨x.1, 0, none⟩), .bool true]) w0 := hlk
    have c3 : w0.cell? ⟨x.1, 3, none⟩ = some (.string x.2.to) := (H.its i x hi).cell 3
    have c4 : w0.cell? ⟨x.1, 4, none⟩ = some (.string x.2.bs) := (H.its i x hi).cell 4
    have c5 : w0.cell? ⟨x.1, 5, none⟩ = some (.bool x.2.told) := (H.its i x hi).cell 5
    clear hlk hin H H0 P hx hi hcx hci hal hBL hw0
    generalize x.2.told = t at *
    generalize x.2.to = to at *
    generalize x.2.bs = bs at *
    generalize x.2.id = id at *
    cases t
    · go_enter Try.func54, Try.ntmps54
      go_wp2_with fail
      rw [HW0.out]
      refine (hm.out).mono ?_
      rintro e w' ⟨rfl, rfl⟩
      go_wp2
      exact bodyPost_ret (v := .tuple #[.agg #[.string ⟨#[]⟩, .string ⟨#[]⟩], .bool false]) (by simp [results, Try.results54, go_sem, r0, r1]) rfl (cach_of HV.out ((HAL.out.setCell (Nat.le_refl _) _).setCell (Nat.le_refl _) _) (fun _ => ⟨rfl, rfl⟩))
    · go_enter Try.func54, Try.ntmps54
      go_wp2_with fail
      rw [HW0.out]
      refine (hm.out).mono ?_
      rintro e w' ⟨rfl, rfl⟩
      go_wp2
      have z0 := ((HBL.out.set_ 0 (.string to)).set_ 1 (.string bs)).cell 0
      have z1 := ((HBL.out.set_ 0 (.string to)).set_ 1 (.string bs)).cell 1
      exact bodyPost_ret (v := .tuple #[.agg #[.string to, .string bs], .bool true]) (by simp [results, Try.results54, go_sem, z0, z1]) rfl (cach_of HV.out ((HAL.out.setCell (Nat.le_refl _) _).setCell (Nat.le_refl _) _) (fun h => by cases h))
  · have HV : Hid (sCached n (xs.map (·.2)) = if false then some ((⟨#[]⟩ : ByteArray), (⟨#[]⟩ : ByteArray)) else none) := Lib.hid (by unfold sCached; rw [place_no hin]; rfl)
    rw [H.noc hin] at hlk
    have hlk' : (Instr.lookup 125 (.map (some bc)) (.int .i64 n) true).run Try.prog w0 = .ok (.tuple #[.pointer none, .bool false]) w0 := hlk
    clear hlk hin H H0 P hal hBL hw0
    go_enter Try.func54, Try.ntmps54
    go_wp2_with fail
    rw [HW0.out]
    refine (hm.out).mono ?_
    rintro e w' ⟨rfl, rfl⟩
    go_wp2
    exact bodyPost_ret (v := .tuple #[.agg #[.string ⟨#[]⟩, .string ⟨#[]⟩], .bool false]) (by simp [results, Try.results54, go_sem, r0, r1]) rfl (cach_of HV.out ((HAL.out.setCell (Nat.le_refl _) _).setCell (Nat.le_refl _) _) (fun _ => ⟨rfl, rfl⟩))
theorem SvI.put {w w' : World} {p bn bc pw : Nat} {most last : Int} {xs : List XS} {l : List TM} {F FW : Nat → Prop} {kn : List (SK × Value)} {kc : List (Int × Value)}
    (H : SvI w p most last xs l F bn bc pw kn kc FW) {i : Nat} {x : XS} (hx : xs[i]? = some x) {c' : SC} (hid : c'.id = x.2.id) (hbr : c'.key = x.2.key) (hfr : Fr (fun k => k = x.1) w w') (hnb : Blk w' x.1 158 (scell c')) :
    SvI w' p most last (xs.set i (x.1, c')) l F bn bc pw kn kc FW ∧ Fr F w w' := by
  have hb := H.its i x hx
  have hi : i < xs.length := (List.getElem?_eq_some_iff.1 hx).1
  have hmem : x.1 ∈ xs.map (·.1) := List.mem_map.2 ⟨x, List.mem_of_getElem? hx, rfl⟩
  have h1 : (xs.set i (x.1, c')).map (·.1) = xs.map (·.1) := map_set_same _ hx rfl
  have hFx : F x.1 := (H.ff x.1).2 (.inr (.inr (.inr (.inl hmem))))
  refine ⟨⟨H.top.fr hfr (H.top.ne_ hb (by decide)), H.nm.fr hfr (H.nm.ne hb), H.cm.fr hfr (H.cm.ne hb), H.wh.fr hfr (fun k hk e => H.fwx (List.mem_of_getElem? hx) (e ▸ hk)), fun k y hy => ?_, by rw [h1]; exact H.nd, ?_, ?_, H.dn, H.fn, H.fc, fun k => ?_⟩, hfr.mono (fun k _ e => e ▸ hFx)⟩
  · rw [List.getElem?_set] at hy
    by_cases hk : i = k
    · subst hk
      rw [if_pos rfl, if_pos hi] at hy
      injection hy with hy
      subst hy
      exact hnb
    · rw [if_neg hk] at hy
      refine (H.its k y hy).fr hfr (fun e => hk ?_)
      have hp := List.pairwise_iff_getElem.1 H.nd
      obtain ⟨g1, e1⟩ := List.getElem?_eq_some_iff.1 hx
      obtain ⟨g2, e2⟩ := List.getElem?_eq_some_iff.1 hy
      have e' : y.1 = x.1 := e
      rcases Nat.lt_trichotomy i k with q | q | q
      · exact (hp i k (by simpa using g1) (by simpa using g2) q (by simp [e1, e2, e'])).elim
      · exact q
      · exact (hp k i (by simpa using g2) (by simpa using g1) q (by simp [e1, e2, e'])).elim
  · rw [map_set_same _ hx (by simp [hid, hbr])]; exact H.pn
  · rw [map_set_same _ hx (by simp [hid])]; exact H.pc
  · unfold SF; rw [h1]; exact H.ff k
def sAnsL (n : Int) (to bs : ByteArray) (cs : List SC) : List SC := if sAnsE cs n = 0 then sTell n to bs cs else cs
def SAnsPost (w : World) (p : Nat) (most last : Int) (cs : List SC) (n : Int) (to bs : ByteArray) (F : Nat → Prop) (e : Ending) (w' : World) : Prop :=
  e = .returned (.int .i64 (sAnsE cs n)) ∧ Sv w' p most last (sAnsL n to bs cs) F ∧ Fr F w w'
theorem sans_same {w w' : World} {p : Nat} {most last : Int} {cs : List SC} {n m : Int} {to bs : ByteArray} {F : Nat → Prop} (H : Sv w p most last cs F) (hb : Below w.heap.size w w') (h : sAnsE cs n = m) (hm : m ≠ 0) :
    SAnsPost w p most last cs n to bs F (.returned (.int .i64 m)) w' := by
  have e3 : sAnsL n to bs cs = cs := by unfold sAnsL; rw [if_neg (by omega)]
  refine ⟨by rw [h], ?_, Fr.of_below hb⟩
  rw [e3]
  exact H.below hb
theorem tell_lp {cs : List SC} (n : Int) (to bs : ByteArray) : (sTell n to bs cs).map (fun c => (c.over, c.id)) = cs.map fun c => (c.over, c.id) := by
  unfold sTell
  rw [List.map_map]
  refine List.map_congr_left fun c _ => ?_
  simp only [Function.comp_apply]
  split <;> rfl
theorem SvQ.tell {most last : Int} {cs : List SC} {l : List TM} (H : SvQ most last cs l) (n : Int) (to bs : ByteArray) : SvQ most last (sTell n to bs cs) l :=
  ⟨H.p.tell n to bs, by rw [tell_lp]; exact H.lp, fun c hc => by
    obtain ⟨d, hd, rfl⟩ := List.mem_map.1 hc
    have := H.each d hd
    split <;> exact this, H.most, H.last⟩
set_option maxRecDepth 100000 in
set_option maxHeartbeats 1000000 in
theorem sanswer_any {w : World} {p : Nat} {most last : Int} {cs : List SC} {F : Nat → Prop} (H : Sv w p most last cs F) (n : Int) (to bs : ByteArray) :
    Calls Try.prog 56 #[.pointer (some ⟨p, 0, none⟩), .int .i64 n, .agg #[.string to, .string bs]] w (SAnsPost w p most last cs n to bs F) := by
  have hal : Below w.heap.size w (w.alloc (.cells #[.string to, .string bs] 71)) := (Below.refl _ _).alloc (Nat.le_refl _) _
  have HC := Lib.hid H
  obtain ⟨xs, l, bn, bc, pw, kn, kc, FW, rfl, H0, P⟩ := H
  have H := H0.fr (Fr.of_below (F := fun _ => False) hal) (fun _ _ h => h)
  have HAL := Lib.hid hal
  have hBL := Blk.new w 71 #[.string to, .string bs]
  generalize hw0 : w.alloc (.cells #[.string to, .string bs] 71) = w0 at *
  have HW0 := Lib.hid hw0
  have hm := Lib.hid (smade_any H.top)
  have hc := H.top.cell 3
  have r0 := hBL.cell 0
  have r1 := hBL.cell 1
  have hlk := H.cm.lookup (T := 125) (E := 159) (intLaw Try.underlying3) Try.underlying125 (zscall w0) n true
  by_cases hin : n ∈ (xs.map (·.2)).map (·.id)
  · obtain ⟨c, hcx, rfl⟩ := List.mem_map.1 hin
    obtain ⟨x, hx, rfl⟩ := List.mem_map.1 hcx
    obtain ⟨i, hi⟩ := List.getElem?_of_mem hx
    have hci : (xs.map (·.2))[i]? = some x.2 := by rw [List.getElem?_map, hi]; rfl
    have hpl := place_of P.p.ids hci
    rw [H.getc P.p.idnd hi] at hlk
    have hlk' : (Instr.lookup 125 (.map (some bc)) (.int .i64 x.2.id) true).run Try.prog w0 = .ok (.tuple #[.pointer (some ⟨x.1, 0, none⟩), .bool true]) w0 := hlk
    have c5 : w0.cell? ⟨x.1, 5, none⟩ = some (.bool x.2.told) := (H.its i x hi).cell 5
    have c3 : w0.cell? ⟨x.1, 3, none⟩ = some (.string x.2.to) := (H.its i x hi).cell 3
    have c4 : w0.cell? ⟨x.1, 4, none⟩ = some (.string x.2.bs) := (H.its i x hi).cell 4
    have f3 := (H.its i x hi).frozen 3
    have f4 := (H.its i x hi).frozen 4
    have f5 := (H.its i x hi).frozen 5
    by_cases ht : x.2.told = true
    · have HE := Lib.hid (sans_same (to := to) (bs := bs) HC.out HAL.out (show sAnsE (xs.map (·.2)) x.2.id = 7 by unfold sAnsE; rw [hpl]; simp [ht]) (by omega))
      rw [ht] at c5
      clear hlk hin H H0 P hx hi hcx hci hal hBL hw0 hpl ht
      generalize x.2.id = id at *
      go_enter Try.func56, Try.ntmps56
      go_wp2_with fail
      rw [HW0.out]
      refine (hm.out).mono ?_
      rintro e w' ⟨rfl, rfl⟩
      go_wp2
      go_ret
      exact HE.out
    · have ht : x.2.told = false := by simpa using ht
      have he0 : sAnsE (xs.map (·.2)) x.2.id = 0 := by unfold sAnsE; rw [hpl]; simp [ht]
      have hb := H.its i x hi
      have hfr : Fr (fun k => k = x.1) w0 (((w0.setCell ⟨x.1, 3, none⟩ (.string to)).setCell ⟨x.1, 4, none⟩ (.string bs)).setCell ⟨x.1, 5, none⟩ (.bool true)) :=
        (((Fr.refl (fun k => k = x.1) w0).set (p := ⟨x.1, 3, none⟩) (fun _ => rfl) _).set (p := ⟨x.1, 4, none⟩) (fun _ => rfl) _).set (p := ⟨x.1, 5, none⟩) (fun _ => rfl) _
      have hput := H.put hi (c' := { x.2 with told := true, to := to, bs := bs }) rfl rfl hfr (((hb.set_ 3 _).set_ 4 _).set_ 5 _)
      have HE : Hid (SAnsPost w p most last (xs.map (·.2)) x.2.id to bs F (.returned (.int .i64 0)) (((w0.setCell ⟨x.1, 3, none⟩ (.string to)).setCell ⟨x.1, 4, none⟩ (.string bs)).setCell ⟨x.1, 5, none⟩ (.bool true))) := Lib.hid (by
        refine ⟨by rw [he0], ?_, (Fr.of_below HAL.out).trans hput.2 (fun _ _ h => h)⟩
        have e3 : sAnsL x.2.id to bs (xs.map (·.2)) = (xs.set i (x.1, { x.2 with told := true, to := to, bs := bs })).map (·.2) := by
          unfold sAnsL
          rw [if_pos he0, tell_set P.p.ids hpl, List.map_set]
        rw [e3]
        refine ⟨_, l, bn, bc, pw, kn, kc, FW, rfl, hput.1, ?_⟩
        rw [← e3]
        unfold sAnsL
        rw [if_pos he0]
        exact P.tell _ _ _)
      rw [ht] at c5
      clear hlk hin H H0 P hx hi hcx hci hal hBL hw0 hpl ht hb hfr hput he0
      generalize x.2.id = id at *
      go_enter Try.func56, Try.ntmps56
      go_wp2_with fail
      rw [HW0.out]
      refine (hm.out).mono ?_
      rintro e w' ⟨rfl, rfl⟩
      go_wp2
      go_ret
      exact HE.out
  · have HE := Lib.hid (sans_same (to := to) (bs := bs) HC.out HAL.out (show sAnsE (xs.map (·.2)) n = 6 by unfold sAnsE; rw [place_no hin]) (by omega))
    rw [H.noc hin] at hlk
    have hlk' : (Instr.lookup 125 (.map (some bc)) (.int .i64 n) true).run Try.prog w0 = .ok (.tuple #[.pointer none, .bool false]) w0 := hlk
    clear hlk hin H H0 P hal hBL hw0
    go_enter Try.func56, Try.ntmps56
    go_wp2_with fail
    rw [HW0.out]
    refine (hm.out).mono ?_
    rintro e w' ⟨rfl, rfl⟩
    go_wp2
    go_ret
    exact HE.out
end Go.Proofs.Ytgfoobgkpnknmaa
