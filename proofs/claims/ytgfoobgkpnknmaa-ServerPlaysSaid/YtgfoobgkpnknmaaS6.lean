/- The server's table as an object: Expire. -/
import Derived.Test.YtgfoobgkpnknmaaS5
namespace Go.Proofs.Ytgfoobgkpnknmaa
set_option linter.unusedSimpArgs false
set_option linter.unusedVariables false
open Go.RowKit
theorem e3i : ElemInfo Try.prog 3 1 8 (.int .i64 0) := ElemInfo.mk' (by kernel_rfl)
def ids (l : List TM) : List Value := l.map fun t => .int .i64 t.2
theorem ids_snoc (l : List TM) (t : TM) : ids (l ++ [t]) = ids l ++ [.int .i64 t.2] := by simp [ids]
structure ExpAt (w : World) (p : Nat) (most last : Int) (xs : List XS) (D lb : List TM) (F FW : Nat → Prop) (bn bc pw : Nat) (A : Option Addr) (j : Nat) (v : Value) (wr : World) : Prop where
  sv : ∃ kn kc, SvI wr p most last (xsJ xs D j) lb (SF p bn bc (xsJ xs D j) FW) bn bc pw kn kc FW
  rd : Rd wr 36 2 D.length A (tcells D)
  own : wr.ownsRow w.heap.size 3 1 v j (ids (D.take j))
  fr : Fr F w wr
def ExpRel (w : World) (p : Nat) (most last : Int) (xs : List XS) (D lb : List TM) (F FW : Nat → Prop) (bn bc pw : Nat) (A : Option Addr) (v i : Value) (wr : World) : Prop :=
  ∃ j : Nat, j ≤ D.length ∧ i = .int .i64 j ∧ ExpAt w p most last xs D lb F FW bn bc pw A j v wr
def SExpPost (w : World) (p : Nat) (most last : Int) (cs : List SC) (now : Int) (F : Nat → Prop) (e : Ending) (w' : World) : Prop :=
  ∃ v F', e = .returned v ∧ w'.ownsRow w.heap.size 3 1 v (sGone now cs).length ((sGone now cs).map (.int .i64)) ∧ Sv w' p most last (sKeep now cs) F' ∧ Fr F w w' ∧ ∀ k, F' k → F k
theorem xsJ_sub (xs : List XS) (D : List TM) (j : Nat) : (xsJ xs D j).Sublist xs := List.filter_sublist
theorem sf_sub {p bn bc : Nat} {xs ys : List XS} {FW FW' : Nat → Prop} (hs : ys.Sublist xs) (hw : ∀ k, FW' k → FW k) {k : Nat} (h : SF p bn bc ys FW' k) : SF p bn bc xs FW k := by
  rcases h with h | h | h | h | h
  · exact .inl h
  · exact .inr (.inl h)
  · exact .inr (.inr (.inl h))
  · exact .inr (.inr (.inr (.inl ((hs.map _).subset h))))
  · exact .inr (.inr (.inr (.inr (hw k h))))
/-- what a round leaves -/
theorem exp_step {w wr w2 w3 w4 : World} {p bn bc pw : Nat} {most last : Int} {xs : List XS} {D lb : List TM} {F FW : Nat → Prop} {kn : List (SK × Value)} {kc : List (Int × Value)} {A : Option Addr} {j : Nat} {v v4 : Value} {x : XS} {i : Nat}
    (hF : ∀ k, SF p bn bc xs FW k → F k) (hFl : ∀ k, F k → k < w.heap.size) (hP : SvP most last (xs.map (·.2))) (hj : j < D.length)
    (H : SvI wr p most last (xsJ xs D j) lb (SF p bn bc (xsJ xs D j) FW) bn bc pw kn kc FW) (hrd : Rd wr 36 2 D.length A (tcells D)) (hown : wr.ownsRow w.heap.size 3 1 v j (ids (D.take j))) (hfr : Fr F w wr)
    (hx : (xsJ xs D j)[i]? = some x) (hid : x.2.id = D[j].2) (hgn : mget x.2.key kn = some (.int .i64 x.2.id)) (hgc : mget x.2.id kc = some (ptr x.1)) {o : Obj}
    (h2 : MapIs w2 bn skKey (mdel x.2.key kn)) (f2 : Fr (fun k => k = bn) (wr.alloc o) w2) (h3 : MapIs w3 bc intKey (mdel x.2.id kc)) (f3 : Fr (fun k => k = bc) w2 w3)
    (ho4 : w4.ownsRow w.heap.size 3 1 v4 (j + 1) (ids (D.take j) ++ [.int .i64 x.2.id])) (hg4 : w3.grownBy w4 v.ownBlock) :
    ExpAt w p most last xs D lb F FW bn bc pw A (j + 1) v4 w4 := by
  have hnd : (((xsJ xs D j).map (·.2)).map (·.id)).Nodup := by
    have := hP.idnd
    rw [List.map_map] at this ⊢
    exact this.sublist ((xsJ_sub xs D j).map _)
  have ha : Fr (fun _ => False) wr (wr.alloc o) := (Fr.refl _ _).alloc _
  have hd := (H.fr ha (fun _ _ h => h)).drop hnd hx hgn hgc h2 f2 h3 f3
  have hsz := hfr.size
  have hFg : ∀ k, SF p bn bc (xsJ xs D j) FW k → ¬ v.ownBlock = some k := fun k hk e => by
    have h1 := hFl k (hF k (sf_sub (xsJ_sub xs D j) (fun _ h => h) hk))
    have h2 := (hown.lt k e).1
    omega
  have hf4 : Fr (fun k => v.ownBlock = some k) w3 w4 := Fr.of_grown hg4 (fun k e => e)
  have hxe : xsJ xs D (j + 1) = (xsJ xs D j).filter fun y => decide (y.2.id ≠ x.2.id) := by rw [xsJ_succ xs D hj, hid]
  have hbnF : F bn := hF bn (.inr (.inl rfl))
  have hbcF : F bc := hF bc (.inr (.inr (.inl rfl)))
  have hall : Fr (fun k => k = bn ∨ k = bc ∨ v.ownBlock = some k) wr w4 :=
    ((ha.mono fun _ _ q => q.elim).trans hd.2 fun k _ q => q.elim (fun e => .inl e) fun e => .inr (.inl e)).trans hf4 fun k _ q => .inr (.inr q)
  refine ⟨⟨mdel x.2.key kn, mdel x.2.id kc, ?_⟩, hrd.fr hall (fun gb cs fr hb q => ?_), ?_, hfr.trans hall (fun k hk q => ?_)⟩
  · rw [hxe]
    refine hd.1.fr hf4 (fun k hk => ?_)
    exact hFg k (sf_sub (List.filter_sublist) (fun _ h => h) hk)
  · rcases q with q | q | q
    · subst q
      obtain ⟨es, c, h, _⟩ := H.nm
      rw [hb] at h; cases h
    · subst q
      obtain ⟨es, c, h, _⟩ := H.cm
      rw [hb] at h; cases h
    · obtain ⟨cs', h⟩ := own_ty hown q
      rw [hb] at h
      injection h with h
      injection h with _ h
      exact absurd h (by decide)
  · rw [List.take_succ_eq_append_getElem hj, ids_snoc, ← hid]
    exact ho4
  · rcases q with q | q | q
    · exact q ▸ hbnF
    · exact q ▸ hbcF
    · have := (hown.lt k q).1
      omega
set_option maxRecDepth 100000 in
set_option maxHeartbeats 4000000 in
theorem sexpire_any {w : World} {p : Nat} {most last : Int} {cs : List SC} {F : Nat → Prop} (H : Sv w p most last cs F) (now : Int) :
    Calls Try.prog 48 #[.pointer (some ⟨p, 0, none⟩), .int .i64 now] w (SExpPost w p most last cs now F) := by
  have hFl := Lib.hid fun k (hk : F k) => H.lt hk
  obtain ⟨xs, l, bn, bc, pw, kn, kc, FW, rfl, H, P⟩ := H
  have hm := Lib.hid (smade_any H.top)
  have t4 := H.top.cell 4
  have hdue := Lib.hid (due_any H.wh now)
  have hso : l.Pairwise ah := by obtain ⟨_, _, _, _, h⟩ := H.wh; exact h.so
  have HI := Lib.hid H
  have HP := Lib.hid P
  have HSO := Lib.hid hso
  have hlen : (rDueA l now).length ≤ 4096 := by
    have h1 : l.length ≤ 4096 := by obtain ⟨_, _, _, _, h⟩ := H.wh; exact h.le
    have h2 := (List.takeWhile_sublist (fun t : TM => decide (t.1 ≤ now)) (l := l)).length_le
    unfold rDueA
    omega
  clear H P hso
  go_enter Try.func48, Try.ntmps48
  go_wp2_with fail
  refine (hm.out).mono ?_
  rintro e w' ⟨rfl, rfl⟩
  go_wp2_with fail
  refine (hdue.out).mono ?_
  rintro e w1 ⟨dv, FW1, rfl, hown, hwh, hf, hsub⟩
  have hI1 := HI.out.wheel hwh hf (fun k hk => .inl (hsub k hk))
  obtain ⟨A, c, rfl, hAc, hcm, hrd⟩ := RdV.of_own hown
  obtain ⟨D, hD⟩ : ∃ D, rDueA l now = D := ⟨_, rfl⟩
  obtain ⟨lb, hlb⟩ : ∃ lb, rDueB l now = lb := ⟨_, rfl⟩
  rw [hD] at hrd hAc hlen
  rw [hD]
  have HST : Hid (ExpRel w p most last xs D lb F FW1 bn bc pw A (.slice none 0 0) (.int .i64 0) w1) := Lib.hid
    ⟨0, by omega, rfl, ⟨⟨kn, kc, by rw [xsJ_zero, ← hlb]; exact hI1.1⟩, hrd, ⟨rfl, .inl ⟨rfl, rfl⟩⟩, hI1.2.1⟩⟩
  have HF : Hid (∀ k, SF p bn bc xs FW1 k → F k) := Lib.hid (fun k hk => (HI.out.ff k).2 (sf_sub (List.Sublist.refl _) hsub hk))
  have HSUB := Lib.hid hsub
  have HD := Lib.hid hD
  have HLB := Lib.hid hlb
  clear hown hwh hf hsub hI1 hrd hD hlb
  go_wp2_with fail
  go_loopw [5, 18] (fun v i wr => ExpRel w p most last xs D lb F FW1 bn bc pw A v i wr) (fun v i _ => D.length - (intOf i).toNat)
  case atStart => exact HST.out
  case round =>
    obtain ⟨j, hj, rfl, hE⟩ := hrel
    by_cases hlt : j < D.length
    · obtain ⟨kn', kc', hS⟩ := hE.sv
      obtain ⟨i, x, hx, hid, hxJ, hxs⟩ := xsJ_at HP.out now (j := j) (by rw [HD.out]; exact hlt)
      simp only [HD.out] at hx hid
      have hkd : (((xsJ xs D j).map (·.2)).map (·.key)).Nodup := by
        have := HP.out.p.keynd
        rw [List.map_map] at this ⊢
        exact this.sublist ((xsJ_sub xs D j).map _)
      have hndi : (((xsJ xs D j).map (·.2)).map (·.id)).Nodup := by
        have := HP.out.p.idnd
        rw [List.map_map] at this ⊢
        exact this.sublist ((xsJ_sub xs D j).map _)
      have hgn := hS.getn hkd hx
      have hgc := hS.getc hndi hx
      obtain ⟨gb, off, rfl, c0, c1⟩ := rd_tm hE.rd hlt
      rw [← hid] at c1
      obtain ⟨W0, hW0⟩ : ∃ W0, wr.alloc (.cells #[.int .i64 D[j].1, .int .i64 x.2.id] 36) = W0 := ⟨_, rfl⟩
      have hS0 := hW0 ▸ hS.fr ((Fr.refl (fun _ => False) wr).alloc (.cells #[.int .i64 D[j].1, .int .i64 x.2.id] 36)) (fun _ _ h => h)
      have hB0 : Blk W0 wr.heap.size 36 #[.int .i64 D[j].1, .int .i64 x.2.id] := hW0 ▸ Blk.new wr _ _
      have p2 := hS0.top.cell 2
      have p3 := hS0.top.cell 3
      have d1 := hB0.cell 1
      have x0 : W0.cell? ⟨x.1, 0, none⟩ = some (.string x.2.key.1) := (hS0.its i x hx).cell 0
      have x1 : W0.cell? ⟨x.1, 1, none⟩ = some (.string x.2.key.2.1) := (hS0.its i x hx).cell 1
      have x2 : W0.cell? ⟨x.1, 2, none⟩ = some (.string x.2.key.2.2) := (hS0.its i x hx).cell 2
      have hlk := (hS0.cm.drewN 1).lookup (T := 125) (E := 159) (intLaw Try.underlying3) Try.underlying125 (zscall (W0.drewN 1)) x.2.id false
      rw [hgc] at hlk
      have hlk' : (Instr.lookup 125 (.map (some bc)) (.int .i64 x.2.id) false).run Try.prog W0.drew = .ok (.pointer (some ⟨x.1, 0, none⟩)) W0.drew := hlk
      obtain ⟨W2, hd2, h2, f2⟩ := (hS0.nm.drewN 1).delete skLaw Try.underlying124 x.2.key 156 0
      have hd2' : (Builtin.delete_ #[124, 156] 0 #[.map (some bn), .agg #[.string x.2.key.1, .string x.2.key.2.1, .string x.2.key.2.2]]).run Try.prog W0.drew = .ok (.tuple #[]) W2 := hd2
      have g2 : Fr (fun k => k = bn) W0 W2 := ⟨f2.os, f2.tape, f2.output, f2.size, f2.block⟩
      obtain ⟨W3, hd3, h3, f3⟩ := ((hS0.cm.fr g2 (fun e => HI.out.dn e.symm)).drewN 1).delete (intLaw Try.underlying3) Try.underlying125 x.2.id 3 0
      have hd3' : (Builtin.delete_ #[125, 3] 0 #[.map (some bc), .int .i64 x.2.id]).run Try.prog W2.drew = .ok (.tuple #[]) W3 := hd3
      have g3 : Fr (fun k => k = bc) W2 W3 := ⟨f3.os, f3.tape, f3.output, f3.size, f3.block⟩
      have q3 := (hS0.top.fr g2 (hS0.nm.ne hS0.top).symm).cell 3
      have hB2 := hB0.fr g2 (hS0.nm.ne hB0).symm
      have q1 := hB2.cell 1
      have hB3 := hB2.fr g3 (hS0.cm.ne hB0).symm
      have r1 := hB3.cell 1
      have s0 : wr.heap.size ≤ W0.heap.size := by rw [← hW0]; simp
      have s2 := g2.size
      have s3 := g3.size
      have sw := hE.fr.size
      have hown3 : W3.ownsRow w.heap.size 3 1 u5 j (ids (D.take j)) := by
        have a0 := own_fr hE.own ((Fr.refl (fun _ => False) wr).alloc (.cells #[.int .i64 D[j].1, .int .i64 x.2.id] 36)) (fun _ _ h => h)
        rw [hW0] at a0
        refine own_fr (own_fr a0 g2 (fun k hk e => ?_)) g3 (fun k hk e => ?_)
        · obtain ⟨cs', h⟩ := own_ty a0 hk
          obtain ⟨es, cc, hm, _⟩ := hS0.nm
          rw [e, hm] at h; cases h
        · obtain ⟨cs', h⟩ := own_ty a0 hk
          obtain ⟨es, cc, hm, _⟩ := hS0.cm
          rw [e, hm] at h; cases h
      have HO3 := Lib.hid hown3
      have HEND : Hid (∀ v4 w4, w4.ownsRow w.heap.size 3 1 v4 (j + 1) (ids (D.take j) ++ [.int .i64 x.2.id]) → W3.grownBy w4 u5.ownBlock → ExpAt w p most last xs D lb F FW1 bn bc pw (some ⟨gb, off, none⟩) (j + 1) v4 w4) := Lib.hid (fun v4 w4 a b =>
        exp_step HF.out hFl.out HP.out.p hlt hS hE.rd hE.own hE.fr hx hid hgn hgc h2 (hW0 ▸ g2) h3 g3 a b)
      have jb0 : (0 : Int) ≤ j := by omega
      have jb1 : (j : Int) < D.length := by omega
      clear hS hgn hgc hkd hndi hx hid hxJ hxs hS0 hB0 hlk hd2 h2 f2 hd3 h3 f3 g2 g3 hB2 hB3 hown3 hE
      generalize x.2.id = id at *
      generalize x.2.key = key at *
      obtain ⟨key1, key2, key3⟩ := key
      generalize D[j].1 = at_ at *
      go_wp2_with fail
      go_still_tail 14, (by kernel_rfl)
      go_wp2_with fail
      go_still_tail 6, (by kernel_rfl)
      go_wp2_with (at_builtin; go_must (refine wpList_app1' rfl (.tmp 42) (.tmp 45) 22 rfl w.heap.size 3 1 8 _ Try.underlying22 e3i rfl (by omega) _ _ _ rfl HO3.out [_] _ rfl (by simp) rfl (by simp [Value.oneCell']) (by unfold maxLen; omega) (by omega) (by omega) ?_); intro v4 w4 hown4 hb4 hg4 hat4)
      have HN := Lib.hid (HEND.out v4 w4 hown4 hg4)
      clear hown4 hb4 hg4 hat4
      go_roundw
      case rel => exact ⟨j + 1, by omega, by go_num, HN.out⟩
      case measure => simp [intOf] <;> omega
    · obtain rfl : j = D.length := by omega
      obtain ⟨kn', kc', hS⟩ := hE.sv
      have hown := hE.own
      have e0 : ids (D.take D.length) = (D.map (·.2)).map (Value.int .i64) := by rw [List.take_length, List.map_map]; rfl
      rw [e0] at hown
      have hl0 : (D.map (·.2)).length = D.length := List.length_map _
      have hsort := Lib.hid (sort_own (v := u5) (zs := D.map (·.2)) (by rw [hl0]; exact hown) (by rw [hl0]; omega))
      have HOW := Lib.hid hown
      have HSV := Lib.hid hS
      have HFR := Lib.hid hE.fr
      have HEN := Lib.hid (xsJ_end HP.out HSO.out now)
      have HSRT := Lib.hid (due_sorted HP.out HSO.out now)
      have HKP := Lib.hid (HP.out.keep HSO.out now)
      clear hE hS hown e0 hl0
      go_wp2_with fail
      refine (hsort.out).mono ?_
      rintro e w5 ⟨rfl, hown5, hg5⟩
      have HFIN : Hid (SExpPost w p most last (xs.map (·.2)) now F (.returned u5) w5) := Lib.hid (by
        have hd := HD.out
        have hb := HLB.out
        have hf5 : Fr (fun k => u5.ownBlock = some k) wr w5 := Fr.of_grown hg5 (fun k e => e)
        have hsz := HFR.out.size
        have hge : ∀ k, u5.ownBlock = some k → w.heap.size ≤ k := fun k hk => (HOW.out.lt k hk).1
        have hFF : ∀ k, SF p bn bc (xsJ xs D D.length) FW1 k → F k := fun k hk => HF.out k (sf_sub (xsJ_sub xs D _) (fun _ h => h) hk)
        refine ⟨u5, SF p bn bc (xsJ xs D D.length) FW1, rfl, ?_, ⟨xsJ xs D D.length, lb, bn, bc, pw, kn', kc', FW1, ?_, ?_, ?_⟩, HFR.out.trans hf5 (fun k hk q => ?_), hFF⟩
        · have h1 := HSRT.out
          rw [hd] at h1
          rw [h1] at hown5
          have h2 : (D.map (·.2)).length = (sGone now (xs.map (·.2))).length := by rw [← h1]; simp
          rw [h2] at hown5
          exact hown5
        · rw [← hd]; exact HEN.out
        · exact HSV.out.fr hf5 (fun k hk q => by have h1 := hFl.out k (hFF k hk); have h2 := hge k q; omega)
        · rw [← hb]; exact HKP.out
        · have := hge k q
          omega)
      clear hown5 hg5
      go_wp2
      go_ret
      exact HFIN.out
end Go.Proofs.Ytgfoobgkpnknmaa
