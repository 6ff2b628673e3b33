/- The reference's table: Step. (Printed by wip/tools/d5.py.) -/
import Derived.Test.YtgfoobgkpnknmaaD4
import Derived.Deep.RegionLaw
import Derived.Deep.DeepCutAuto
namespace Go.Proofs.Ytgfoobgkpnknmaa
set_option linter.unusedSimpArgs false
set_option linter.unusedVariables false
open Go.RowKit
theorem e139i : ElemInfo Try.prog 139 4 48 (.agg #[.int .i64 0, .bool false, .string ⟨#[]⟩, .string ⟨#[]⟩]) := ElemInfo.mk' (by kernel_rfl)
def RStepPost (w : World) (most last : Int) (cs : List CC) (now : Int) (e : Ending) (w' : World) : Prop :=
  ∃ v u, e = .returned (.tuple #[.agg #[.int .i64 most, .int .i64 last, v], u]) ∧ RdV w' 153 7 (cStep cs now).1.length v (rows rcell (cStep cs now).1) ∧
    RdV w' 139 4 (cStep cs now).2.length u (rows dcell (cStep cs now).2) ∧ Below w.heap.size w w'
structure RSt (w : World) (most last : Int) (cs : List CC) (A : Option Addr) (c : Nat) (o : List DD) (v : Value) (wr : World) : Prop where
  tb : Blk wr w.heap.size 90 #[.int .i64 most, .int .i64 last, .slice A cs.length c]
  rs : Blk wr (w.heap.size + 1) 90 #[.int .i64 0, .int .i64 0, .slice none 0 0]
  rd : Rd wr 153 7 cs.length A (rows rcell cs)
  le : cs.length ≤ c
  cm : c ≤ maxLen
  own : wr.ownsRow w.heap.size 139 4 v o.length (rows dcell o)
  be : Below w.heap.size w wr
  ok : ∀ x ∈ cs, CcOk x
section
variable {w wr w1 : World} {most last : Int} {cs : List CC} {A : Option Addr} {c : Nat} {o : List DD} {v v' : Value}
theorem RSt.below (H : RSt w most last cs A c o v wr) (hb : Below wr.heap.size wr w1) : RSt w most last cs A c o v w1 :=
  have f := Fr.of_below (F := fun _ => False) hb
  ⟨H.tb.fr f (fun h => h), H.rs.fr f (fun h => h), H.rd.below hb, H.le, H.cm, own_fr H.own f (fun _ _ h => h), H.be.trans (hb.mono H.be.size), H.ok⟩
theorem RSt.app (H : RSt w most last cs A c o v wr) {d : DD} (ho : w1.ownsRow w.heap.size 139 4 v' (o.length + 1) (rows dcell o ++ dcell d)) (hg : wr.grownBy w1 v.ownBlock) : RSt w most last cs A c (o ++ [d]) v' w1 := by
  have f := Fr.of_grown (F := fun k => v.ownBlock = some k) hg (fun k h => h)
  refine ⟨H.tb.fr f (own_blk_ne H.own H.tb (by decide)), H.rs.fr f (own_blk_ne H.own H.rs (by decide)), H.rd.fr f (fun gb ds fr hb e => ?_), H.le, H.cm, ?_, H.be.trans (f.to_below H.be.size (fun k hk => (H.own.lt k hk).1)), H.ok⟩
  · rcases H.own.2 with ⟨e', _⟩ | ⟨gb', cap, cur, e', _, hb', _⟩
    · rw [e'] at e; cases e
    · rw [e'] at e
      have : gb' = gb := by simpa [Value.ownBlock] using e
      subst this
      rw [hb] at hb'; injection hb' with hb'; injection hb' with _ q; exact absurd q (by decide)
  · rw [rows_snoc, List.length_append, List.length_singleton]; exact ho
/-- what is written into blocks of Calls that came later -/
theorem RSt.later (H : RSt w most last cs A c o v wr) {B : Nat} (hf : Fr (fun k => B ≤ k) wr w1) (hB : w.heap.size + 1 < B) (hA : 0 < cs.length → ∀ gb off, A = some ⟨gb, off, none⟩ → gb < B) (hv : ∀ k, v.ownBlock = some k → k < B ∨ w1.heap[k]? = wr.heap[k]?) : RSt w most last cs A c o v w1 := by
  have f2 : Fr (fun k => B ≤ k ∧ ¬ v.ownBlock = some k) wr w1 := ⟨hf.os, hf.tape, hf.output, hf.size, fun k hk hn => by
    by_cases hb : B ≤ k
    · by_cases ho : v.ownBlock = some k
      · rcases hv k ho with q | q
        · omega
        · exact q
      · exact absurd ⟨hb, ho⟩ hn
    · exact hf.block k hk hb⟩
  refine ⟨H.tb.fr hf (by omega), H.rs.fr hf (by omega), ?_, H.le, H.cm, own_fr H.own f2 (fun k hk q => q.2 hk), H.be.trans (hf.to_below H.be.size (fun k hk => by omega)), H.ok⟩
  refine ⟨H.rd.1, fun hn => ?_⟩
  obtain ⟨gb, off, ds, fr, e, hb, hc⟩ := H.rd.2 hn
  have hlt : gb < wr.heap.size := by
    rcases Nat.lt_or_ge gb wr.heap.size with hlt | hge
    · exact hlt
    · rw [Array.getElem?_eq_none hge] at hb; cases hb
  have := hA hn gb off e
  exact ⟨gb, off, ds, fr, e, (hf.block gb hlt (by omega)).trans hb, hc⟩
theorem rstep_end {cs0 : List CC} {now : Int} (H : RSt w most last cs A c o v wr) (he : cStep cs0 now = (cs, o)) :
    RStepPost w most last cs0 now (.returned (.tuple #[.agg #[.int .i64 most, .int .i64 last, .slice A cs.length c], v])) (((wr.setCell ⟨w.heap.size + 1, 0, none⟩ (.int .i64 most)).setCell ⟨w.heap.size + 1, 1, none⟩ (.int .i64 last)).setCell ⟨w.heap.size + 1, 2, none⟩ (.slice A cs.length c)) := by
  have fs : Fr (fun k => k = w.heap.size + 1) wr (((wr.setCell ⟨w.heap.size + 1, 0, none⟩ (.int .i64 most)).setCell ⟨w.heap.size + 1, 1, none⟩ (.int .i64 last)).setCell ⟨w.heap.size + 1, 2, none⟩ (.slice A cs.length c)) :=
    (((Fr.refl (fun k => k = w.heap.size + 1) wr).set (p := ⟨w.heap.size + 1, 0, none⟩) (fun _ => rfl) _).set (p := ⟨w.heap.size + 1, 1, none⟩) (fun _ => rfl) _).set (p := ⟨w.heap.size + 1, 2, none⟩) (fun _ => rfl) _
  have hnt : ∀ {T : TypeId} {gb : Nat} {ds : Array Value} {fr : Nat × Nat}, T ≠ 90 → wr.heap[gb]? = some (.cells ds T fr) → ¬ gb = w.heap.size + 1 := fun hT hb e => by
    subst e
    have := H.rs
    unfold Blk at this
    rw [hb] at this; injection this with this; injection this with _ q; exact hT q
  refine ⟨_, v, rfl, ?_, ?_, H.be.trans (fs.to_below H.be.size (fun k e => by omega))⟩
  · rw [he]
    exact ⟨A, c, rfl, H.le, H.cm, H.rd.fr fs (fun gb ds fr hb => hnt (by decide) hb)⟩
  · rw [he]
    exact RdV.of_own (own_fr H.own fs (fun k hk e => own_blk_ne H.own H.rs (by decide) (e ▸ hk)))
theorem own_ne2 {b1 b2 s1 s2 n1 n2 : Nat} {e1 e2 : TypeId} {v1 v2 : Value} {xs1 xs2 : List Value} (h1 : wr.ownsRow b1 e1 s1 v1 n1 xs1) (h2 : wr.ownsRow b2 e2 s2 v2 n2 xs2) (hne : e1 ≠ e2) {k : Nat} (hk : v1.ownBlock = some k) : v2.ownBlock ≠ some k := by
  rcases h1.2 with ⟨e, _⟩ | ⟨gb, cap, cur, e, _, hb, _⟩
  · rw [e] at hk; cases hk
  · rw [e] at hk
    have : gb = k := by simpa [Value.ownBlock] using hk
    subst this
    exact own_blk_ne (t := e1) (cs := cur) h2 hb (Ne.symm hne)
theorem RSt.lapp (H : RSt w most last cs A c o v wr) {Bl n : Nat} {vl : Value} {ls : List Value} (hg : wr.grownBy w1 vl.ownBlock) (hl : wr.ownsRow Bl 153 7 vl n ls) (hB : w.heap.size + 1 < Bl) (hA : 0 < cs.length → ∀ gb off, A = some ⟨gb, off, none⟩ → gb < Bl) : RSt w most last cs A c o v w1 := by
  have hf : Fr (fun k => vl.ownBlock = some k) wr w1 := Fr.of_grown hg fun k h => h
  refine H.later (B := Bl) (hf.mono fun k _ q => (hl.lt k q).1) hB hA (fun k hk => .inr (hf.block k (H.own.lt k hk).2 ?_))
  exact own_ne2 H.own hl (by decide) hk
theorem RSt.set9 (H : RSt w most last cs A c o v wr) {b : Nat} {ds : Array Value} (hb : Blk wr b 153 ds) (hB : w.heap.size + 1 < b) (hA : 0 < cs.length → ∀ gb off, A = some ⟨gb, off, none⟩ → gb < b) (i : Nat) (u : Value) : RSt w most last cs A c o v (wr.setCell ⟨b, i, none⟩ u) := by
  have hf : Fr (fun k => k = b) wr (wr.setCell ⟨b, i, none⟩ u) := (Fr.refl (fun k => k = b) wr).set (p := ⟨b, i, none⟩) (fun _ => rfl) _
  refine H.later (B := b) (hf.mono fun k _ q => by omega) hB hA (fun k hk => .inr (hf.block k (H.own.lt k hk).2 ?_))
  exact fun e => own_blk_ne H.own hb (by decide) (e ▸ hk)
theorem own_grown {b1 b2 s1 s2 n1 n2 : Nat} {e1 e2 : TypeId} {v1 v2 : Value} {xs1 xs2 : List Value} (h1 : wr.ownsRow b1 e1 s1 v1 n1 xs1) (h2 : wr.ownsRow b2 e2 s2 v2 n2 xs2) (hne : e1 ≠ e2) (hg : wr.grownBy w1 v2.ownBlock) : w1.ownsRow b1 e1 s1 v1 n1 xs1 :=
  own_fr h1 (Fr.of_grown (F := fun k => v2.ownBlock = some k) hg fun k h => h) fun k hk => own_ne2 h1 h2 hne hk
/-- the table is written anew -/
theorem RSt.retab (H : RSt w most last cs A c o v wr) {cs2 : List CC} {A2 : Option Addr} {c2 n2 : Nat} (hr : Rd wr 153 7 cs2.length A2 (rows rcell cs2)) (hle : cs2.length ≤ c2) (hc2 : c2 ≤ maxLen) (hok : ∀ x ∈ cs2, CcOk x) (hn : n2 = cs2.length) :
    RSt w most last cs2 A2 c2 o v (((wr.setCell ⟨w.heap.size, 0, none⟩ (.int .i64 most)).setCell ⟨w.heap.size, 1, none⟩ (.int .i64 last)).setCell ⟨w.heap.size, 2, none⟩ (.slice A2 n2 c2)) := by
  subst hn
  have fs : Fr (fun k => k = w.heap.size) wr (((wr.setCell ⟨w.heap.size, 0, none⟩ (.int .i64 most)).setCell ⟨w.heap.size, 1, none⟩ (.int .i64 last)).setCell ⟨w.heap.size, 2, none⟩ (.slice A2 cs2.length c2)) :=
    (((Fr.refl (fun k => k = w.heap.size) wr).set (p := ⟨w.heap.size, 0, none⟩) (fun _ => rfl) _).set (p := ⟨w.heap.size, 1, none⟩) (fun _ => rfl) _).set (p := ⟨w.heap.size, 2, none⟩) (fun _ => rfl) _
  have hnt : ∀ {T : TypeId} {gb : Nat} {ds : Array Value} {fr : Nat × Nat}, T ≠ 90 → wr.heap[gb]? = some (.cells ds T fr) → ¬ gb = w.heap.size := fun hT hb e => by
    subst e
    have := H.tb
    unfold Blk at this
    rw [hb] at this; injection this with this; injection this with _ q; exact hT q
  exact ⟨((H.tb.set_ 0 _).set_ 1 _).set_ 2 _, H.rs.fr fs (by omega), hr.fr fs (fun gb ds fr hb => hnt (by decide) hb), hle, hc2, own_fr H.own fs (fun k hk e => own_blk_ne H.own H.tb (by decide) (e ▸ hk)), H.be.trans (fs.to_below H.be.size (fun k e => by omega)), hok⟩
theorem after_len {cs : List CC} {j : Nat} {x : CC} (hj : j < cs.length) (hn : ¬ (x.rest < 0 ∧ cNx x.tm < 320)) : cAfter cs j x = cs.take j ++ cs.drop (j + 1) := by
  rw [after_drop hn, List.eraseIdx_eq_take_drop_succ]
theorem after_put {cs : List CC} {j : Nat} {x : CC} (hj : j < cs.length) (hn : x.rest < 0 ∧ cNx x.tm < 320) : cAfter cs j x = (cs.take j ++ [{ x with tm := x.tm + 1 }]) ++ cs.drop (j + 1) := by
  rw [after_set hn, List.set_eq_take_append_cons_drop, if_pos hj]; simp
theorem after_ok {cs : List CC} {j : Nat} {x : CC} (h : ∀ y ∈ cs, CcOk y) (hx : cs[j]? = some x) : ∀ y ∈ cAfter cs j x, CcOk y := by
  intro y hy
  have hxo := h x (List.mem_of_getElem? hx)
  unfold cAfter at hy
  split at hy
  · rename_i hn
    rcases List.mem_or_eq_of_mem_set hy with q | q
    · exact h y q
    · have hlt : x.tm ≤ 10 := (nx_lt (by exact hxo.2.2.1)).1 hn.2
      subst q
      exact ⟨hxo.1, hxo.2.1, by have := hxo.2.2.1; show 0 ≤ x.tm + 1; omega, by show x.tm + 1 ≤ 1000000; omega⟩
  · exact h y ((List.eraseIdx_sublist _ _).subset hy)
theorem after_le {cs : List CC} {j : Nat} {x : CC} (hj : j < cs.length) : (cAfter cs j x).length ≤ cs.length := by
  unfold cAfter
  split
  · rw [List.length_set]; exact Nat.le_refl _
  · exact (List.eraseIdx_sublist _ _).length_le
end
theorem topI_some {cs : List CC} {k : Nat} {c : CC} (h : cTop cs = some (k, c)) : cTopI cs = k := by unfold cTopI; rw [h]
theorem topI_none {cs : List CC} (h : cTop cs = none) : cTopI cs = -1 := by unfold cTopI; rw [h]
def Lim : Nat := 100000
def RStepRel (w : World) (most last : Int) (cs : List CC) (now : Int) (v n : Value) (wr : World) : Prop :=
  ∃ (m : Nat) (cs' : List CC) (o : List DD) (A : Option Addr) (c : Nat), m ≤ 100000 ∧ n = .int .i64 m ∧ cRun (100000 - m) cs' now o = cStep cs now ∧ cs'.length ≤ cs.length ∧ o.length ≤ m ∧ RSt w most last cs' A c o v wr
set_option maxRecDepth 100000 in
set_option maxHeartbeats 8000000 in
theorem rstep_any {w : World} {cs : List CC} {A : Option Addr} {c : Nat} (h : Rd w 153 7 cs.length A (rows rcell cs)) (hl : cs.length ≤ 1000000) (hlc : cs.length ≤ c) (hc : c ≤ maxLen) (hok : ∀ x ∈ cs, CcOk x) (most last now : Int) :
    Calls Try.prog 67 #[.agg #[.int .i64 most, .int .i64 last, .slice A cs.length c], .int .i64 now] w (RStepPost w most last cs now) := by
  have HST : Hid (RStepRel w most last cs now (.slice none 0 0) (.int .i64 0) ((w.alloc (.cells #[.int .i64 most, .int .i64 last, .slice A cs.length c] 90)).alloc (.cells #[.int .i64 0, .int .i64 0, .slice none 0 0] 90))) := Lib.hid (by
    have hB : Below w.heap.size w ((w.alloc (.cells #[.int .i64 most, .int .i64 last, .slice A cs.length c] 90)).alloc (.cells #[.int .i64 0, .int .i64 0, .slice none 0 0] 90)) := ((Below.refl _ _).alloc (Nat.le_refl _) _).alloc (by simp) _
    exact ⟨0, cs, [], A, c, by omega, rfl, rfl, Nat.le_refl _, Nat.le_refl _, (Blk.new w _ _).alloc _, Blk.new' (w.alloc _) _ _ (by simp), h.below hB, hlc, hc, ⟨rfl, .inl ⟨rfl, rfl⟩⟩, hB, hok⟩)
  clear h hlc hc hok
  go_enter Try.func67, Try.ntmps67
  go_wp2
  go_loopw [6, 7] (fun v n wr => RStepRel w most last cs now v n wr) (fun _ n _ => 100000 - (intOf n).toNat)
  case atStart => exact HST.out
  case round =>
    obtain ⟨m, cs', o, A, c, hm, rfl, hrun, hcl, hom, hS⟩ := hrel
    have HS := Lib.hid hS
    have hA1 := Lib.hid hS.le
    have hA2 := hS.cm
    by_cases hlt : m < 100000
    · have t0 := hS.tb.cell 0
      have t1 := hS.tb.cell 1
      have t2 := hS.tb.cell 2
      have HNX := Lib.hid (rnext_any hS.rd (by omega) hS.ok most last (c := c))
      clear hS
      have hmi : (m : Int) < 100000 := by omega
      have hmi0 : (0 : Int) ≤ m := by omega
      have HM : Hid (m < Lim) := Lib.hid hlt
      clear hm hlt
      obtain ⟨big, hbig⟩ : ∃ big, big = 100000 - m := ⟨_, rfl⟩
      rw [← hbig] at hrun
      have HBIG : Hid (big + m = Lim) := Lib.hid (by have := HM.out; unfold Lim at *; omega)
      have HRUN := Lib.hid hrun
      clear hbig hrun
      go_wp2_with fail
      refine (HNX.out).mono ?_
      rintro e w1 ⟨rfl, hb1⟩
      clear hmi
      have HS1 := Lib.hid (HS.out.below hb1)
      clear hb1 t0 t1 t2
      cases hT : cTop cs' with
      | none =>
        rw [topI_none hT]
        have he : cStep cs now = (cs', o) := by rw [← HRUN.out]; exact run_none hT
        have HX : Hid (RStepPost w most last cs now (.returned (.tuple #[.agg #[.int .i64 most, .int .i64 last, .slice A cs'.length c], u6])) (((w1.setCell ⟨w.heap.size + 1, 0, none⟩ (.int .i64 most)).setCell ⟨w.heap.size + 1, 1, none⟩ (.int .i64 last)).setCell ⟨w.heap.size + 1, 2, none⟩ (.slice A cs'.length c))) := Lib.hid (rstep_end HS1.out he)
        have HRES := Lib.hid HS1.out.rs
        have r0 := HS1.out.rs.cell 0
        have r1 := HS1.out.rs.cell 1
        have r2 := HS1.out.rs.cell 2
        have q0 := HS1.out.rs.frozen 0
        have q1 := HS1.out.rs.frozen 1
        have q2 := HS1.out.rs.frozen 2
        have t0 := HS1.out.tb.cell 0
        have t1 := HS1.out.tb.cell 1
        have t2 := HS1.out.tb.cell 2
        clear hT he
        go_wp2
        obtain ⟨z0, z1, z2⟩ := HRES.out.three (.int .i64 most) (.int .i64 last) (.slice A cs'.length c)
        exact bodyPost_ret (v := .tuple #[.agg #[.int .i64 most, .int .i64 last, .slice A cs'.length c], u6]) (by simp [results, Try.results67, go_sem, z0, z1, z2]) rfl HX.out
      | some kx =>
        obtain ⟨j, x⟩ := kx
        rw [topI_some hT]
        have hat := (top_spec hT).at_
        have hj : j < cs'.length := (List.getElem?_eq_some_iff.1 hat).1
        have hxj : cs'[j] = x := (List.getElem?_eq_some_iff.1 hat).2
        obtain ⟨gb, off, rfl, hgbl, hcj⟩ := rd_row rcell_len HS1.out.rd hj
        rw [hxj] at hcj
        have x0 : (0 : Int) ≤ j := by omega
        have x1 : (j : Int) < cs'.length := by omega
        have c0 : w1.cell? ⟨gb, off + j * 7, none⟩ = some (.int .i64 x.id) := hcj 0 (by omega)
        have c1 : w1.cell? ⟨gb, off + j * 7 + 1, none⟩ = some (.string x.br) := hcj 1 (by omega)
        have c2 : w1.cell? ⟨gb, off + j * 7 + 2, none⟩ = some (.int .i64 x.bg) := hcj 2 (by omega)
        have c3 : w1.cell? ⟨gb, off + j * 7 + 3, none⟩ = some (.int .i64 x.tm) := hcj 3 (by omega)
        have c4 : w1.cell? ⟨gb, off + j * 7 + 4, none⟩ = some (.int .i64 x.rest) := hcj 4 (by omega)
        have c5 : w1.cell? ⟨gb, off + j * 7 + 5, none⟩ = some (.string x.to) := hcj 5 (by omega)
        have c6 : w1.cell? ⟨gb, off + j * 7 + 6, none⟩ = some (.string x.bs) := hcj 6 (by omega)
        have HCJ := Lib.hid hcj
        have hxok := HS1.out.ok x (List.mem_of_getElem? hat)
        have HXOK := Lib.hid hxok
        have HAT := Lib.hid (rcat_any x hxok w1)
        have HTT := Lib.hid hT
        have HXJ := Lib.hid hat
        have t2 := HS1.out.tb.cell 2
        obtain ⟨hb1, hb2, ht1, ht2⟩ := hxok
        have hneg : decide ((j : Int) < 0) = false := decide_eq_false (by omega)
        clear hcj hxj hat hT
        go_wp2_with fail
        refine (HAT.out).mono ?_
        rintro e w2 ⟨rfl, hb⟩
        have HS2 := Lib.hid (HS1.out.below hb)
        have HK : Hid (∀ p v, w1.cell? p = some v → w2.cell? p = some v) := Lib.hid (fun p v h => (hb.cell (World.block_lt_of_cell? w1 _ h)).trans h)
        have hs12 := hb.size
        clear hb c0 c1 c2 c3 c4 c5 c6 t2
        by_cases hle : now < cAt x
        · have he : cStep cs now = (cs', o) := by rw [← HRUN.out]; exact run_stop HTT.out hle
          have HX : Hid (RStepPost w most last cs now (.returned (.tuple #[.agg #[.int .i64 most, .int .i64 last, .slice (some ⟨gb, off, none⟩) cs'.length c], u6])) (((w2.setCell ⟨w.heap.size + 1, 0, none⟩ (.int .i64 most)).setCell ⟨w.heap.size + 1, 1, none⟩ (.int .i64 last)).setCell ⟨w.heap.size + 1, 2, none⟩ (.slice (some ⟨gb, off, none⟩) cs'.length c))) := Lib.hid (rstep_end HS2.out he)
          have HRES := Lib.hid HS2.out.rs
          have r0 := HS2.out.rs.cell 0
          have r1 := HS2.out.rs.cell 1
          have r2 := HS2.out.rs.cell 2
          have q0 := HS2.out.rs.frozen 0
          have q1 := HS2.out.rs.frozen 1
          have q2 := HS2.out.rs.frozen 2
          have t0 := HS2.out.tb.cell 0
          have t1 := HS2.out.tb.cell 1
          have t2 := HS2.out.tb.cell 2
          clear he
          go_wp2
          obtain ⟨z0, z1, z2⟩ := HRES.out.three (.int .i64 most) (.int .i64 last) (.slice (some ⟨gb, off, none⟩) cs'.length c)
          exact bodyPost_ret (v := .tuple #[.agg #[.int .i64 most, .int .i64 last, .slice (some ⟨gb, off, none⟩) cs'.length c], u6]) (by simp [results, Try.results67, go_sem, z0, z1, z2]) rfl HX.out
        · obtain ⟨br, hbr⟩ : ∃ br, br + 1 = big := ⟨big - 1, by have := HBIG.out; have := HM.out; unfold Lim at *; omega⟩
          have hrun2 : cRun br (cAfter cs' j x) now (o ++ cDue x) = cStep cs now := by
            rw [← HRUN.out, ← hbr]; exact (run_go HTT.out hle).symm
          have HBR : Hid (br + (m + 1) = Lim) := Lib.hid (by have := HBIG.out; omega)
          clear hbr
          have HR2 := Lib.hid (show cRun br (cAfter cs' j x) now (o ++ cDue x) = cStep cs now from hrun2)
          have hle' : cAt x ≤ now := by omega
          have c0 : w2.cell? ⟨gb, off + j * 7, none⟩ = some (.int .i64 x.id) := HK.out _ _ (HCJ.out 0 (by omega))
          have c1 : w2.cell? ⟨gb, off + j * 7 + 1, none⟩ = some (.string x.br) := HK.out _ _ (HCJ.out 1 (by omega))
          have c2 : w2.cell? ⟨gb, off + j * 7 + 2, none⟩ = some (.int .i64 x.bg) := HK.out _ _ (HCJ.out 2 (by omega))
          have c3 : w2.cell? ⟨gb, off + j * 7 + 3, none⟩ = some (.int .i64 x.tm) := HK.out _ _ (HCJ.out 3 (by omega))
          have c4 : w2.cell? ⟨gb, off + j * 7 + 4, none⟩ = some (.int .i64 x.rest) := HK.out _ _ (HCJ.out 4 (by omega))
          have c5 : w2.cell? ⟨gb, off + j * 7 + 5, none⟩ = some (.string x.to) := HK.out _ _ (HCJ.out 5 (by omega))
          have c6 : w2.cell? ⟨gb, off + j * 7 + 6, none⟩ = some (.string x.bs) := HK.out _ _ (HCJ.out 6 (by omega))
          have t2 := HS2.out.tb.cell 2
          have hgb2 : gb < w2.heap.size := by omega
          have hbx : Hid (Below w2.heap.size w2 ((w2.alloc (.cells #[.int .i64 x.id, .string x.br, .int .i64 x.bg, .int .i64 x.tm, .int .i64 x.rest, .string x.to, .string x.bs] 153)).alloc (.cells #[] 153))) := Lib.hid (((Below.refl _ _).alloc (Nat.le_refl _) _).alloc (by simp) _)
          have ta2 := (HS2.out.below hbx.out).tb.cell 2
          have hoe : Hid (((w2.alloc (.cells #[.int .i64 x.id, .string x.br, .int .i64 x.bg, .int .i64 x.tm, .int .i64 x.rest, .string x.to, .string x.bs] 153)).alloc (.cells #[] 153)).ownsRow w2.heap.size 153 7 (.slice (some ⟨w2.heap.size + 1, 0, none⟩) 0 0) 0 []) := Lib.hid (own_empty (Blk.new' (w2.alloc _) _ _ (by simp)) (by omega))
          have hrt : Hid (Rd ((w2.alloc (.cells #[.int .i64 x.id, .string x.br, .int .i64 x.bg, .int .i64 x.tm, .int .i64 x.rest, .string x.to, .string x.bs] 153)).alloc (.cells #[] 153)) 153 7 j (some ⟨gb, off, none⟩) (rows rcell (cs'.take j))) := Lib.hid (rd_take rcell_len (HS2.out.rd.below hbx.out) (by omega))
          have hxb : Hid (Blk ((w2.alloc (.cells #[.int .i64 x.id, .string x.br, .int .i64 x.bg, .int .i64 x.tm, .int .i64 x.rest, .string x.to, .string x.bs] 153)).alloc (.cells #[] 153)) w2.heap.size 153 #[.int .i64 x.id, .string x.br, .int .i64 x.bg, .int .i64 x.tm, .int .i64 x.rest, .string x.to, .string x.bs]) := Lib.hid ((Blk.new w2 _ _).alloc _)
          have y1 : (j : Int) ≤ c := by have := hA1.out; omega
          have y2 : (cs'.length : Int) ≤ c := by have := hA1.out; omega
          clear hrun2 hle
          go_wp2_with (at_builtin; go_must (refine wpList_app_rd _ rfl (.tmp 36) (.tmp 40) 88 rfl w2.heap.size 153 7 80 _ Try.underlying88 e153i rfl (by omega) (.slice (some ⟨w2.heap.size + 1, 0, none⟩) 0 0) 0 [] rfl hoe.out _ _ _ _ rfl hrt.out (rows_one rcell_one _) (by unfold maxLen; omega) (by omega) (by simp; omega) ?_); intro v10 w4 hown4 hb4 hg4 hat4; rw [Nat.zero_add, List.nil_append] at hown4)
          have HS4 := Lib.hid (HS2.out.below (hbx.out.trans hb4))
          have hg4x : Hid (Blk w4 w2.heap.size 153 #[.int .i64 x.id, .string x.br, .int .i64 x.bg, .int .i64 x.tm, .int .i64 x.rest, .string x.to, .string x.bs]) := Lib.hid (Blk.of_grown hg4 hxb.out (by simp [Value.ownBlock]))
          have HO4 := Lib.hid hown4
          have hN10 : Hid (v10.ownBlock ≠ some w2.heap.size) := Lib.hid (by
            intro e
            rcases hat4 with q | q
            · rw [e] at q; simp [Value.ownBlock] at q <;> omega
            · rw [e] at q; injection q with q; simp at q <;> omega)
          have hs4 : w2.heap.size < w4.heap.size := hg4x.out.lt
          have hsw : w.heap.size + 1 < w2.heap.size := HS2.out.rs.lt
          have hAA : Hid (0 < cs'.length → ∀ gb' off', (some ⟨gb, off, none⟩ : Option Addr) = some ⟨gb', off', none⟩ → gb' < w2.heap.size) := Lib.hid (fun _ gb' off' e => by injection e with e; injection e with e1 e2; omega)
          have HAF := Lib.hid (after_ok HS4.out.ok HXJ.out)
          have HAL := Lib.hid (after_le (x := x) hj)
          have HALN : Hid ((cAfter cs' j x).length ≤ 1000000) := Lib.hid (by have := HAL.out; omega)
          have hnx := nx_bd x.tm
          clear hown4 hb4 hg4 hat4 hoe hrt hxb hbx c0 c1 c2 c3 c4 c5 c6 t2 ta2 y1 y2
          by_cases hr : x.rest < 0
          · have hca : cAt x = x.bg + cNx x.tm := by unfold cAt; rw [if_neg (by omega)]
            have hwsub : IntKind.i64.wrap (cAt x - x.bg) = cNx x.tm := by rw [hca, show x.bg + cNx x.tm - x.bg = cNx x.tm by omega]; exact IntWalk.i64_in _ (by omega)
            have hdr : decide (x.rest < 0) = true := decide_eq_true hr
            have hSS : Hid (∀ W', Below w4.heap.size w4 W' → W'.cell? ⟨w2.heap.size, 0, none⟩ = some (.int .i64 x.id) ∧ W'.cell? ⟨w2.heap.size, 1, none⟩ = some (.string x.br) ∧ W'.cell? ⟨w2.heap.size, 2, none⟩ = some (.int .i64 x.bg) ∧ W'.cell? ⟨w2.heap.size, 3, none⟩ = some (.int .i64 x.tm) ∧ W'.cell? ⟨w2.heap.size, 4, none⟩ = some (.int .i64 x.rest) ∧ W'.cell? ⟨w2.heap.size, 5, none⟩ = some (.string x.to) ∧ W'.cell? ⟨w2.heap.size, 6, none⟩ = some (.string x.bs)) := Lib.hid (fun W' hb' => by
              have q := hg4x.out.fr (Fr.of_below (F := fun _ => False) hb') (fun h => h)
              exact ⟨q.cell 0, q.cell 1, q.cell 2, q.cell 3, q.cell 4, q.cell 5, q.cell 6⟩)
            have HAT2 := Lib.hid (fun W => rcat_any x HXOK.out W)
            clear hca
            go_region_held3 (fun w' => w'.cell? ⟨w2.heap.size, 0, none⟩ = some (.int .i64 x.id) ∧ w'.cell? ⟨w2.heap.size, 1, none⟩ = some (.string x.br) ∧ w'.cell? ⟨w2.heap.size, 2, none⟩ = some (.int .i64 x.bg) ∧ w'.cell? ⟨w2.heap.size, 3, none⟩ = some (.int .i64 x.tm) ∧ w'.cell? ⟨w2.heap.size, 4, none⟩ = some (.int .i64 x.rest) ∧ w'.cell? ⟨w2.heap.size, 5, none⟩ = some (.string x.to) ∧ w'.cell? ⟨w2.heap.size, 6, none⟩ = some (.string x.bs))
              (first | exact hSS.out _ (Below.refl _ _) | exact hSS.out _ (Below.refl _ _).drew | exact hSS.out _ ((Below.refl _ _).drew.trans hb5))
              (first | (go_at_call 79; (with_reducible refine (HAT2.out _).mono ?_); rintro e w5 ⟨rfl, hb5⟩))
            have hb45 : Hid (Below w4.heap.size w4 w5) := Lib.hid ((Below.refl _ _).drew.trans hb5)
            have HS5 := Lib.hid (HS4.out.below hb45.out)
            have HX5 := Lib.hid (hg4x.out.fr (Fr.of_below (F := fun _ => False) hb45.out) (fun h => h))
            have HO5 := Lib.hid (own_fr HO4.out (Fr.of_below (F := fun _ => False) hb45.out) (fun _ _ h => h))
            have hs5 : w2.heap.size < w5.heap.size := HX5.out.lt
            have hoo : Hid ((w5).ownsRow w.heap.size 139 4 u6 o.length (rows dcell o)) := Lib.hid HS5.out.own
            have e0 := HX5.out.cell 0
            have e3 := HX5.out.cell 3
            have e4 := HX5.out.cell 4
            have e5 := HX5.out.cell 5
            have e6 := HX5.out.cell 6
            have hom2 : o.length + 1 ≤ 1000000 := by have := HM.out; unfold Lim at this; omega
            have hws : w.heap.size ≤ w5.heap.size := by omega
            clear hb5
            by_cases hn : cNx x.tm < 320
            · have hd1 : decide (cNx x.tm < 320) = true := decide_eq_true hn
              have HK : Hid (∀ W', w5.grownBy W' u6.ownBlock → Blk W' w2.heap.size 153 #[.int .i64 x.id, .string x.br, .int .i64 x.bg, .int .i64 x.tm, .int .i64 x.rest, .string x.to, .string x.bs]) := Lib.hid (fun W' hg => Blk.of_grown hg HX5.out (own_blk_ne hoo.out HX5.out (by decide)))
              go_wp2_with (first | (at_builtin; (refine wpList_app1' ?_ (.tmp 53) (.tmp 59) 140 ?_ w.heap.size 139 4 48 (.agg #[.int .i64 0, .bool false, .string ⟨#[]⟩, .string ⟨#[]⟩]) Try.underlying140 e139i ?_ ?_ u6 o.length (rows dcell o) ?_ ?_ [.int .i64 x.id, .bool false, .string x.to, .string x.bs] w5.heap.size ?_ ?_ ?_ ?_ ?_ ?_ ?_ ?_; all_goals (first | rfl | exact hoo.out | exact dcell_one ⟨x.id, false, x.to, x.bs⟩ | omega | (unfold maxLen; omega) | skip)); intro v6 w6 hown6 hb6 hg6 hat6; have i3 := (HK.out _ hg6).cell 3; have i3f := (HK.out _ hg6).frozen 3; have i7 := ((HK.out _ hg6).set_ 3 (.int .i64 (x.tm + 1))); have i70 := i7.cell 0; have i71 := i7.cell 1; have i72 := i7.cell 2; have i73 := i7.cell 3; have i74 := i7.cell 4; have i75 := i7.cell 5; have i76 := i7.cell 6; have HI7 := Lib.hid i7; clear i7; have HS6 := Lib.hid (HS5.out.app (d := ⟨x.id, false, x.to, x.bs⟩) hown6 hg6); have HO6 := Lib.hid (own_grown HO5.out hoo.out (by decide) hg6); have HS7 := Lib.hid (HS6.out.set9 (HK.out _ hg6) hsw hAA.out 3 (.int .i64 (x.tm + 1))); have hOL7 := Lib.hid (own_fr HO6.out ((Fr.refl (fun k => k = w2.heap.size) w6).set (p := ⟨w2.heap.size, 3, none⟩) (fun _ => rfl) (.int .i64 (x.tm + 1))) (fun k hk e => hN10.out (e ▸ hk))); have hs6 : w2.heap.size < w6.heap.size := (HK.out _ hg6).lt; have hs7 : Hid (w2.heap.size ≤ (w6.setCell ⟨w2.heap.size, 3, none⟩ (.int .i64 (x.tm + 1))).heap.size) := Lib.hid (Nat.le_of_lt HI7.out.lt)) | (at_builtin; go_must ((refine wpList_app1' ?_ (.tmp 65) (.tmp 67) 88 ?_ w2.heap.size 153 7 80 (.agg #[.int .i64 0, .string ⟨#[]⟩, .int .i64 0, .int .i64 0, .int .i64 0, .string ⟨#[]⟩, .string ⟨#[]⟩]) Try.underlying88 e153i ?_ ?_ v10 j (rows rcell (cs'.take j)) ?_ ?_ [.int .i64 x.id, .string x.br, .int .i64 x.bg, .int .i64 (x.tm + 1), .int .i64 x.rest, .string x.to, .string x.bs] w6.heap.size ?_ ?_ ?_ ?_ ?_ ?_ ?_ ?_; all_goals (first | rfl | exact hOL7.out | exact rcell_one { x with tm := x.tm + 1 } | (simp; done) | exact hs7.out | omega | (unfold maxLen; omega) | skip))); intro v11 w8 hown8 hb8 hg8 hat8))
              have hs8 : w2.heap.size ≤ w8.heap.size := Nat.le_trans hs7.out hb8.size
              obtain ⟨wl, rfl⟩ : ∃ wl, wl = w8 := ⟨_, rfl⟩
              have HSL := Lib.hid (HS7.out.lapp hg8 hOL7.out hsw hAA.out)
              have HOL : Hid (wl.ownsRow w2.heap.size 153 7 v11 (j + 1) (rows rcell (cs'.take j ++ [{ x with tm := x.tm + 1 }]))) := Lib.hid (by rw [rows_snoc]; exact hown8)
              have HSZL := Lib.hid hs8
              have HAX := Lib.hid (after_put hj ⟨by omega, hn⟩)
              have HDU : Hid (cDue x = [⟨x.id, false, x.to, x.bs⟩]) := Lib.hid (by unfold cDue; rw [if_pos (by omega), if_pos hn])
              clear hown8 hb8 hg8 hat8 hown6 hb6 hg6 hat6 i3 i3f i70 i71 i72 i73 i74 i75 i76 e0 e3 e4 e5 e6
              have t0 := HSL.out.tb.cell 0
              have t1 := HSL.out.tb.cell 1
              have t2 := HSL.out.tb.cell 2
              have k2 : (j : Int) + 1 ≤ cs'.length := by omega
              have k3 : IntKind.i64.wrap ((j : Int) + 1) = (j : Int) + 1 := IntWalk.i64_in _ (by omega)
              have k4 : ((j : Int) + 1).toNat = j + 1 := by omega
              have hRD2 : Hid (∀ A2, (¬ c = j + 1 → A2 = some ⟨gb, off + (j + 1) * 7, none⟩) → Rd wl.drew 153 7 (cs'.length - (j + 1)) A2 (rows rcell (cs'.drop (j + 1)))) := Lib.hid (fun A2 h => by
                by_cases hc1 : c = j + 1
                · have h5 := hA1.out
                  have e : cs'.drop (j + 1) = [] := List.drop_eq_nil_of_le (by omega)
                  rw [e, show cs'.length - (j + 1) = 0 by omega]
                  exact Rd.nil _ _ _ _
                · rw [h hc1]
                  have := rd_cut rcell_len HSL.out.rd (k := j + 1) (cap := c) (by omega) HSL.out.le
                  rw [if_neg hc1, show (some (⟨gb, off, none⟩ : Addr)).map (·.add ((j + 1) * 7)) = some ⟨gb, off + (j + 1) * 7, none⟩ by simp only [Option.map_some, Addr.add]; by_cases e : (j + 1) * 7 = 0 <;> simp [e]] at this
                  exact this.drewN 1)
              have HOLD : Hid (wl.drew.ownsRow w2.heap.size 153 7 v11 (j + 1) (rows rcell (cs'.take j ++ [{ x with tm := x.tm + 1 }]))) := Lib.hid HOL.out
              have hsl : Hid (w2.heap.size ≤ wl.drew.heap.size) := Lib.hid HSZL.out
              have k1 : (0 : Int) ≤ (j : Int) + 1 := by omega
              have k5 : (cs'.length : Int) ≤ c := by have := hA1.out; omega
              have k6 : (j : Int) + 1 ≤ c := by have := hA1.out; omega
              have HFT : Hid (∀ w16, wl.drew.grownBy w16 v11.ownBlock → RSt w most last cs' (some ⟨gb, off, none⟩) c (o ++ [(⟨x.id, false, x.to, x.bs⟩ : DD)]) v6 w16) := Lib.hid (fun w16 hg => HSL.out.lapp (w1 := w16) ⟨hg.os, hg.tape, hg.output, hg.size, hg.block⟩ HOL.out hsw hAA.out)
              have HNL : Hid ((j + 1) + (cs'.length - (j + 1)) = (cAfter cs' j x).length) := Lib.hid (by
                have h1 := (HOL.out).1
                rw [rows_len rcell_len] at h1
                have h2 : (cs'.take j ++ [{ x with tm := x.tm + 1 }]).length = (j + 1) := by omega
                rw [HAX.out, List.length_append, List.length_drop, h2])
              have HRB : Hid (cRun br (cAfter cs' j x) now (o ++ [(⟨x.id, false, x.to, x.bs⟩ : DD)]) = cStep cs now) := Lib.hid (by have h := HR2.out; rw [HDU.out] at h; simpa using h)
              have HOL5 : Hid ((o ++ [(⟨x.id, false, x.to, x.bs⟩ : DD)]).length ≤ m + 1) := Lib.hid (by first | omega | (simp; omega))
              have HAL2 := Lib.hid (show (cAfter cs' j x).length ≤ cs.length by have := HAL.out; omega)
              have kw : IntKind.i64.wrap ((m : Int) + 1) = (m : Int) + 1 := IntWalk.i64_in _ (by have := HM.out; unfold Lim at this; omega)
              have HREL : Hid (∀ A2 c2 W2, RSt w most last (cAfter cs' j x) A2 c2 (o ++ [(⟨x.id, false, x.to, x.bs⟩ : DD)]) v6 W2 → RStepRel w most last cs now v6 (.int .i64 ((m : Int) + 1)) W2) := Lib.hid (fun A2 c2 W2 hS2 => ⟨m + 1, cAfter cs' j x, (o ++ [(⟨x.id, false, x.to, x.bs⟩ : DD)]), A2, c2, by have := HM.out; unfold Lim at this; omega, by go_num, by have h := HBR.out; unfold Lim at h; rw [show 100000 - (m + 1) = br by omega]; exact HRB.out, HAL2.out, HOL5.out, hS2⟩)
              have HMM : Hid (m < Lim) := HM
              have hcc : c = j + 1 ∨ ¬ c = j + 1 := Classical.em _
              have hm6 : Hid ((j + 1) + (cs'.length - (j + 1)) ≤ 1000000) := Lib.hid (by have := HNL.out; have := HALN.out; omega)
              go_wp2_with fail
              rcases hcc with hcc | hcc
              all_goals
                have HCC := Lib.hid hcc
                go_region_law (first | (refine step_app_rd ?_ (.tmp 82) (.tmp 87) 88 ?_ w2.heap.size 153 7 80 (.agg #[.int .i64 0, .string ⟨#[]⟩, .int .i64 0, .int .i64 0, .int .i64 0, .string ⟨#[]⟩, .string ⟨#[]⟩]) Try.underlying88 e153i ?_ ?_ v11 (j + 1) (rows rcell (cs'.take j ++ [{ x with tm := x.tm + 1 }])) ?_ HOLD.out (some ⟨gb, off, none⟩) (cs'.length - (j + 1)) (c - (j + 1)) (rows rcell (cs'.drop (j + 1))) ?_ ?_ (rows_one rcell_one _) ?_ ?_ hsl.out ?_; rfl; rfl; rfl; omega; rfl; rfl; (exact hRD2.out _ (fun h => by first | exact absurd HCC.out h | rfl)); (have := hm6.out; unfold maxLen; omega); (have := hm6.out; omega); intro v16 w16 hown16 hb16 hg16 hat16; obtain ⟨A16, c16, e16, hc16, hm16, hr16⟩ := RdV.of_own hown16; subst e16; have s0 := (HFT.out _ hg16).tb.cell 0; have s1 := (HFT.out _ hg16).tb.cell 1; have s2 := (HFT.out _ hg16).tb.cell 2; have s3 := (HFT.out _ hg16).tb.frozen 0; have s4 := (HFT.out _ hg16).tb.frozen 1; have s5 := (HFT.out _ hg16).tb.frozen 2) | (refine step_app_rd ?_ (.tmp 82) (.tmp 87) 88 ?_ w2.heap.size 153 7 80 (.agg #[.int .i64 0, .string ⟨#[]⟩, .int .i64 0, .int .i64 0, .int .i64 0, .string ⟨#[]⟩, .string ⟨#[]⟩]) Try.underlying88 e153i ?_ ?_ v11 (j + 1) (rows rcell (cs'.take j ++ [{ x with tm := x.tm + 1 }])) ?_ HOLD.out (some ⟨gb, off + (j + 1) * 7, none⟩) (cs'.length - (j + 1)) (c - (j + 1)) (rows rcell (cs'.drop (j + 1))) ?_ ?_ (rows_one rcell_one _) ?_ ?_ hsl.out ?_; rfl; rfl; rfl; omega; rfl; rfl; (exact hRD2.out _ (fun h => by first | exact absurd HCC.out h | rfl)); (have := hm6.out; unfold maxLen; omega); (have := hm6.out; omega); intro v16 w16 hown16 hb16 hg16 hat16; obtain ⟨A16, c16, e16, hc16, hm16, hr16⟩ := RdV.of_own hown16; subst e16; have s0 := (HFT.out _ hg16).tb.cell 0; have s1 := (HFT.out _ hg16).tb.cell 1; have s2 := (HFT.out _ hg16).tb.cell 2; have s3 := (HFT.out _ hg16).tb.frozen 0; have s4 := (HFT.out _ hg16).tb.frozen 1; have s5 := (HFT.out _ hg16).tb.frozen 2) | (refine step_app_rd ?_ (.tmp 82) (.tmp 87) 88 ?_ w2.heap.size 153 7 80 (.agg #[.int .i64 0, .string ⟨#[]⟩, .int .i64 0, .int .i64 0, .int .i64 0, .string ⟨#[]⟩, .string ⟨#[]⟩]) Try.underlying88 e153i ?_ ?_ v11 (j + 1) (rows rcell (cs'.take j ++ [{ x with tm := x.tm + 1 }])) ?_ HOLD.out (some ⟨gb, off, none⟩) (cs'.length - (j + 1)) 0 (rows rcell (cs'.drop (j + 1))) ?_ ?_ (rows_one rcell_one _) ?_ ?_ hsl.out ?_; rfl; rfl; rfl; omega; rfl; rfl; (exact hRD2.out _ (fun h => by first | exact absurd HCC.out h | rfl)); (have := hm6.out; unfold maxLen; omega); (have := hm6.out; omega); intro v16 w16 hown16 hb16 hg16 hat16; obtain ⟨A16, c16, e16, hc16, hm16, hr16⟩ := RdV.of_own hown16; subst e16; have s0 := (HFT.out _ hg16).tb.cell 0; have s1 := (HFT.out _ hg16).tb.cell 1; have s2 := (HFT.out _ hg16).tb.cell 2; have s3 := (HFT.out _ hg16).tb.frozen 0; have s4 := (HFT.out _ hg16).tb.frozen 1; have s5 := (HFT.out _ hg16).tb.frozen 2))
                all_goals
                  have HXX := Lib.hid (HREL.out _ _ _ ((HFT.out _ hg16).retab (by rw [← HNL.out, HAX.out, rows_append]; exact hr16) (by rw [← HNL.out]; exact hc16) hm16 HAF.out HNL.out))
                  clear s0 s1 s2 s3 s4 s5 hown16 hr16 hg16 hb16 hat16 t0 t1 t2
                  go_wp2
                  go_roundw
                  case rel => exact HXX.out
                  case measure => have := HM.out; unfold Lim at this; simp [intOf] <;> omega
            · have hd1 : decide (cNx x.tm < 320) = false := decide_eq_false hn
              go_wp2_with (at_builtin; go_must ((refine wpList_app1' ?_ (.tmp 72) (.tmp 76) 140 ?_ w.heap.size 139 4 48 (.agg #[.int .i64 0, .bool false, .string ⟨#[]⟩, .string ⟨#[]⟩]) Try.underlying140 e139i ?_ ?_ u6 o.length (rows dcell o) ?_ ?_ [.int .i64 x.id, .bool true, .string ⟨#[]⟩, .string ⟨#[]⟩] w5.heap.size ?_ ?_ ?_ ?_ ?_ ?_ ?_ ?_; all_goals (first | rfl | exact hoo.out | exact dcell_one ⟨x.id, true, ⟨#[]⟩, ⟨#[]⟩⟩ | omega | (unfold maxLen; omega) | skip))); intro v6 wl hown6 hb6 hg6 hat6)
              have HSL := Lib.hid (HS5.out.app (d := ⟨x.id, true, ⟨#[]⟩, ⟨#[]⟩⟩) hown6 hg6)
              have HOL := Lib.hid (own_grown HO5.out hoo.out (by decide) hg6)
              have HSZL : Hid (w2.heap.size ≤ wl.heap.size) := Lib.hid (by have := hb6.size; omega)
              have HAX := Lib.hid (after_len hj (x := x) (by omega))
              have HDU : Hid (cDue x = [⟨x.id, true, ⟨#[]⟩, ⟨#[]⟩⟩]) := Lib.hid (by unfold cDue; rw [if_pos (by omega), if_neg (by omega)])
              clear hown6 hb6 hg6 hat6 e0 e3 e4 e5 e6
              have t0 := HSL.out.tb.cell 0
              have t1 := HSL.out.tb.cell 1
              have t2 := HSL.out.tb.cell 2
              have k2 : (j : Int) + 1 ≤ cs'.length := by omega
              have k3 : IntKind.i64.wrap ((j : Int) + 1) = (j : Int) + 1 := IntWalk.i64_in _ (by omega)
              have k4 : ((j : Int) + 1).toNat = j + 1 := by omega
              have hRD2 : Hid (∀ A2, (¬ c = j + 1 → A2 = some ⟨gb, off + (j + 1) * 7, none⟩) → Rd wl.drew 153 7 (cs'.length - (j + 1)) A2 (rows rcell (cs'.drop (j + 1)))) := Lib.hid (fun A2 h => by
                by_cases hc1 : c = j + 1
                · have h5 := hA1.out
                  have e : cs'.drop (j + 1) = [] := List.drop_eq_nil_of_le (by omega)
                  rw [e, show cs'.length - (j + 1) = 0 by omega]
                  exact Rd.nil _ _ _ _
                · rw [h hc1]
                  have := rd_cut rcell_len HSL.out.rd (k := j + 1) (cap := c) (by omega) HSL.out.le
                  rw [if_neg hc1, show (some (⟨gb, off, none⟩ : Addr)).map (·.add ((j + 1) * 7)) = some ⟨gb, off + (j + 1) * 7, none⟩ by simp only [Option.map_some, Addr.add]; by_cases e : (j + 1) * 7 = 0 <;> simp [e]] at this
                  exact this.drewN 1)
              have HOLD : Hid (wl.drew.ownsRow w2.heap.size 153 7 v10 j (rows rcell (cs'.take j))) := Lib.hid HOL.out
              have hsl : Hid (w2.heap.size ≤ wl.drew.heap.size) := Lib.hid HSZL.out
              have k1 : (0 : Int) ≤ (j : Int) + 1 := by omega
              have k5 : (cs'.length : Int) ≤ c := by have := hA1.out; omega
              have k6 : (j : Int) + 1 ≤ c := by have := hA1.out; omega
              have HFT : Hid (∀ w16, wl.drew.grownBy w16 v10.ownBlock → RSt w most last cs' (some ⟨gb, off, none⟩) c (o ++ [(⟨x.id, true, ⟨#[]⟩, ⟨#[]⟩⟩ : DD)]) v6 w16) := Lib.hid (fun w16 hg => HSL.out.lapp (w1 := w16) ⟨hg.os, hg.tape, hg.output, hg.size, hg.block⟩ HOL.out hsw hAA.out)
              have HNL : Hid (j + (cs'.length - (j + 1)) = (cAfter cs' j x).length) := Lib.hid (by
                have h1 := (HOL.out).1
                rw [rows_len rcell_len] at h1
                have h2 : (cs'.take j).length = j := by omega
                rw [HAX.out, List.length_append, List.length_drop, h2])
              have HRB : Hid (cRun br (cAfter cs' j x) now (o ++ [(⟨x.id, true, ⟨#[]⟩, ⟨#[]⟩⟩ : DD)]) = cStep cs now) := Lib.hid (by have h := HR2.out; rw [HDU.out] at h; simpa using h)
              have HOL5 : Hid ((o ++ [(⟨x.id, true, ⟨#[]⟩, ⟨#[]⟩⟩ : DD)]).length ≤ m + 1) := Lib.hid (by first | omega | (simp; omega))
              have HAL2 := Lib.hid (show (cAfter cs' j x).length ≤ cs.length by have := HAL.out; omega)
              have kw : IntKind.i64.wrap ((m : Int) + 1) = (m : Int) + 1 := IntWalk.i64_in _ (by have := HM.out; unfold Lim at this; omega)
              have HREL : Hid (∀ A2 c2 W2, RSt w most last (cAfter cs' j x) A2 c2 (o ++ [(⟨x.id, true, ⟨#[]⟩, ⟨#[]⟩⟩ : DD)]) v6 W2 → RStepRel w most last cs now v6 (.int .i64 ((m : Int) + 1)) W2) := Lib.hid (fun A2 c2 W2 hS2 => ⟨m + 1, cAfter cs' j x, (o ++ [(⟨x.id, true, ⟨#[]⟩, ⟨#[]⟩⟩ : DD)]), A2, c2, by have := HM.out; unfold Lim at this; omega, by go_num, by have h := HBR.out; unfold Lim at h; rw [show 100000 - (m + 1) = br by omega]; exact HRB.out, HAL2.out, HOL5.out, hS2⟩)
              have HMM : Hid (m < Lim) := HM
              have hcc : c = j + 1 ∨ ¬ c = j + 1 := Classical.em _
              have hm6 : Hid (j + (cs'.length - (j + 1)) ≤ 1000000) := Lib.hid (by have := HNL.out; have := HALN.out; omega)
              go_wp2_with fail
              rcases hcc with hcc | hcc
              all_goals
                have HCC := Lib.hid hcc
                go_region_law (first | (refine step_app_rd ?_ (.tmp 82) (.tmp 87) 88 ?_ w2.heap.size 153 7 80 (.agg #[.int .i64 0, .string ⟨#[]⟩, .int .i64 0, .int .i64 0, .int .i64 0, .string ⟨#[]⟩, .string ⟨#[]⟩]) Try.underlying88 e153i ?_ ?_ v10 j (rows rcell (cs'.take j)) ?_ HOLD.out (some ⟨gb, off, none⟩) (cs'.length - (j + 1)) (c - (j + 1)) (rows rcell (cs'.drop (j + 1))) ?_ ?_ (rows_one rcell_one _) ?_ ?_ hsl.out ?_; rfl; rfl; rfl; omega; rfl; rfl; (exact hRD2.out _ (fun h => by first | exact absurd HCC.out h | rfl)); (have := hm6.out; unfold maxLen; omega); (have := hm6.out; omega); intro v16 w16 hown16 hb16 hg16 hat16; obtain ⟨A16, c16, e16, hc16, hm16, hr16⟩ := RdV.of_own hown16; subst e16; have s0 := (HFT.out _ hg16).tb.cell 0; have s1 := (HFT.out _ hg16).tb.cell 1; have s2 := (HFT.out _ hg16).tb.cell 2; have s3 := (HFT.out _ hg16).tb.frozen 0; have s4 := (HFT.out _ hg16).tb.frozen 1; have s5 := (HFT.out _ hg16).tb.frozen 2) | (refine step_app_rd ?_ (.tmp 82) (.tmp 87) 88 ?_ w2.heap.size 153 7 80 (.agg #[.int .i64 0, .string ⟨#[]⟩, .int .i64 0, .int .i64 0, .int .i64 0, .string ⟨#[]⟩, .string ⟨#[]⟩]) Try.underlying88 e153i ?_ ?_ v10 j (rows rcell (cs'.take j)) ?_ HOLD.out (some ⟨gb, off + (j + 1) * 7, none⟩) (cs'.length - (j + 1)) (c - (j + 1)) (rows rcell (cs'.drop (j + 1))) ?_ ?_ (rows_one rcell_one _) ?_ ?_ hsl.out ?_; rfl; rfl; rfl; omega; rfl; rfl; (exact hRD2.out _ (fun h => by first | exact absurd HCC.out h | rfl)); (have := hm6.out; unfold maxLen; omega); (have := hm6.out; omega); intro v16 w16 hown16 hb16 hg16 hat16; obtain ⟨A16, c16, e16, hc16, hm16, hr16⟩ := RdV.of_own hown16; subst e16; have s0 := (HFT.out _ hg16).tb.cell 0; have s1 := (HFT.out _ hg16).tb.cell 1; have s2 := (HFT.out _ hg16).tb.cell 2; have s3 := (HFT.out _ hg16).tb.frozen 0; have s4 := (HFT.out _ hg16).tb.frozen 1; have s5 := (HFT.out _ hg16).tb.frozen 2) | (refine step_app_rd ?_ (.tmp 82) (.tmp 87) 88 ?_ w2.heap.size 153 7 80 (.agg #[.int .i64 0, .string ⟨#[]⟩, .int .i64 0, .int .i64 0, .int .i64 0, .string ⟨#[]⟩, .string ⟨#[]⟩]) Try.underlying88 e153i ?_ ?_ v10 j (rows rcell (cs'.take j)) ?_ HOLD.out (some ⟨gb, off, none⟩) (cs'.length - (j + 1)) 0 (rows rcell (cs'.drop (j + 1))) ?_ ?_ (rows_one rcell_one _) ?_ ?_ hsl.out ?_; rfl; rfl; rfl; omega; rfl; rfl; (exact hRD2.out _ (fun h => by first | exact absurd HCC.out h | rfl)); (have := hm6.out; unfold maxLen; omega); (have := hm6.out; omega); intro v16 w16 hown16 hb16 hg16 hat16; obtain ⟨A16, c16, e16, hc16, hm16, hr16⟩ := RdV.of_own hown16; subst e16; have s0 := (HFT.out _ hg16).tb.cell 0; have s1 := (HFT.out _ hg16).tb.cell 1; have s2 := (HFT.out _ hg16).tb.cell 2; have s3 := (HFT.out _ hg16).tb.frozen 0; have s4 := (HFT.out _ hg16).tb.frozen 1; have s5 := (HFT.out _ hg16).tb.frozen 2))
                all_goals
                  have HXX := Lib.hid (HREL.out _ _ _ ((HFT.out _ hg16).retab (by rw [← HNL.out, HAX.out, rows_append]; exact hr16) (by rw [← HNL.out]; exact hc16) hm16 HAF.out HNL.out))
                  clear s0 s1 s2 s3 s4 s5 hown16 hr16 hg16 hb16 hat16 t0 t1 t2
                  go_wp2
                  go_roundw
                  case rel => exact HXX.out
                  case measure => have := HM.out; unfold Lim at this; simp [intOf] <;> omega
          · have hdr : decide (x.rest < 0) = false := decide_eq_false hr
            have e4 := hg4x.out.cell 4
            go_quiet (fail)
            have HSL := Lib.hid (HS4.out.below (below_drewN (Below.refl _ _) nq))
            have HOL : Hid ((w4.drewN nq).ownsRow w2.heap.size 153 7 v10 j (rows rcell (cs'.take j))) := Lib.hid HO4.out
            have HSZL : Hid (w2.heap.size ≤ (w4.drewN nq).heap.size) := Lib.hid (Nat.le_of_lt hs4)
            have HX4 := Lib.hid (hg4x.out.drewN nq)
            clear e4
            generalize w4.drewN nq = wl at *
            have e4 := HX4.out.cell 4
            have HAX := Lib.hid (after_len hj (x := x) (by omega))
            have HDU : Hid (cDue x = []) := Lib.hid (by unfold cDue; rw [if_neg (by omega)])
            go_wp2_with fail
            clear e4
            have t0 := HSL.out.tb.cell 0
            have t1 := HSL.out.tb.cell 1
            have t2 := HSL.out.tb.cell 2
            have k2 : (j : Int) + 1 ≤ cs'.length := by omega
            have k3 : IntKind.i64.wrap ((j : Int) + 1) = (j : Int) + 1 := IntWalk.i64_in _ (by omega)
            have k4 : ((j : Int) + 1).toNat = j + 1 := by omega
            have hRD2 : Hid (∀ A2, (¬ c = j + 1 → A2 = some ⟨gb, off + (j + 1) * 7, none⟩) → Rd wl.drew 153 7 (cs'.length - (j + 1)) A2 (rows rcell (cs'.drop (j + 1)))) := Lib.hid (fun A2 h => by
              by_cases hc1 : c = j + 1
              · have h5 := hA1.out
                have e : cs'.drop (j + 1) = [] := List.drop_eq_nil_of_le (by omega)
                rw [e, show cs'.length - (j + 1) = 0 by omega]
                exact Rd.nil _ _ _ _
              · rw [h hc1]
                have := rd_cut rcell_len HSL.out.rd (k := j + 1) (cap := c) (by omega) HSL.out.le
                rw [if_neg hc1, show (some (⟨gb, off, none⟩ : Addr)).map (·.add ((j + 1) * 7)) = some ⟨gb, off + (j + 1) * 7, none⟩ by simp only [Option.map_some, Addr.add]; by_cases e : (j + 1) * 7 = 0 <;> simp [e]] at this
                exact this.drewN 1)
            have HOLD : Hid (wl.drew.ownsRow w2.heap.size 153 7 v10 j (rows rcell (cs'.take j))) := Lib.hid HOL.out
            have hsl : Hid (w2.heap.size ≤ wl.drew.heap.size) := Lib.hid HSZL.out
            have k1 : (0 : Int) ≤ (j : Int) + 1 := by omega
            have k5 : (cs'.length : Int) ≤ c := by have := hA1.out; omega
            have k6 : (j : Int) + 1 ≤ c := by have := hA1.out; omega
            have HFT : Hid (∀ w16, wl.drew.grownBy w16 v10.ownBlock → RSt w most last cs' (some ⟨gb, off, none⟩) c o u6 w16) := Lib.hid (fun w16 hg => HSL.out.lapp (w1 := w16) ⟨hg.os, hg.tape, hg.output, hg.size, hg.block⟩ HOL.out hsw hAA.out)
            have HNL : Hid (j + (cs'.length - (j + 1)) = (cAfter cs' j x).length) := Lib.hid (by
              have h1 := (HOL.out).1
              rw [rows_len rcell_len] at h1
              have h2 : (cs'.take j).length = j := by omega
              rw [HAX.out, List.length_append, List.length_drop, h2])
            have HRB : Hid (cRun br (cAfter cs' j x) now o = cStep cs now) := Lib.hid (by have h := HR2.out; rw [HDU.out] at h; simpa using h)
            have HOL5 : Hid (o.length ≤ m + 1) := Lib.hid (by first | omega | (simp; omega))
            have HAL2 := Lib.hid (show (cAfter cs' j x).length ≤ cs.length by have := HAL.out; omega)
            have kw : IntKind.i64.wrap ((m : Int) + 1) = (m : Int) + 1 := IntWalk.i64_in _ (by have := HM.out; unfold Lim at this; omega)
            have HREL : Hid (∀ A2 c2 W2, RSt w most last (cAfter cs' j x) A2 c2 o u6 W2 → RStepRel w most last cs now u6 (.int .i64 ((m : Int) + 1)) W2) := Lib.hid (fun A2 c2 W2 hS2 => ⟨m + 1, cAfter cs' j x, o, A2, c2, by have := HM.out; unfold Lim at this; omega, by go_num, by have h := HBR.out; unfold Lim at h; rw [show 100000 - (m + 1) = br by omega]; exact HRB.out, HAL2.out, HOL5.out, hS2⟩)
            have HMM : Hid (m < Lim) := HM
            have hcc : c = j + 1 ∨ ¬ c = j + 1 := Classical.em _
            have hm6 : Hid (j + (cs'.length - (j + 1)) ≤ 1000000) := Lib.hid (by have := HNL.out; have := HALN.out; omega)
            go_wp2_with fail
            rcases hcc with hcc | hcc
            all_goals
              have HCC := Lib.hid hcc
              go_region_law (first | (refine step_app_rd ?_ (.tmp 82) (.tmp 87) 88 ?_ w2.heap.size 153 7 80 (.agg #[.int .i64 0, .string ⟨#[]⟩, .int .i64 0, .int .i64 0, .int .i64 0, .string ⟨#[]⟩, .string ⟨#[]⟩]) Try.underlying88 e153i ?_ ?_ v10 j (rows rcell (cs'.take j)) ?_ HOLD.out (some ⟨gb, off, none⟩) (cs'.length - (j + 1)) (c - (j + 1)) (rows rcell (cs'.drop (j + 1))) ?_ ?_ (rows_one rcell_one _) ?_ ?_ hsl.out ?_; rfl; rfl; rfl; omega; rfl; rfl; (exact hRD2.out _ (fun h => by first | exact absurd HCC.out h | rfl)); (have := hm6.out; unfold maxLen; omega); (have := hm6.out; omega); intro v16 w16 hown16 hb16 hg16 hat16; obtain ⟨A16, c16, e16, hc16, hm16, hr16⟩ := RdV.of_own hown16; subst e16; have s0 := (HFT.out _ hg16).tb.cell 0; have s1 := (HFT.out _ hg16).tb.cell 1; have s2 := (HFT.out _ hg16).tb.cell 2; have s3 := (HFT.out _ hg16).tb.frozen 0; have s4 := (HFT.out _ hg16).tb.frozen 1; have s5 := (HFT.out _ hg16).tb.frozen 2) | (refine step_app_rd ?_ (.tmp 82) (.tmp 87) 88 ?_ w2.heap.size 153 7 80 (.agg #[.int .i64 0, .string ⟨#[]⟩, .int .i64 0, .int .i64 0, .int .i64 0, .string ⟨#[]⟩, .string ⟨#[]⟩]) Try.underlying88 e153i ?_ ?_ v10 j (rows rcell (cs'.take j)) ?_ HOLD.out (some ⟨gb, off + (j + 1) * 7, none⟩) (cs'.length - (j + 1)) (c - (j + 1)) (rows rcell (cs'.drop (j + 1))) ?_ ?_ (rows_one rcell_one _) ?_ ?_ hsl.out ?_; rfl; rfl; rfl; omega; rfl; rfl; (exact hRD2.out _ (fun h => by first | exact absurd HCC.out h | rfl)); (have := hm6.out; unfold maxLen; omega); (have := hm6.out; omega); intro v16 w16 hown16 hb16 hg16 hat16; obtain ⟨A16, c16, e16, hc16, hm16, hr16⟩ := RdV.of_own hown16; subst e16; have s0 := (HFT.out _ hg16).tb.cell 0; have s1 := (HFT.out _ hg16).tb.cell 1; have s2 := (HFT.out _ hg16).tb.cell 2; have s3 := (HFT.out _ hg16).tb.frozen 0; have s4 := (HFT.out _ hg16).tb.frozen 1; have s5 := (HFT.out _ hg16).tb.frozen 2) | (refine step_app_rd ?_ (.tmp 82) (.tmp 87) 88 ?_ w2.heap.size 153 7 80 (.agg #[.int .i64 0, .string ⟨#[]⟩, .int .i64 0, .int .i64 0, .int .i64 0, .string ⟨#[]⟩, .string ⟨#[]⟩]) Try.underlying88 e153i ?_ ?_ v10 j (rows rcell (cs'.take j)) ?_ HOLD.out (some ⟨gb, off, none⟩) (cs'.length - (j + 1)) 0 (rows rcell (cs'.drop (j + 1))) ?_ ?_ (rows_one rcell_one _) ?_ ?_ hsl.out ?_; rfl; rfl; rfl; omega; rfl; rfl; (exact hRD2.out _ (fun h => by first | exact absurd HCC.out h | rfl)); (have := hm6.out; unfold maxLen; omega); (have := hm6.out; omega); intro v16 w16 hown16 hb16 hg16 hat16; obtain ⟨A16, c16, e16, hc16, hm16, hr16⟩ := RdV.of_own hown16; subst e16; have s0 := (HFT.out _ hg16).tb.cell 0; have s1 := (HFT.out _ hg16).tb.cell 1; have s2 := (HFT.out _ hg16).tb.cell 2; have s3 := (HFT.out _ hg16).tb.frozen 0; have s4 := (HFT.out _ hg16).tb.frozen 1; have s5 := (HFT.out _ hg16).tb.frozen 2))
              all_goals
                have HXX := Lib.hid (HREL.out _ _ _ ((HFT.out _ hg16).retab (by rw [← HNL.out, HAX.out, rows_append]; exact hr16) (by rw [← HNL.out]; exact hc16) hm16 HAF.out HNL.out))
                clear s0 s1 s2 s3 s4 s5 hown16 hr16 hg16 hb16 hat16 t0 t1 t2
                go_wp2
                go_roundw
                case rel => exact HXX.out
                case measure => have := HM.out; unfold Lim at this; simp [intOf] <;> omega
    · have he : cStep cs now = (cs', o) := by rw [← hrun, show 100000 - m = 0 by omega]; rfl
      have HX : Hid (RStepPost w most last cs now (.returned (.tuple #[.agg #[.int .i64 most, .int .i64 last, .slice A cs'.length c], u6])) (((wr.setCell ⟨w.heap.size + 1, 0, none⟩ (.int .i64 most)).setCell ⟨w.heap.size + 1, 1, none⟩ (.int .i64 last)).setCell ⟨w.heap.size + 1, 2, none⟩ (.slice A cs'.length c))) := Lib.hid (rstep_end HS.out he)
      have HRES := Lib.hid HS.out.rs
      have r0 := HS.out.rs.cell 0
      have r1 := HS.out.rs.cell 1
      have r2 := HS.out.rs.cell 2
      have q0 := HS.out.rs.frozen 0
      have q1 := HS.out.rs.frozen 1
      have q2 := HS.out.rs.frozen 2
      have t0 := HS.out.tb.cell 0
      have t1 := HS.out.tb.cell 1
      have t2 := HS.out.tb.cell 2
      have hmi : ¬ (m : Int) < 100000 := by omega
      clear hS hrun he hlt hm
      go_wp2
      obtain ⟨z0, z1, z2⟩ := HRES.out.three (.int .i64 most) (.int .i64 last) (.slice A cs'.length c)
      exact bodyPost_ret (v := .tuple #[.agg #[.int .i64 most, .int .i64 last, .slice A cs'.length c], u6]) (by simp [results, Try.results67, go_sem, z0, z1, z2]) rfl HX.out
end Go.Proofs.Ytgfoobgkpnknmaa
