/- Chapter 4: rosterlaw04.turned. Chapter 4: rosterlaw04.SameOrder. -/
import Derived.Test.YtpnchfigehgkgaaDoorGs
import Derived.Test.YtpnchfigehgkgaaDoorGl
import Derived.Deep.RegionWith
namespace Go.Proofs.YtpnchfigehgkgaaDoor
set_option linter.unusedSimpArgs false
set_option linter.unusedVariables false
open Go.RowKit
structure TurnRel (l : List Par) (w : World) (k : Nat) (v : Value) (wr : World) : Prop where
  own : wr.ownsRow w.heap.size 95 3 v k (rows parC (l.reverse.take k))
  be : Below w.heap.size w wr
def TurnPost (l : List Par) (w : World) (e : Ending) (w' : World) : Prop := ∃ A c, e = .returned (.slice A l.length c) ∧ OwnP w.heap.size w' (.slice A l.length c) l.reverse ∧ Below w.heap.size w w'
theorem TurnRel.done {l : List Par} {w wr : World} {v : Value} (h : TurnRel l w l.length v wr) : TurnPost l w (.returned v) wr := by
  have ho := h.own
  rw [List.take_of_length_le (by simp)] at ho
  obtain ⟨A, c, rfl, _, _, _⟩ := RdV.of_own ho
  exact ⟨A, c, rfl, ⟨w.heap.size, Nat.le_refl _, by rw [List.length_reverse]; exact ho⟩, h.be⟩
set_option maxRecDepth 100000 in
set_option maxHeartbeats 4000000 in
theorem turned_any {l : List Par} {A : Option Addr} {c B : Nat} {w : World} (hB : B ≤ w.heap.size) (hr : RdB w B 3 l.length A (rows parC l)) (hl : l.length ≤ 200) :
    Calls Tryd.prog 34 #[.slice A l.length c] w (TurnPost l w) := by
  have HR := Lib.hid hr
  have H0 : Hid (TurnRel l w 0 (.slice none 0 0) w) := Lib.hid ⟨⟨by simp [rows], .inl ⟨rfl, rfl⟩⟩, Below.refl _ _⟩
  clear hr
  go_enter Tryd.func34, Tryd.ntmps34
  go_wp2
  go_loopw [3, 4] (fun v i wr => ∃ m : Nat, m ≤ l.length ∧ i = .int .i64 ((m : Int) - 1) ∧ TurnRel l w (l.length - m) v wr) (fun _ i _ => (intOf i + 1).toNat)
  case atStart => exact ⟨l.length, Nat.le_refl _, by first | rfl | go_num, by rw [Nat.sub_self]; exact H0.out⟩
  case round =>
    obtain ⟨m, hm, rfl, hR⟩ := hrel
    have HT := Lib.hid hR
    have HB := Lib.hid hR.be
    have hsz := hR.be.size
    by_cases h0 : 0 < m
    · obtain ⟨q, rfl⟩ : ∃ q, m = q + 1 := ⟨m - 1, by omega⟩
      have e1 : (((q + 1 : Nat) : Int) - 1) = (q : Int) := by omega
      rw [e1]
      clear e1
      have hlt : q < l.length := by omega
      have x0 : (0 : Int) ≤ q := by omega
      have x1 : (q : Int) < l.length := by omega
      obtain ⟨gb, off, rfl, hgb, zc0, zc1, zc2⟩ := PrmB.at_ (HR.out.below (hR.be.mono hB)) hlt
      have HN : Hid (∀ v4 w4, w4.ownsRow w.heap.size 95 3 v4 (l.length - (q + 1) + 1) (rows parC (l.reverse.take (l.length - (q + 1))) ++ [.string (str l[q].name), .string (str l[q].value), .bool l[q].has]) → Below w.heap.size wr w4 → TurnRel l w (l.length - q) v4 w4) := Lib.hid (fun v4 w4 a b => by
        refine ⟨?_, HB.out.trans b⟩
        have ht : l.reverse.take (l.length - q) = l.reverse.take (l.length - (q + 1)) ++ [l[q]] := by
          have h := List.take_succ_eq_append_getElem (l := l.reverse) (i := l.length - (q + 1)) (by simp; omega)
          rw [show l.length - (q + 1) + 1 = l.length - q by omega] at h
          rw [h, List.getElem_reverse]
          congr 3
          omega
        rw [ht, rows_snoc, show l.length - q = l.length - (q + 1) + 1 by omega]
        exact a)
      have hkl : l.length - (q + 1) ≤ 200 := by omega
      obtain ⟨k, hk⟩ : ∃ k, l.length - (q + 1) = k := ⟨_, rfl⟩
      have HO := Lib.hid hR.own
      rw [hk] at HO HN hkl
      clear hR hk HT
      go_wp2_with (at_builtin; (refine wpList_app1' rfl (.tmp 12) (.tmp 17) 22 rfl w.heap.size 95 3 40 _ Tryd.underlying22 e95i rfl (by omega) _ _ _ rfl HO.out [.string (str l[q].name), .string (str l[q].value), .bool l[q].has] _ rfl (by first | (simp; done) | rfl) rfl (by intro u hu; simp at hu; rcases hu with rfl | rfl | rfl <;> rfl) (by unfold maxLen; omega) (by omega) (by show w.heap.size ≤ wr.heap.size; omega) ?_); intro v4 w4 hown4 hb4 hg4 hat4)
      have HZ := Lib.hid (HN.out v4 w4 hown4 hb4)
      clear hown4 hb4 hg4 hat4
      go_roundw
      case rel => exact ⟨q, by omega, by first | rfl | go_num, HZ.out⟩
      case measure => simp [intOf] <;> omega
    · obtain rfl : m = 0 := by omega
      have HD := Lib.hid (TurnRel.done (by simpa using hR))
      clear hR HT h0
      go_wp2
      go_ret
      exact HD.out
end Go.Proofs.YtpnchfigehgkgaaDoor
namespace Go.Proofs.YtpnchfigehgkgaaDoor
set_option linter.unusedSimpArgs false
set_option linter.unusedVariables false
open Go.RowKit
def OrdP (a : Uri) (w0 wx : World) : Prop := ∃ v1 v2, Blk wx w0.heap.size 24 #[.string (str a.scheme), .string (str a.user), .string (str a.host), .int .i64 a.port, v1, v2] ∧ PrmB wx wx.heap.size v1 a.params.reverse ∧ PrmB wx wx.heap.size v2 a.headers.reverse ∧ Below w0.heap.size w0 wx
theorem ord_end {a : Uri} {w0 w4 : World} {u4 u5 v1 v2 : Value} {n m : Nat} (hk : Blk w4 w0.heap.size 24 #[.string (str a.scheme), .string (str a.user), .string (str a.host), .int .i64 a.port, u4, u5]) (h1 : OwnP n w4 v1 a.params.reverse) (h2 : OwnP m w4 v2 a.headers.reverse) (hn : w0.heap.size < n) (hm : w0.heap.size < m) (hb : Below w0.heap.size w0 w4) :
    OrdP a w0 ((w4.setCell ⟨w0.heap.size, 4, none⟩ v1).setCell ⟨w0.heap.size, 5, none⟩ v2) := by
  obtain ⟨b1, _, o1⟩ := (h1.set hn (i := 4) v1).set hn (i := 5) v2
  obtain ⟨b2, _, o2⟩ := (h2.set hm (i := 4) v1).set hm (i := 5) v2
  exact ⟨v1, v2, (hk.set_ 4 v1).set_ 5 v2, PrmB.of_own o1, PrmB.of_own o2, (hb.setCell (p := ⟨w0.heap.size, 4, none⟩) (Nat.le_refl _) _).setCell (p := ⟨w0.heap.size, 5, none⟩) (Nat.le_refl _) _⟩
set_option maxRecDepth 100000 in
set_option maxHeartbeats 8000000 in
theorem sameOrder_any {a b : Uri} {vp vh vp2 vh2 : Value} {w : World} (hp : PrmB w w.heap.size vp a.params) (hh : PrmB w w.heap.size vh a.headers) (hp2 : PrmB w w.heap.size vp2 b.params) (hh2 : PrmB w w.heap.size vh2 b.headers) (sa : UriS a) (sb : UriS b) : Calls Tryd.prog 6 #[uriV a vp vh, uriV b vp2 vh2] w (TruePost w) := by
  obtain ⟨A1, c1, rfl, hp⟩ := hp
  obtain ⟨A2, c2, rfl, hh⟩ := hh
  obtain ⟨A3, c3, rfl, hp2⟩ := hp2
  obtain ⟨A4, c4, rfl, hh2⟩ := hh2
  unfold uriV
  obtain ⟨w0, hw0⟩ : ∃ w0, (w.alloc (.cells #[.string (str a.scheme), .string (str a.user), .string (str a.host), .int .i64 a.port, .slice A1 a.params.length c1, .slice A2 a.headers.length c2] 24)).alloc (.cells #[.string (str b.scheme), .string (str b.user), .string (str b.host), .int .i64 b.port, .slice A3 b.params.length c3, .slice A4 b.headers.length c4] 24) = w0 := ⟨_, rfl⟩
  obtain ⟨hb0, hs0, hka, hkb⟩ := two_box hw0
  have HB0 := Lib.hid hb0
  have HC : Hid (∀ W, Below w0.heap.size w0 W → W.cell? ⟨w.heap.size, 0, none⟩ = some (.string (str a.scheme)) ∧ W.cell? ⟨w.heap.size, 1, none⟩ = some (.string (str a.user)) ∧ W.cell? ⟨w.heap.size, 2, none⟩ = some (.string (str a.host)) ∧ W.cell? ⟨w.heap.size, 3, none⟩ = some (.int .i64 a.port) ∧ W.cell? ⟨w.heap.size, 4, none⟩ = some (.slice A1 a.params.length c1) ∧ W.cell? ⟨w.heap.size, 5, none⟩ = some (.slice A2 a.headers.length c2) ∧ W.cell? ⟨w.heap.size + 1, 0, none⟩ = some (.string (str b.scheme)) ∧ W.cell? ⟨w.heap.size + 1, 1, none⟩ = some (.string (str b.user)) ∧ W.cell? ⟨w.heap.size + 1, 2, none⟩ = some (.string (str b.host)) ∧ W.cell? ⟨w.heap.size + 1, 3, none⟩ = some (.int .i64 b.port) ∧ W.cell? ⟨w.heap.size + 1, 4, none⟩ = some (.slice A3 b.params.length c3) ∧ W.cell? ⟨w.heap.size + 1, 5, none⟩ = some (.slice A4 b.headers.length c4)) := Lib.hid (fun W h => ⟨(hka W h).cell 0, (hka W h).cell 1, (hka W h).cell 2, (hka W h).cell 3, (hka W h).cell 4, (hka W h).cell 5, (hkb W h).cell 0, (hkb W h).cell 1, (hkb W h).cell 2, (hkb W h).cell 3, (hkb W h).cell 4, (hkb W h).cell 5⟩)
  have HSZ : Hid (∀ W, Below w0.heap.size w0 W → w.heap.size ≤ W.heap.size) := Lib.hid (fun W h => Nat.le_trans hb0.size h.size)
  have HP1 : Hid (∀ W, Below w0.heap.size w0 W → RdB W w.heap.size 3 a.params.length A1 (rows parC a.params)) := Lib.hid (fun W h => (hp.below hb0).below (h.mono hb0.size))
  have HUA : Hid (∀ W, Below w0.heap.size w0 W → UriB W w.heap.size (.agg #[.string (str a.scheme), .string (str a.user), .string (str a.host), .int .i64 a.port, .slice A1 a.params.length c1, .slice A2 a.headers.length c2]) a) := Lib.hid (fun W h => UriB.of ((hp.below hb0).below (h.mono hb0.size)) ((hh.below hb0).below (h.mono hb0.size)))
  have HUB : Hid (∀ W, Below w0.heap.size w0 W → UriB W w.heap.size (.agg #[.string (str b.scheme), .string (str b.user), .string (str b.host), .int .i64 b.port, .slice A3 b.params.length c3, .slice A4 b.headers.length c4]) b) := Lib.hid (fun W h => UriB.of ((hp2.below hb0).below (h.mono hb0.size)) ((hh2.below hb0).below (h.mono hb0.size)))
  have HA := Lib.hid awake04
  have HH1 : Hid (∀ W, Below w0.heap.size w0 W → RdB W w.heap.size 3 a.headers.length A2 (rows parC a.headers)) := Lib.hid (fun W h => (hh.below hb0).below (h.mono hb0.size))
  have SA := Lib.hid sa
  have SB := Lib.hid sb
  have HW0 := Lib.hid hw0
  clear hp hh hp2 hh2 hb0 hs0 hka hkb sa sb hw0
  obtain ⟨x0, x1, x2, x3, x4, x5, y0, y1, y2, y3, y4, y5⟩ := HC.out w0 (Below.refl _ _)
  go_enter Tryd.func6, Tryd.ntmps6
  go_upto_region 1 with (fail)
  rw [HW0.out]
  by_cases hlp : (200 : Int) < a.params.length
  · go_wp2_with fail
    refine (HA.out _).mono ?_
    rintro e w5 ⟨rfl, hb5⟩
    have HX := Lib.hid (thenB HB0.out hb5)
    clear hb5
    go_wp2
    go_ret
    exact ⟨rfl, HX.out⟩
  by_cases hlh : (200 : Int) < a.headers.length
  · go_wp2_with fail
    refine (HA.out _).mono ?_
    rintro e w5 ⟨rfl, hb5⟩
    have HX := Lib.hid (thenB HB0.out hb5)
    clear hb5
    go_wp2
    go_ret
    exact ⟨rfl, HX.out⟩
  have HT1 : Hid (∀ W, Below w0.heap.size w0 W → Calls Tryd.prog 34 #[.slice A1 a.params.length c1] W (TurnPost a.params W)) := Lib.hid (fun W h => turned_any (HSZ.out W h) (HP1.out W h) (by omega))
  have HT2 : Hid (∀ W, Below w0.heap.size w0 W → Calls Tryd.prog 34 #[.slice A2 a.headers.length c2] W (TurnPost a.headers W)) := Lib.hid (fun W h => turned_any (HSZ.out W h) (HH1.out W h) (by omega))
  go_upto_region 4 with (fail)
  obtain ⟨w1, hw1⟩ : ∃ w1, w0.alloc (.cells #[.string (str a.scheme), .string (str a.user), .string (str a.host), .int .i64 a.port, .slice A1 a.params.length c1, .slice A2 a.headers.length c2] 24) = w1 := ⟨_, rfl⟩
  have HK1 : Hid (Blk w1 w0.heap.size 24 #[.string (str a.scheme), .string (str a.user), .string (str a.host), .int .i64 a.port, .slice A1 a.params.length c1, .slice A2 a.headers.length c2]) := Lib.hid (hw1 ▸ Blk.new w0 _ _)
  have HX1 : Hid (Below w0.heap.size w0 w1) := Lib.hid (hw1 ▸ (Below.refl _ _).alloc (Nat.le_refl _) _)
  have HN1 : Hid (w0.heap.size < w1.heap.size) := Lib.hid HK1.out.lt
  rw [hw1]
  clear hw1 x0 x1 x2 x3 x4 x5 y0 y1 y2 y3 y4 y5 hlp hlh
  obtain ⟨x0, x1, x2, x3, x4, x5, y0, y1, y2, y3, y4, y5⟩ := HC.out w1 HX1.out
  go_cut [] (fun wx => OrdP a w0 wx)
  case first =>
    have HK1d : Hid (Blk w1.drew w0.heap.size 24 #[.string (str a.scheme), .string (str a.user), .string (str a.host), .int .i64 a.port, .slice A1 a.params.length c1, .slice A2 a.headers.length c2]) := Lib.hid (HK1.out.drewN 1)
    have k4 := HK1.out.cell 4
    have k5 := HK1.out.cell 5
    have j4 := HK1.out.frozen 4
    have j5 := HK1.out.frozen 5
    go_region_with ((go_at_call 34; first | ((with_reducible refine (HT1.out _ HX1.out.drew).mono ?_); rintro e w3 ⟨A5, c5, rfl, ho1, hb1⟩; have HO1 := Lib.hid ho1; have HX3 := Lib.hid (thenB HX1.out.drew hb1); have HN3 : Hid (w0.heap.size < w3.heap.size) := Lib.hid (Nat.lt_of_lt_of_le HN1.out hb1.size); have HK3 := Lib.hid (HK1d.out.fr (Fr.of_below (F := fun _ => False) hb1) (fun h => h)); clear hb1 ho1; have k4 := HK3.out.cell 4; have k5 := HK3.out.cell 5; have j4 := HK3.out.frozen 4; have j5 := HK3.out.frozen 5; obtain ⟨x0, x1, x2, x3, x4, x5, y0, y1, y2, y3, y4, y5⟩ := HC.out w3 HX3.out) | ((with_reducible refine (HT2.out _ HX1.out.drew).mono ?_); rintro e w3 ⟨A6, c6, rfl, ho2, hb1⟩; have HO2 := Lib.hid ho2; have HX3 := Lib.hid (thenB HX1.out.drew hb1); have HN3 : Hid (w0.heap.size < w3.heap.size) := Lib.hid (Nat.lt_of_lt_of_le HN1.out hb1.size); have HK3 := Lib.hid (HK1d.out.fr (Fr.of_below (F := fun _ => False) hb1) (fun h => h)); clear hb1 ho2; have k4 := HK3.out.cell 4; have k5 := HK3.out.cell 5; have j4 := HK3.out.frozen 4; have j5 := HK3.out.frozen 5; obtain ⟨x0, x1, x2, x3, x4, x5, y0, y1, y2, y3, y4, y5⟩ := HC.out w3 HX3.out) | ((with_reducible refine (HT2.out _ HX3.out).mono ?_); rintro e w4 ⟨A6, c6, rfl, ho2, hb1⟩; have HO2 := Lib.hid ho2; have HO1 := Lib.hid (HO1.out.on hb1); have HX4 := Lib.hid (thenB HX3.out hb1); have HK4 := Lib.hid (HK3.out.fr (Fr.of_below (F := fun _ => False) hb1) (fun h => h)); clear hb1 ho2; have k4 := HK4.out.cell 4; have k5 := HK4.out.cell 5; have j4 := HK4.out.frozen 4; have j5 := HK4.out.frozen 5; obtain ⟨x0, x1, x2, x3, x4, x5, y0, y1, y2, y3, y4, y5⟩ := HC.out w4 HX4.out) | ((with_reducible refine (HT1.out _ HX3.out).mono ?_); rintro e w4 ⟨A5, c5, rfl, ho1, hb1⟩; have HO1 := Lib.hid ho1; have HO2 := Lib.hid (HO2.out.on hb1); have HX4 := Lib.hid (thenB HX3.out hb1); have HK4 := Lib.hid (HK3.out.fr (Fr.of_below (F := fun _ => False) hb1) (fun h => h)); clear hb1 ho1; have k4 := HK4.out.cell 4; have k5 := HK4.out.cell 5; have j4 := HK4.out.frozen 4; have j5 := HK4.out.frozen 5; obtain ⟨x0, x1, x2, x3, x4, x5, y0, y1, y2, y3, y4, y5⟩ := HC.out w4 HX4.out)))
    all_goals
      go_wp2_with fail
      go_meet
      first | exact ord_end HK4.out HO1.out HO2.out HN1.out HN3.out HX4.out | exact ord_end HK4.out HO1.out HO2.out HN3.out HN1.out HX4.out
  case rest =>
    obtain ⟨v1, v2, hk, h1, h2, hbx⟩ := hcut
    obtain ⟨wx, hwx⟩ : ∃ wx, wx = wc := ⟨_, rfl⟩
    subst hwx
    obtain ⟨A5, c5, rfl, h1⟩ := h1
    obtain ⟨A6, c6, rfl, h2⟩ := h2
    have HBX := Lib.hid hbx
    have HCX : Hid (∀ W, Below wx.heap.size wx W → (W.cell? ⟨w.heap.size, 0, none⟩ = some (.string (str a.scheme)) ∧ W.cell? ⟨w.heap.size, 1, none⟩ = some (.string (str a.user)) ∧ W.cell? ⟨w.heap.size, 2, none⟩ = some (.string (str a.host)) ∧ W.cell? ⟨w.heap.size, 3, none⟩ = some (.int .i64 a.port) ∧ W.cell? ⟨w.heap.size, 4, none⟩ = some (.slice A1 a.params.length c1) ∧ W.cell? ⟨w.heap.size, 5, none⟩ = some (.slice A2 a.headers.length c2) ∧ W.cell? ⟨w.heap.size + 1, 0, none⟩ = some (.string (str b.scheme)) ∧ W.cell? ⟨w.heap.size + 1, 1, none⟩ = some (.string (str b.user)) ∧ W.cell? ⟨w.heap.size + 1, 2, none⟩ = some (.string (str b.host)) ∧ W.cell? ⟨w.heap.size + 1, 3, none⟩ = some (.int .i64 b.port) ∧ W.cell? ⟨w.heap.size + 1, 4, none⟩ = some (.slice A3 b.params.length c3) ∧ W.cell? ⟨w.heap.size + 1, 5, none⟩ = some (.slice A4 b.headers.length c4)) ∧ W.cell? ⟨w0.heap.size, 0, none⟩ = some (.string (str a.scheme)) ∧ W.cell? ⟨w0.heap.size, 1, none⟩ = some (.string (str a.user)) ∧ W.cell? ⟨w0.heap.size, 2, none⟩ = some (.string (str a.host)) ∧ W.cell? ⟨w0.heap.size, 3, none⟩ = some (.int .i64 a.port) ∧ W.cell? ⟨w0.heap.size, 4, none⟩ = some (.slice A5 a.params.reverse.length c5) ∧ W.cell? ⟨w0.heap.size, 5, none⟩ = some (.slice A6 a.headers.reverse.length c6)) := Lib.hid (fun W h => by
      obtain ⟨x0, x1, x2, x3, x4, x5, y0, y1, y2, y3, y4, y5⟩ := HC.out W (thenB hbx h)
      have kk := hk.fr (Fr.of_below (F := fun _ => False) h) (fun h => h)
      exact ⟨⟨x0, x1, x2, x3, x4, x5, y0, y1, y2, y3, y4, y5⟩, kk.cell 0, kk.cell 1, kk.cell 2, kk.cell 3, kk.cell 4, kk.cell 5⟩)
    have HUC : Hid (∀ W, Below wx.heap.size wx W → UriB W wx.heap.size (.agg #[.string (str a.scheme), .string (str a.user), .string (str a.host), .int .i64 a.port, .slice A5 a.params.reverse.length c5, .slice A6 a.headers.reverse.length c6]) (turnU a)) := Lib.hid (fun W h => UriB.of (u := turnU a) (h1.below h) (h2.below h))
    have HUA2 : Hid (∀ W, Below wx.heap.size wx W → UriB W wx.heap.size (.agg #[.string (str a.scheme), .string (str a.user), .string (str a.host), .int .i64 a.port, .slice A1 a.params.length c1, .slice A2 a.headers.length c2]) a) := Lib.hid (fun W h => (HUA.out W (thenB hbx h)).up (HSZ.out _ hbx))
    have HUB2 : Hid (∀ W, Below wx.heap.size wx W → UriB W wx.heap.size (.agg #[.string (str b.scheme), .string (str b.user), .string (str b.host), .int .i64 b.port, .slice A3 b.params.length c3, .slice A4 b.headers.length c4]) b) := Lib.hid (fun W h => (HUB.out W (thenB hbx h)).up (HSZ.out _ hbx))
    have hst : UriS (turnU a) := by
      have sa := SA.out
      exact ⟨sa.scheme, sa.user, sa.host, sa.port, by show a.params.reverse.length ≤ _; rw [List.length_reverse]; exact sa.params, by show a.headers.reverse.length ≤ _; rw [List.length_reverse]; exact sa.headers, fun p hp => sa.par p (List.mem_reverse.1 hp), fun p hp => sa.hdr p (List.mem_reverse.1 hp)⟩
    have HAB : Hid (∀ W, Below wx.heap.size wx W → Calls Tryd.prog 31 #[.agg #[.string (str a.scheme), .string (str a.user), .string (str a.host), .int .i64 a.port, .slice A1 a.params.length c1, .slice A2 a.headers.length c2], .agg #[.string (str b.scheme), .string (str b.user), .string (str b.host), .int .i64 b.port, .slice A3 b.params.length c3, .slice A4 b.headers.length c4]] W (fun e w' => e = .returned (.bool (equalB a b)) ∧ Below W.heap.size W w')) := Lib.hid (fun W h => Equal_any (a := a) (b := b) h.size (HUA2.out W h) (HUB2.out W h) SA.out SB.out)
    have HCB : Hid (∀ W, Below wx.heap.size wx W → Calls Tryd.prog 31 #[.agg #[.string (str a.scheme), .string (str a.user), .string (str a.host), .int .i64 a.port, .slice A5 a.params.reverse.length c5, .slice A6 a.headers.reverse.length c6], .agg #[.string (str b.scheme), .string (str b.user), .string (str b.host), .int .i64 b.port, .slice A3 b.params.length c3, .slice A4 b.headers.length c4]] W (fun e w' => e = .returned (.bool (equalB a b)) ∧ Below W.heap.size W w')) := Lib.hid (fun W h => by
      rw [equal_order a b]
      exact Equal_any (a := turnU a) (b := b) h.size (HUC.out W h) (HUB2.out W h) hst SB.out)
    have HAC : Hid (checkE a = 0 → ∀ W, Below wx.heap.size wx W → Calls Tryd.prog 31 #[.agg #[.string (str a.scheme), .string (str a.user), .string (str a.host), .int .i64 a.port, .slice A1 a.params.length c1, .slice A2 a.headers.length c2], .agg #[.string (str a.scheme), .string (str a.user), .string (str a.host), .int .i64 a.port, .slice A5 a.params.reverse.length c5, .slice A6 a.headers.reverse.length c6]] W (fun e w' => e = .returned (.bool true) ∧ Below W.heap.size W w')) := Lib.hid (fun hz W h => by
      rw [← equal_turned hz]
      exact Equal_any (a := a) (b := turnU a) h.size (HUA2.out W h) (HUC.out W h) SA.out hst)
    have HCK : Hid (∀ W, Below wx.heap.size wx W → Calls Tryd.prog 32 #[.agg #[.string (str a.scheme), .string (str a.user), .string (str a.host), .int .i64 a.port, .slice A1 a.params.length c1, .slice A2 a.headers.length c2]] W (fun e w' => e = .returned (.int .i64 (checkE a)) ∧ Below W.heap.size W w')) := Lib.hid (fun W h => by
      obtain ⟨v1, v2, hv, h1, h2⟩ := HUA2.out W h
      rw [hv]
      exact Check_any (u := a) h.size h1 h2 SA.out)
    generalize equalB a b = R at *
    generalize a.params.reverse.length = n5 at *
    generalize a.headers.reverse.length = n6 at *
    generalize checkE a = K at *
    clear h1 h2 hk hbx hst x0 x1 x2 x3 x4 x5 y0 y1 y2 y3 y4 y5 HUA HUB HUA2 HUB2 HUC HP1 HH1 HT1 HT2 HX1 HN1 HK1 HC SA SB HSZ
    have HB1 : Hid (Below wx.heap.size wx wx) := Lib.hid (Below.refl _ _)
    have qR : (R == R) = true := beq_self_eq_true _
    by_cases hK : K = 0
    · replace HAC := Lib.hid (HAC.out hK)
      subst hK
      go_wp2_with fail
      go_region_held3 (fun w' => (w'.cell? ⟨w.heap.size, 0, none⟩ = some (.string (str a.scheme)) ∧ w'.cell? ⟨w.heap.size, 1, none⟩ = some (.string (str a.user)) ∧ w'.cell? ⟨w.heap.size, 2, none⟩ = some (.string (str a.host)) ∧ w'.cell? ⟨w.heap.size, 3, none⟩ = some (.int .i64 a.port) ∧ w'.cell? ⟨w.heap.size, 4, none⟩ = some (.slice A1 a.params.length c1) ∧ w'.cell? ⟨w.heap.size, 5, none⟩ = some (.slice A2 a.headers.length c2) ∧ w'.cell? ⟨w.heap.size + 1, 0, none⟩ = some (.string (str b.scheme)) ∧ w'.cell? ⟨w.heap.size + 1, 1, none⟩ = some (.string (str b.user)) ∧ w'.cell? ⟨w.heap.size + 1, 2, none⟩ = some (.string (str b.host)) ∧ w'.cell? ⟨w.heap.size + 1, 3, none⟩ = some (.int .i64 b.port) ∧ w'.cell? ⟨w.heap.size + 1, 4, none⟩ = some (.slice A3 b.params.length c3) ∧ w'.cell? ⟨w.heap.size + 1, 5, none⟩ = some (.slice A4 b.headers.length c4)) ∧ w'.cell? ⟨w0.heap.size, 0, none⟩ = some (.string (str a.scheme)) ∧ w'.cell? ⟨w0.heap.size, 1, none⟩ = some (.string (str a.user)) ∧ w'.cell? ⟨w0.heap.size, 2, none⟩ = some (.string (str a.host)) ∧ w'.cell? ⟨w0.heap.size, 3, none⟩ = some (.int .i64 a.port) ∧ w'.cell? ⟨w0.heap.size, 4, none⟩ = some (.slice A5 n5 c5) ∧ w'.cell? ⟨w0.heap.size, 5, none⟩ = some (.slice A6 n6 c6))
        (first | exact HCX.out _ HX.out | exact HCX.out _ HB1.out | exact HCX.out _ HB1.out.drew)
        (first | (go_at_call 31; first | ((with_reducible refine (HAB.out _ HX.out).mono ?_); rintro e wn ⟨rfl, hbn⟩; have HX := Lib.hid (thenB HX.out hbn); clear hbn) | ((with_reducible refine (HAB.out _ HB1.out.drew).mono ?_); rintro e wn ⟨rfl, hbn⟩; have HX := Lib.hid (thenB HB1.out.drew hbn); clear hbn) | ((with_reducible refine (HCB.out _ HX.out).mono ?_); rintro e wn ⟨rfl, hbn⟩; have HX := Lib.hid (thenB HX.out hbn); clear hbn) | ((with_reducible refine (HCB.out _ HB1.out.drew).mono ?_); rintro e wn ⟨rfl, hbn⟩; have HX := Lib.hid (thenB HB1.out.drew hbn); clear hbn) | ((with_reducible refine (HAC.out _ HX.out).mono ?_); rintro e wn ⟨rfl, hbn⟩; have HX := Lib.hid (thenB HX.out hbn); clear hbn) | ((with_reducible refine (HAC.out _ HB1.out.drew).mono ?_); rintro e wn ⟨rfl, hbn⟩; have HX := Lib.hid (thenB HB1.out.drew hbn); clear hbn)) | (go_at_call 32; first | ((with_reducible refine (HCK.out _ HX.out).mono ?_); rintro e wn ⟨rfl, hbn⟩; have HX := Lib.hid (thenB HX.out hbn); clear hbn) | ((with_reducible refine (HCK.out _ HB1.out.drew).mono ?_); rintro e wn ⟨rfl, hbn⟩; have HX := Lib.hid (thenB HB1.out.drew hbn); clear hbn)) | (go_at_call 33; (with_reducible refine (HA.out _).mono ?_); rintro e wz ⟨rfl, hbz⟩; have HX := Lib.hid (thenB HX.out hbz); clear hbz))
      all_goals
        go_wp2
        go_ret
        exact ⟨rfl, thenB (thenB HB0.out HBX.out) HX.out⟩
    · have qK : (K != 0) = true := by simpa using hK
      have qK2 : (K == 0) = false := by simpa using hK
      clear HAC
      go_wp2_with fail
      refine wp_region_held_drew (S := (fun w' => (w'.cell? ⟨w.heap.size, 0, none⟩ = some (.string (str a.scheme)) ∧ w'.cell? ⟨w.heap.size, 1, none⟩ = some (.string (str a.user)) ∧ w'.cell? ⟨w.heap.size, 2, none⟩ = some (.string (str a.host)) ∧ w'.cell? ⟨w.heap.size, 3, none⟩ = some (.int .i64 a.port) ∧ w'.cell? ⟨w.heap.size, 4, none⟩ = some (.slice A1 a.params.length c1) ∧ w'.cell? ⟨w.heap.size, 5, none⟩ = some (.slice A2 a.headers.length c2) ∧ w'.cell? ⟨w.heap.size + 1, 0, none⟩ = some (.string (str b.scheme)) ∧ w'.cell? ⟨w.heap.size + 1, 1, none⟩ = some (.string (str b.user)) ∧ w'.cell? ⟨w.heap.size + 1, 2, none⟩ = some (.string (str b.host)) ∧ w'.cell? ⟨w.heap.size + 1, 3, none⟩ = some (.int .i64 b.port) ∧ w'.cell? ⟨w.heap.size + 1, 4, none⟩ = some (.slice A3 b.params.length c3) ∧ w'.cell? ⟨w.heap.size + 1, 5, none⟩ = some (.slice A4 b.headers.length c4)) ∧ w'.cell? ⟨w0.heap.size, 0, none⟩ = some (.string (str a.scheme)) ∧ w'.cell? ⟨w0.heap.size, 1, none⟩ = some (.string (str a.user)) ∧ w'.cell? ⟨w0.heap.size, 2, none⟩ = some (.string (str a.host)) ∧ w'.cell? ⟨w0.heap.size, 3, none⟩ = some (.int .i64 a.port) ∧ w'.cell? ⟨w0.heap.size, 4, none⟩ = some (.slice A5 n5 c5) ∧ w'.cell? ⟨w0.heap.size, 5, none⟩ = some (.slice A6 n6 c6))) (by kernel_rfl) (HCX.out _ HB1.out.drew) (fun hHeld => ?_)
      refine wpAnyH_take (i := 0) (v := .agg #[.string (str a.scheme), .string (str a.user), .string (str a.host), .int .i64 a.port, .slice A1 a.params.length c1, .slice A2 a.headers.length c2]) rfl (by kernel_rfl) (by kernel_rfl) (by kernel_rfl) (fun _ _ _ h => h) (Or.inl ⟨by rfl, ?_⟩) hHeld ?_
      · intro w hSw; (try dsimp only at hSw); go_simp
      try simp only [Act.put, List.getElem_toArray, List.getElem_cons_zero, List.getElem_cons_succ, List.setIfInBounds_toArray, List.set_cons_zero, List.set_cons_succ]
      refine wpAnyH_take (i := 1) (v := .agg #[.string (str b.scheme), .string (str b.user), .string (str b.host), .int .i64 b.port, .slice A3 b.params.length c3, .slice A4 b.headers.length c4]) rfl (by kernel_rfl) (by kernel_rfl) (by kernel_rfl) (fun _ _ _ h => h) (Or.inl ⟨by rfl, ?_⟩) hHeld ?_
      · intro w hSw; (try dsimp only at hSw); go_simp
      try simp only [Act.put, List.getElem_toArray, List.getElem_cons_zero, List.getElem_cons_succ, List.setIfInBounds_toArray, List.set_cons_zero, List.set_cons_succ]
      refine wpAnyH_take (i := 3) (v := .agg #[.string (str a.scheme), .string (str a.user), .string (str a.host), .int .i64 a.port, .slice A5 n5 c5, .slice A6 n6 c6]) rfl (by kernel_rfl) (by kernel_rfl) (by kernel_rfl) (fun _ _ _ h => h) (Or.inl ⟨by rfl, ?_⟩) hHeld ?_
      · intro w hSw; (try dsimp only at hSw); go_simp
      try simp only [Act.put, List.getElem_toArray, List.getElem_cons_zero, List.getElem_cons_succ, List.setIfInBounds_toArray, List.set_cons_zero, List.set_cons_succ]
      refine wpAnyH_take (i := 4) (v := .agg #[.string (str b.scheme), .string (str b.user), .string (str b.host), .int .i64 b.port, .slice A3 b.params.length c3, .slice A4 b.headers.length c4]) rfl (by kernel_rfl) (by kernel_rfl) (by kernel_rfl) (fun _ _ _ h => h) (Or.inl ⟨by rfl, ?_⟩) hHeld ?_
      · intro w hSw; (try dsimp only at hSw); go_simp
      try simp only [Act.put, List.getElem_toArray, List.getElem_cons_zero, List.getElem_cons_succ, List.setIfInBounds_toArray, List.set_cons_zero, List.set_cons_succ]
      refine wpAnyH_ready (rs := [2]) (by kernel_rfl) (by simp) ?_
      refine AllReadyH.cons rfl (fun K' hK' => ?_) AllReadyH.nil
      go_simp
      go_at_call 31
      refine (HAB.out _ HB1.out.drew).mono ?_
      rintro e wn ⟨rfl, hbn⟩
      have HX := Lib.hid (thenB HB1.out.drew hbn)
      clear hbn hHeld
      go_wp2_with fail
      refine hK'.out _ _ (HCX.out _ HX.out) (fun hHeld => ?_)
      clear hK' K'
      try simp only [Act.put, List.getElem_toArray, List.getElem_cons_zero, List.getElem_cons_succ, List.setIfInBounds_toArray, List.set_cons_zero, List.set_cons_succ]
      refine wpAnyH_ready (rs := [5]) (by kernel_rfl) (by simp) ?_
      refine AllReadyH.cons rfl (fun K' hK' => ?_) AllReadyH.nil
      go_simp
      go_at_call 31
      refine (HCB.out _ HX.out).mono ?_
      rintro e wm ⟨rfl, hbn⟩
      replace HX := Lib.hid (thenB HX.out hbn)
      clear hbn hHeld
      go_wp2_with fail
      refine hK'.out _ _ (HCX.out _ HX.out) (fun hHeld => ?_)
      clear hK' K'
      try simp only [Act.put, List.getElem_toArray, List.getElem_cons_zero, List.getElem_cons_succ, List.setIfInBounds_toArray, List.set_cons_zero, List.set_cons_succ]
      refine wpAnyH_take (i := 6) (v := .bool true) rfl (by kernel_rfl) (by kernel_rfl) (by kernel_rfl) (fun _ _ _ h => h) (Or.inl ⟨by rfl, ?_⟩) hHeld ?_
      · intro w hSw; (try dsimp only at hSw); go_simp
      try simp only [Act.put, List.getElem_toArray, List.getElem_cons_zero, List.getElem_cons_succ, List.setIfInBounds_toArray, List.set_cons_zero, List.set_cons_succ]
      refine wpAnyH_take (i := 7) (v := .bool true) rfl (by kernel_rfl) (by kernel_rfl) (by kernel_rfl) (fun _ _ _ h => h) (Or.inl ⟨by rfl, ?_⟩) hHeld ?_
      · intro w hSw; (try dsimp only at hSw); go_simp
      try simp only [Act.put, List.getElem_toArray, List.getElem_cons_zero, List.getElem_cons_succ, List.setIfInBounds_toArray, List.set_cons_zero, List.set_cons_succ]
      refine wpAnyH_take (i := 8) (v := .agg #[.string (str a.scheme), .string (str a.user), .string (str a.host), .int .i64 a.port, .slice A1 a.params.length c1, .slice A2 a.headers.length c2]) rfl (by kernel_rfl) (by kernel_rfl) (by kernel_rfl) (fun _ _ _ h => h) (Or.inl ⟨by rfl, ?_⟩) hHeld ?_
      · intro w hSw; (try dsimp only at hSw); go_simp
      try simp only [Act.put, List.getElem_toArray, List.getElem_cons_zero, List.getElem_cons_succ, List.setIfInBounds_toArray, List.set_cons_zero, List.set_cons_succ]
      refine wpAnyH_ready (rs := [9]) (by kernel_rfl) (by simp) ?_
      refine AllReadyH.cons rfl (fun K' hK' => ?_) AllReadyH.nil
      go_simp
      go_at_call 32
      refine (HCK.out _ HX.out).mono ?_
      rintro e wl ⟨rfl, hbn⟩
      replace HX := Lib.hid (thenB HX.out hbn)
      clear hbn hHeld
      go_wp2_with fail
      refine hK'.out _ _ (HCX.out _ HX.out) (fun hHeld => ?_)
      clear hK' K'
      try simp only [Act.put, List.getElem_toArray, List.getElem_cons_zero, List.getElem_cons_succ, List.setIfInBounds_toArray, List.set_cons_zero, List.set_cons_succ]
      refine wpAnyH_take (i := 10) (v := .bool true) rfl (by kernel_rfl) (by kernel_rfl) (by kernel_rfl) (fun _ _ _ h => h) (Or.inl ⟨by rfl, ?_⟩) hHeld ?_
      · intro w hSw; (try dsimp only at hSw); go_simp
      try simp only [Act.put, List.getElem_toArray, List.getElem_cons_zero, List.getElem_cons_succ, List.setIfInBounds_toArray, List.set_cons_zero, List.set_cons_succ]
      refine wpAnyH_take (i := 11) (v := .bool true) rfl (by kernel_rfl) (by kernel_rfl) (by kernel_rfl) (fun _ _ _ h => h) (Or.inl ⟨by rfl, ?_⟩) hHeld ?_
      · intro w hSw; (try dsimp only at hSw); go_simp
      try simp only [Act.put, List.getElem_toArray, List.getElem_cons_zero, List.getElem_cons_succ, List.setIfInBounds_toArray, List.set_cons_zero, List.set_cons_succ]
      refine wpAnyH_take (i := 12) (v := undef) rfl (by kernel_rfl) (by kernel_rfl) (by kernel_rfl) (fun _ _ _ h => h) (Or.inr ⟨by rfl, rfl⟩) hHeld ?_
      try simp only [Act.put, List.getElem_toArray, List.getElem_cons_zero, List.getElem_cons_succ, List.setIfInBounds_toArray, List.set_cons_zero, List.set_cons_succ]
      refine wpAnyH_take (i := 13) (v := undef) rfl (by kernel_rfl) (by kernel_rfl) (by kernel_rfl) (fun _ _ _ h => h) (Or.inr ⟨by rfl, rfl⟩) hHeld ?_
      try simp only [Act.put, List.getElem_toArray, List.getElem_cons_zero, List.getElem_cons_succ, List.setIfInBounds_toArray, List.set_cons_zero, List.set_cons_succ]
      refine wpAnyH_ready (rs := [14]) (by kernel_rfl) (by simp) ?_
      refine AllReadyH.cons rfl (fun K' hK' => ?_) AllReadyH.nil
      go_simp
      refine hK'.out _ _ (HCX.out _ HX.out) (fun hHeld => ?_)
      clear hK' K'
      try simp only [Act.put, List.getElem_toArray, List.getElem_cons_zero, List.getElem_cons_succ, List.setIfInBounds_toArray, List.set_cons_zero, List.set_cons_succ]
      refine wpAnyH_take (i := 15) (v := .bool true) rfl (by kernel_rfl) (by kernel_rfl) (by kernel_rfl) (fun _ _ _ h => h) (Or.inl ⟨by rfl, ?_⟩) hHeld ?_
      · intro w hSw; (try dsimp only at hSw); go_simp
      try simp only [Act.put, List.getElem_toArray, List.getElem_cons_zero, List.getElem_cons_succ, List.setIfInBounds_toArray, List.set_cons_zero, List.set_cons_succ]
      refine wpAnyH_take (i := 16) (v := .bool true) rfl (by kernel_rfl) (by kernel_rfl) (by kernel_rfl) (fun _ _ _ h => h) (Or.inl ⟨by rfl, ?_⟩) hHeld ?_
      · intro w hSw; (try dsimp only at hSw); go_simp
      try simp only [Act.put, List.getElem_toArray, List.getElem_cons_zero, List.getElem_cons_succ, List.setIfInBounds_toArray, List.set_cons_zero, List.set_cons_succ]
      refine wpAnyH_take (i := 17) (v := .bool true) rfl (by kernel_rfl) (by kernel_rfl) (by kernel_rfl) (fun _ _ _ h => h) (Or.inl ⟨by rfl, ?_⟩) hHeld ?_
      · intro w hSw; (try dsimp only at hSw); go_simp
      try simp only [Act.put, List.getElem_toArray, List.getElem_cons_zero, List.getElem_cons_succ, List.setIfInBounds_toArray, List.set_cons_zero, List.set_cons_succ]
      refine wpAnyH_ready (rs := [18]) (by kernel_rfl) (by simp) ?_
      refine AllReadyH.cons rfl (fun K' hK' => ?_) AllReadyH.nil
      go_simp
      go_at_call 33
      refine (HA.out _).mono ?_
      rintro e wz ⟨rfl, hbn⟩
      replace HX := Lib.hid (thenB HX.out hbn)
      clear hbn hHeld
      go_wp2_with fail
      refine hK'.out _ _ (HCX.out _ HX.out) (fun hHeld => ?_)
      clear hK' K'
      try simp only [Act.put, List.getElem_toArray, List.getElem_cons_zero, List.getElem_cons_succ, List.setIfInBounds_toArray, List.set_cons_zero, List.set_cons_succ]
      refine wpAnyH_take (i := 19) (v := .bool true) rfl (by kernel_rfl) (by kernel_rfl) (by kernel_rfl) (fun _ _ _ h => h) (Or.inl ⟨by rfl, ?_⟩) hHeld ?_
      · intro w hSw; (try dsimp only at hSw); go_simp
      try simp only [Act.put, List.getElem_toArray, List.getElem_cons_zero, List.getElem_cons_succ, List.setIfInBounds_toArray, List.set_cons_zero, List.set_cons_succ]
      refine wpAnyH_take (i := 20) (v := .bool true) rfl (by kernel_rfl) (by kernel_rfl) (by kernel_rfl) (fun _ _ _ h => h) (Or.inl ⟨by rfl, ?_⟩) hHeld ?_
      · intro w hSw; (try dsimp only at hSw); go_simp
      try simp only [Act.put, List.getElem_toArray, List.getElem_cons_zero, List.getElem_cons_succ, List.setIfInBounds_toArray, List.set_cons_zero, List.set_cons_succ]
      refine wpAnyH_done (by kernel_rfl) ?_ _
      go_wp2
      go_ret
      exact ⟨rfl, thenB (thenB HB0.out HBX.out) HX.out⟩
end Go.Proofs.YtpnchfigehgkgaaDoor
