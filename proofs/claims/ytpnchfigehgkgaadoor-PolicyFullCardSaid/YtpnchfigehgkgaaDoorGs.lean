/- Chapter 4: same.find, Value, grave; rosterref04.Place, Value, grave. Chapter 4: same.agree, within. Chapter 4: same.Equal. Chapter 4: rosterref04.Place, Value, half. Chapter 4: rosterref04.Equal. Chapter 4: same.Who, rosterref04.Who. Chapter 4: rosterlaw04.read, awake. Chapter 4: rosterlaw04.SameTurns. Chapter 4: rosterlaw04.SameEquals. -/
import Derived.Test.YtpnchfigehgkgaaDoorGo
import Derived.Test.YtpnchfigehgkgaaDoorGa
import Derived.Deep.RegionHeld3
import Derived.Deep.QuietTactic
import Derived.BigQuiet
import Derived.Test.YtpnchfigehgkgaaDoorGl
namespace Go.Proofs.YtpnchfigehgkgaaDoor
set_option linter.unusedSimpArgs false
set_option linter.unusedVariables false
open Go.RowKit
def findV (o : Option Par) : Value := match o with
  | some p => .tuple #[.agg #[.string (str p.name), .string (str p.value), .bool p.has], .bool true]
  | none => .tuple #[.agg #[.string ⟨#[]⟩, .string ⟨#[]⟩, .bool false], .bool false]
theorem find_hit {n : T} {l : List Par} {j : Nat} (h : findP n l = findP n (l.drop j)) (hj : j < l.length) (e : low l[j].name = low n) : findP n l = some l[j] := by
  rw [h, List.drop_eq_getElem_cons hj]
  exact if_pos e
theorem find_next {n : T} {l : List Par} {j : Nat} (h : findP n l = findP n (l.drop j)) (hj : j < l.length) (e : low l[j].name ≠ low n) : findP n l = findP n (l.drop (j + 1)) := by
  rw [h, List.drop_eq_getElem_cons hj]
  exact if_neg e
theorem find_end {n : T} {l : List Par} {j : Nat} (h : findP n l = findP n (l.drop j)) (hj : j = l.length) : findP n l = none := by
  rw [h, List.drop_eq_nil_of_le (by omega)]
  rfl
theorem Blk.triple {wr : World} {g : Nat} {t : TypeId} {a0 a1 a2 : Value} (h : Blk wr g t #[a0, a1, a2]) (x0 x1 x2 : Value) : Blk (((wr.setCell ⟨g, 0, none⟩ x0).setCell ⟨g, 1, none⟩ x1).setCell ⟨g, 2, none⟩ x2) g t #[x0, x1, x2] := ((h.set_ 0 x0).set_ 1 x1).set_ 2 x2
theorem below_triple {B g : Nat} {w wr : World} (h : Below B w wr) (hg : B ≤ g) (x0 x1 x2 : Value) : Below B w (((wr.setCell ⟨g, 0, none⟩ x0).setCell ⟨g, 1, none⟩ x1).setCell ⟨g, 2, none⟩ x2) :=
  ((h.setCell (p := ⟨g, 0, none⟩) hg _).setCell (p := ⟨g, 1, none⟩) hg _).setCell (p := ⟨g, 2, none⟩) hg _
theorem triple_cells {wr : World} {g : Nat} {t : TypeId} {a0 a1 a2 : Value} (h : Blk wr g t #[a0, a1, a2]) (x0 x1 x2 : Value) :
    (((wr.setCell ⟨g, 0, none⟩ x0).setCell ⟨g, 1, none⟩ x1).setCell ⟨g, 2, none⟩ x2).cell? ⟨g, 0, none⟩ = some x0 ∧ (((wr.setCell ⟨g, 0, none⟩ x0).setCell ⟨g, 1, none⟩ x1).setCell ⟨g, 2, none⟩ x2).cell? ⟨g, 1, none⟩ = some x1 ∧ (((wr.setCell ⟨g, 0, none⟩ x0).setCell ⟨g, 1, none⟩ x1).setCell ⟨g, 2, none⟩ x2).cell? ⟨g, 2, none⟩ = some x2 :=
  ⟨(h.triple x0 x1 x2).cell 0, (h.triple x0 x1 x2).cell 1, (h.triple x0 x1 x2).cell 2⟩
set_option maxRecDepth 100000 in
set_option maxHeartbeats 4000000 in
theorem find_any {l : List Par} {n : T} {A : Option Addr} {c B : Nat} {w : World} (hB : B ≤ w.heap.size) (hr : RdB w B 3 l.length A (rows parC l)) (hl : l.length ≤ maxLen) (hs : ∀ p ∈ l, parS p) (hn : n.length ≤ 140737488351232) :
    Calls Tryd.prog 82 #[.slice A l.length c, .string (str n)] w fun e w' => e = .returned (findV (findP n l)) ∧ Below w.heap.size w w' := by
  unfold maxLen at hl
  have HR := Lib.hid hr
  have HS := Lib.hid hs
  clear hr hs
  have HW0 : Hid (Blk (w.alloc (.cells #[.string ⟨#[]⟩, .string ⟨#[]⟩, .bool false] 95)) w.heap.size 95 #[.string ⟨#[]⟩, .string ⟨#[]⟩, .bool false] ∧ Below w.heap.size w (w.alloc (.cells #[.string ⟨#[]⟩, .string ⟨#[]⟩, .bool false] 95))) := Lib.hid ⟨Blk.new w _ _, (Below.refl _ _).alloc (Nat.le_refl _) _⟩
  obtain ⟨g, hg⟩ : ∃ g, w.heap.size = g := ⟨_, rfl⟩
  have HG := Lib.hid hg
  rw [hg] at HW0
  have hBg : B ≤ g := by omega
  go_enter Tryd.func82, Tryd.ntmps82
  go_wp2
  go_loopw [10] (fun i wr => ∃ j : Nat, j ≤ l.length ∧ i = .int .i64 j ∧ findP n l = findP n (l.drop j) ∧ Blk wr g 95 #[.string ⟨#[]⟩, .string ⟨#[]⟩, .bool false] ∧ Below g w wr) (fun i _ => l.length - (intOf i).toNat)
  case atStart => exact ⟨0, by omega, rfl, rfl, HW0.out.1, HW0.out.2⟩
  case round =>
    obtain ⟨j, hj, rfl, hF, hk, hb⟩ := hrel
    have HF := Lib.hid hF
    have HK := Lib.hid hk
    have HB := Lib.hid hb
    have hlt1 := hk.lt
    by_cases hlt : j < l.length
    · have x0 : (0 : Int) ≤ j := by omega
      have x1 : (j : Int) < l.length := by omega
      obtain ⟨gb, off, rfl, hgb, zc0, zc1, zc2⟩ := PrmB.at_ (HR.out.below (hb.mono hBg)) hlt
      have hps := HS.out _ (List.getElem_mem hlt)
      have HEQ : Hid (sameS (str l[j].name) (str n) = decide (low l[j].name = low n)) := Lib.hid rfl
      have HHIT := Lib.hid (fun q => find_hit HF.out hlt q)
      have HNX := Lib.hid (fun q => find_next HF.out hlt q)
      have HSAME : Hid (∀ W, Calls Tryd.prog 107 #[.string (str l[j].name), .string (str n)] W (SameSPost (str l[j].name) (str n) W)) := Lib.hid (fun W => Same_any _ _ W (by have := hps.1; show l[j].name.length ≤ _; omega) (by show n.length ≤ _; omega))
      clear hF hk hb hps
      have HAL : Hid (∀ o m, Blk ((wr.alloc o).drewN m) g 95 #[.string ⟨#[]⟩, .string ⟨#[]⟩, .bool false] ∧ Below g w ((wr.alloc o).drewN m)) := Lib.hid (fun o m => ⟨(HK.out.alloc o).drewN m, below_drewN (HB.out.alloc (by omega) o) m⟩)
      go_wp2_with fail
      refine (HSAME.out _).mono ?_
      rintro e w' ⟨rfl, m, rfl⟩
      rw [HEQ.out]
      by_cases he : low l[j].name = low n
      · have HX := Lib.hid (HHIT.out he)
        rw [decide_eq_true he]
        clear he
        generalize l[j] = p at *
        have hkd := (HAL.out (.cells #[.string (str p.name), .string (str p.value), .bool p.has] 95) m).1
        have HZ := Lib.hid (triple_cells hkd (.string (str p.name)) (.string (str p.value)) (.bool p.has))
        have HBZ := Lib.hid (below_triple (HAL.out (.cells #[.string (str p.name), .string (str p.value), .bool p.has] 95) m).2 (Nat.le_refl g) (.string (str p.name)) (.string (str p.value)) (.bool p.has))
        have e0 := hkd.cell 0
        have e1 := hkd.cell 1
        have e2 := hkd.cell 2
        have f0 := hkd.frozen 0
        have f1 := hkd.frozen 1
        have f2 := hkd.frozen 2
        have hgw : wr.heap.size ≠ g := by omega
        have hgw2 : g ≠ wr.heap.size := by omega
        clear hkd
        go_wp2
        obtain ⟨z0, z1, z2⟩ := HZ.out
        exact bodyPost_ret (v := .tuple #[.agg #[.string (str p.name), .string (str p.value), .bool p.has], .bool true]) (by simp [results, Tryd.results82, go_sem, z0, z1, z2]) rfl ⟨by rw [HX.out]; rfl, by have q := HBZ.out; first | exact q | (rw [HG.out]; exact q)⟩
      · have HX := Lib.hid (HNX.out he)
        rw [decide_eq_false he]
        clear he
        go_wp2
        go_roundw
        case rel => exact ⟨j + 1, by omega, by go_num, HX.out, (HAL.out _ _).1, (HAL.out _ _).2⟩
        case measure => simp [intOf] <;> omega
    · have x1 : ¬ (j : Int) < l.length := by omega
      have HX := Lib.hid (find_end HF.out (by omega))
      have e0 := hk.cell 0
      have e1 := hk.cell 1
      have e2 := hk.cell 2
      have f0 := hk.frozen 0
      have f1 := hk.frozen 1
      have f2 := hk.frozen 2
      have HZ := Lib.hid (triple_cells hk (.string ⟨#[]⟩) (.string ⟨#[]⟩) (.bool false))
      have HBZ := Lib.hid (below_triple hb (Nat.le_refl g) (.string ⟨#[]⟩) (.string ⟨#[]⟩) (.bool false))
      clear hF hk hb
      go_wp2
      obtain ⟨z0, z1, z2⟩ := HZ.out
      exact bodyPost_ret (v := .tuple #[.agg #[.string ⟨#[]⟩, .string ⟨#[]⟩, .bool false], .bool false]) (by simp [results, Tryd.results82, go_sem, z0, z1, z2]) rfl ⟨by rw [HX.out]; rfl, by have q := HBZ.out; first | exact q | (rw [HG.out]; exact q)⟩
def valueV (o : Option Par) : Value := match o with
  | some p => .tuple #[.string (str p.value), .bool true]
  | none => .tuple #[.string ⟨#[]⟩, .bool false]
set_option maxHeartbeats 1000000 in
theorem Value_any {l : List Par} {n : T} {A : Option Addr} {c B : Nat} {w : World} (hB : B ≤ w.heap.size) (hr : RdB w B 3 l.length A (rows parC l)) (hl : l.length ≤ maxLen) (hs : ∀ p ∈ l, parS p) (hn : n.length ≤ 140737488351232) :
    Calls Tryd.prog 36 #[.slice A l.length c, .string (str n)] w fun e w' => e = .returned (valueV (findP n l)) ∧ Below w.heap.size w w' := by
  have HF := Lib.hid (find_any (c := c) hB hr hl hs hn)
  generalize findP n l = o at *
  cases o with
  | none =>
    unfold findV at HF
    go_enter Tryd.func36, Tryd.ntmps36
    go_wp2_with fail
    refine HF.out.mono ?_
    rintro e w1 ⟨rfl, hb⟩
    have HB : Hid (∀ o, Below w.heap.size w (w1.alloc o)) := Lib.hid (fun o => hb.alloc hb.size o)
    clear hb
    go_wp2
    go_ret2
    exact ⟨rfl, HB.out _⟩
  | some p =>
    unfold findV at HF
    go_enter Tryd.func36, Tryd.ntmps36
    go_wp2_with fail
    refine HF.out.mono ?_
    rintro e w1 ⟨rfl, hb⟩
    have HB : Hid (∀ o, Below w.heap.size w (w1.alloc o)) := Lib.hid (fun o => hb.alloc hb.size o)
    clear hb
    go_wp2
    go_ret2
    exact ⟨rfl, HB.out _⟩
theorem grave_or (n : T) : graveB n = (((str (low n)).toList == [117, 115, 101, 114]) || ((str (low n)).toList == [116, 116, 108]) || ((str (low n)).toList == [109, 101, 116, 104, 111, 100]) || ((str (low n)).toList == [109, 97, 100, 100, 114])) := by
  have d : ∀ l : T, ((str (low n)).toList == l) = true ↔ low n = l := fun l => by
    rw [lit_eq]
    exact ⟨of_decide_eq_true, fun h => decide_eq_true h⟩
  rw [Bool.eq_iff_iff]
  simp only [Bool.or_eq_true, d]
  unfold graveB graves
  simp [or_assoc]
set_option maxHeartbeats 2000000 in
theorem grave_any (n : T) (w : World) (hn : n.length ≤ 140737488351232) : Calls Tryd.prog 106 #[.string (str n)] w fun e w' => e = .returned (.bool (graveB n)) ∧ Below w.heap.size w w' := by
  have HL : Hid (∀ w, Calls Tryd.prog 58 #[.string (str n)] w fun e w' => e = .returned (.string (str (low n))) ∧ Below w.heap.size w w') := Lib.hid (fun w => Lower_any (str n) w (by show n.length ≤ _; omega))
  have HG := Lib.hid (grave_or n)
  generalize str (low n) = L at *
  generalize graveB n = G at *
  go_enter Tryd.func106, Tryd.ntmps106
  go_wp2_with fail
  refine (HL.out _).mono ?_
  rintro e w1 ⟨rfl, hb⟩
  have HB := Lib.hid hb
  clear hb
  cases h1 : (L.toList == [117, 115, 101, 114]) with
  | true =>
    have HX : Hid (G = true) := Lib.hid (by rw [HG.out, h1]; rfl)
    go_wp2
    go_ret
    exact ⟨ret_bool HX.out.symm, HB.out⟩
  | false =>
    cases h2 : (L.toList == [116, 116, 108]) with
    | true =>
      have HX : Hid (G = true) := Lib.hid (by rw [HG.out, h1, h2]; rfl)
      go_wp2
      go_ret
      exact ⟨ret_bool HX.out.symm, HB.out⟩
    | false =>
      cases h3 : (L.toList == [109, 101, 116, 104, 111, 100]) with
      | true =>
        have HX : Hid (G = true) := Lib.hid (by rw [HG.out, h1, h2, h3]; rfl)
        go_wp2
        go_ret
        exact ⟨ret_bool HX.out.symm, HB.out⟩
      | false =>
        cases h4 : (L.toList == [109, 97, 100, 100, 114]) with
        | true =>
          have HX : Hid (G = true) := Lib.hid (by rw [HG.out, h1, h2, h3, h4]; rfl)
          go_wp2
          go_ret
          exact ⟨ret_bool HX.out.symm, HB.out⟩
        | false =>
          have HX : Hid (G = false) := Lib.hid (by rw [HG.out, h1, h2, h3, h4]; rfl)
          go_wp2
          go_ret
          exact ⟨ret_bool HX.out.symm, HB.out⟩
set_option maxHeartbeats 2000000 in
theorem rgrave_any (n : T) (w : World) (hn : n.length ≤ 140737488351232) : Calls Tryd.prog 111 #[.string (str n)] w fun e w' => e = .returned (.bool (graveB n)) ∧ Below w.heap.size w w' := by
  have HL : Hid (∀ w, Calls Tryd.prog 63 #[.string (str n)] w fun e w' => e = .returned (.string (str (low n))) ∧ Below w.heap.size w w') := Lib.hid (fun w => rLower_any (str n) w (by show n.length ≤ _; omega))
  have HG := Lib.hid (grave_or n)
  generalize str (low n) = L at *
  generalize graveB n = G at *
  go_enter Tryd.func111, Tryd.ntmps111
  go_wp2_with fail
  refine (HL.out _).mono ?_
  rintro e w1 ⟨rfl, hb⟩
  have HB := Lib.hid hb
  clear hb
  cases h1 : (L.toList == [117, 115, 101, 114]) with
  | true =>
    have HX : Hid (G = true) := Lib.hid (by rw [HG.out, h1]; rfl)
    go_wp2
    go_ret
    exact ⟨ret_bool HX.out.symm, HB.out⟩
  | false =>
    cases h2 : (L.toList == [116, 116, 108]) with
    | true =>
      have HX : Hid (G = true) := Lib.hid (by rw [HG.out, h1, h2]; rfl)
      go_wp2
      go_ret
      exact ⟨ret_bool HX.out.symm, HB.out⟩
    | false =>
      cases h3 : (L.toList == [109, 101, 116, 104, 111, 100]) with
      | true =>
        have HX : Hid (G = true) := Lib.hid (by rw [HG.out, h1, h2, h3]; rfl)
        go_wp2
        go_ret
        exact ⟨ret_bool HX.out.symm, HB.out⟩
      | false =>
        cases h4 : (L.toList == [109, 97, 100, 100, 114]) with
        | true =>
          have HX : Hid (G = true) := Lib.hid (by rw [HG.out, h1, h2, h3, h4]; rfl)
          go_wp2
          go_ret
          exact ⟨ret_bool HX.out.symm, HB.out⟩
        | false =>
          have HX : Hid (G = false) := Lib.hid (by rw [HG.out, h1, h2, h3, h4]; rfl)
          go_wp2
          go_ret
          exact ⟨ret_bool HX.out.symm, HB.out⟩
end Go.Proofs.YtpnchfigehgkgaaDoor
namespace Go.Proofs.YtpnchfigehgkgaaDoor
set_option linter.unusedSimpArgs false
set_option linter.unusedVariables false
open Go.RowKit
theorem neq_fld (a b : Bool) (W : World) : (binOp .neq 121 (.agg #[.string ⟨#[]⟩, .bool a]) (.agg #[.string ⟨#[]⟩, .bool b])).run Tryd.prog W = .ok (.bool (a != b)) W := by
  cases a <;> cases b <;> simp [go_sem]
def AllQ (f : Par → Bool) (l : List Par) (j : Nat) : Prop := (l.take j).all f = true
theorem allq_step {f : Par → Bool} {l : List Par} {j : Nat} (h : AllQ f l j) (hj : j < l.length) (a : f l[j] = true) : AllQ f l (j + 1) := by
  unfold AllQ at *
  rw [List.take_succ_eq_append_getElem hj, List.all_append, h]
  simp [a]
theorem allq_no {f : Par → Bool} {l : List Par} {j : Nat} (hj : j < l.length) (a : f l[j] = false) : l.all f = false := List.all_eq_false.2 ⟨l[j], List.getElem_mem hj, by rw [a]; simp⟩
theorem allq_end {f : Par → Bool} {l : List Par} {j : Nat} (h : AllQ f l j) (hj : j = l.length) : l.all f = true := by unfold AllQ at h; rwa [List.take_of_length_le (by omega)] at h
theorem agree_none {b : List Par} {p : Par} (h : findP p.name b = none) : agree1 b p = !graveB p.name := by unfold agree1; rw [h]
theorem agree_some {b : List Par} {p q : Par} (h : findP p.name b = some q) : agree1 b p = (decide (q.has = p.has) && decide (low q.value = low p.value)) := by unfold agree1; rw [h]
theorem within_none {b : List Par} {p : Par} (h : findP p.name b = none) : within1 b p = false := by unfold within1; rw [h]
theorem within_some {b : List Par} {p q : Par} (h : findP p.name b = some q) : within1 b p = decide (q.value = p.value) := by unfold within1; rw [h]
set_option maxRecDepth 100000 in
set_option maxHeartbeats 4000000 in
theorem agree_any {a b : List Par} {A1 A2 : Option Addr} {c1 c2 B : Nat} {w : World} (hB : B ≤ w.heap.size) (h1 : RdB w B 3 a.length A1 (rows parC a)) (h2 : RdB w B 3 b.length A2 (rows parC b)) (l1 : a.length ≤ maxLen) (l2 : b.length ≤ maxLen) (s1 : ∀ p ∈ a, parS p) (s2 : ∀ p ∈ b, parS p) :
    Calls Tryd.prog 73 #[.slice A1 a.length c1, .slice A2 b.length c2] w fun e w' => e = .returned (.bool (a.all (agree1 b))) ∧ Below w.heap.size w w' := by
  have HF : Hid (∀ (W : World) n, Below w.heap.size w W → n.length ≤ 140737488351232 → Calls Tryd.prog 82 #[.slice A2 b.length c2, .string (str n)] W fun e w' => e = .returned (findV (findP n b)) ∧ Below W.heap.size W w') := Lib.hid (fun W n hb hn => find_any (Nat.le_trans hB hb.size) (h2.below (hb.mono hB)) l2 s2 hn)
  have H1 := Lib.hid h1
  have S1 := Lib.hid s1
  have S2 := Lib.hid s2
  unfold maxLen at l1
  clear h1 h2 s1 s2
  go_enter Tryd.func73, Tryd.ntmps73
  go_wp2
  go_loopw [11] (fun i wr => ∃ j : Nat, j ≤ a.length ∧ i = .int .i64 j ∧ AllQ (agree1 b) a j ∧ Below w.heap.size w wr) (fun i _ => a.length - (intOf i).toNat)
  case atStart => exact ⟨0, by omega, rfl, by simp [AllQ], Below.refl _ _⟩
  case round =>
    obtain ⟨j, hj, rfl, hA, hb⟩ := hrel
    have HA := Lib.hid hA
    have HB := Lib.hid hb
    have hsz := hb.size
    by_cases hlt : j < a.length
    · have x0 : (0 : Int) ≤ j := by omega
      have x1 : (j : Int) < a.length := by omega
      obtain ⟨gb, off, rfl, hgb, zc0, zc1, zc2⟩ := PrmB.at_ (H1.out.below (hb.mono hB)) hlt
      have hps := S1.out _ (List.getElem_mem hlt)
      have HNO := Lib.hid (fun q => allq_no (f := agree1 b) hlt q)
      have HYES := Lib.hid (fun q => allq_step HA.out hlt q)
      clear hA hb
      generalize a[j] = p at *
      have hpn : p.name.length ≤ 140737488351232 := hps.1
      have hpv : p.value.length ≤ 140737488351232 := hps.2
      clear hps
      go_wp2_with fail
      obtain ⟨w1, hw1⟩ : ∃ w1, wr.alloc (.cells #[.string (str p.name), .string (str p.value), .bool p.has] 95) = w1 := ⟨_, rfl⟩
      have hal : Below wr.heap.size wr w1 := hw1 ▸ (Below.refl _ _).alloc (Nat.le_refl _) _
      have HK1 : Hid (Blk w1 wr.heap.size 95 #[.string (str p.name), .string (str p.value), .bool p.has]) := Lib.hid (hw1 ▸ Blk.new wr _ _)
      have HB1 := Lib.hid (HB.out.trans (hal.mono hsz))
      rw [hw1]
      obtain ⟨gp, hgp⟩ : ∃ gp, wr.heap.size = gp := ⟨_, rfl⟩
      rw [hgp] at HK1 ⊢
      clear hal hw1 hgp
      refine (HF.out w1 p.name HB1.out hpn).mono ?_
      rintro e w2 ⟨rfl, hb2⟩
      have HB2 := Lib.hid (thenB HB1.out hb2)
      have HK2 := Lib.hid (HK1.out.fr (Fr.of_below (F := fun _ => False) hb2) (fun h => h))
      have hgp2 : gp < w2.heap.size := HK2.out.lt
      have n1 : gp ≠ w2.heap.size := by omega
      have HB3 : Hid (∀ o, Below w.heap.size w (w2.alloc o)) := Lib.hid (fun o => HB2.out.alloc HB2.out.size o)
      have c0 := fun o => (HK2.out.alloc o).cell 0
      have c1 := fun o => (HK2.out.alloc o).cell 1
      have c2 := fun o => (HK2.out.alloc o).cell 2
      clear hb2
      cases hf : findP p.name b with
      | none =>
        have HAG := Lib.hid (agree_none hf)
        clear hf
        unfold findV
        have HGR := Lib.hid (fun W => grave_any p.name W hpn)
        go_wp2_with fail
        refine (HGR.out _).mono ?_
        rintro e w4 ⟨rfl, hb4⟩
        have HB4 := Lib.hid (thenB (HB3.out _) hb4)
        clear hb4 c0 c1 c2
        cases hg : graveB p.name with
        | true =>
          have HX := Lib.hid (HNO.out (by rw [HAG.out, hg]; rfl))
          go_wp2
          go_ret
          exact ⟨ret_bool HX.out.symm, HB4.out⟩
        | false =>
          have HX := Lib.hid (HYES.out (by rw [HAG.out, hg]; rfl))
          go_wp2
          go_roundw
          case rel => exact ⟨j + 1, by omega, by go_num, HX.out, HB4.out⟩
          case measure => simp [intOf] <;> omega
      | some q =>
        have HAG := Lib.hid (agree_some hf)
        have hqs := S2.out q (find_some hf).1
        have hqv : q.value.length ≤ 140737488351232 := hqs.2
        have HSAME : Hid (∀ W, Calls Tryd.prog 107 #[.string (str p.value), .string (str q.value)] W (SameSPost (str p.value) (str q.value) W)) := Lib.hid (fun W => Same_any _ _ W (by show p.value.length ≤ _; omega) (by show q.value.length ≤ _; omega))
        have HEQ : Hid (sameS (str p.value) (str q.value) = decide (low p.value = low q.value)) := Lib.hid rfl
        clear hf hqs
        unfold findV
        have hnf := neq_fld p.has q.has
        by_cases hh : p.has = q.has
        · have hbe : (p.has != q.has) = false := by rw [hh]; simp
          rw [hbe] at hnf
          go_wp2_with fail
          refine (HSAME.out _).mono ?_
          rintro e w' ⟨rfl, m, rfl⟩
          rw [HEQ.out]
          by_cases hv : low p.value = low q.value
          · have HX := Lib.hid (HYES.out (by rw [HAG.out, hh, hv]; simp))
            rw [decide_eq_true hv]
            clear hv hh hbe
            go_wp2
            go_roundw
            case rel => exact ⟨j + 1, by omega, by go_num, HX.out, below_drewN (HB3.out _) _⟩
            case measure => simp [intOf] <;> omega
          · have HX := Lib.hid (HNO.out (by rw [HAG.out, decide_eq_false (Ne.symm hv), Bool.and_false]))
            rw [decide_eq_false hv]
            clear hv hh hbe
            go_wp2
            go_ret
            exact ⟨ret_bool HX.out.symm, below_drewN (HB3.out _) _⟩
        · have hbe : (p.has != q.has) = true := by simpa using hh
          rw [hbe] at hnf
          have HX := Lib.hid (HNO.out (by rw [HAG.out, decide_eq_false (Ne.symm hh), Bool.false_and]))
          clear hh hbe
          go_wp2
          go_ret
          exact ⟨ret_bool HX.out.symm, HB3.out _⟩
    · have x1 : ¬ (j : Int) < a.length := by omega
      have HX := Lib.hid (allq_end HA.out (by omega))
      clear hA hb
      go_wp2
      go_ret
      exact ⟨ret_bool HX.out.symm, HB.out⟩
set_option maxRecDepth 100000 in
set_option maxHeartbeats 4000000 in
theorem within_any {a b : List Par} {A1 A2 : Option Addr} {c1 c2 B : Nat} {w : World} (hB : B ≤ w.heap.size) (h1 : RdB w B 3 a.length A1 (rows parC a)) (h2 : RdB w B 3 b.length A2 (rows parC b)) (l1 : a.length ≤ maxLen) (l2 : b.length ≤ maxLen) (s1 : ∀ p ∈ a, parS p) (s2 : ∀ p ∈ b, parS p) :
    Calls Tryd.prog 74 #[.slice A1 a.length c1, .slice A2 b.length c2] w fun e w' => e = .returned (.bool (a.all (within1 b))) ∧ Below w.heap.size w w' := by
  have HF : Hid (∀ (W : World) n, Below w.heap.size w W → n.length ≤ 140737488351232 → Calls Tryd.prog 82 #[.slice A2 b.length c2, .string (str n)] W fun e w' => e = .returned (findV (findP n b)) ∧ Below W.heap.size W w') := Lib.hid (fun W n hb hn => find_any (Nat.le_trans hB hb.size) (h2.below (hb.mono hB)) l2 s2 hn)
  have H1 := Lib.hid h1
  have S1 := Lib.hid s1
  unfold maxLen at l1
  clear h1 h2 s1 s2
  go_enter Tryd.func74, Tryd.ntmps74
  go_wp2
  go_loopw [11] (fun i wr => ∃ j : Nat, j ≤ a.length ∧ i = .int .i64 j ∧ AllQ (within1 b) a j ∧ Below w.heap.size w wr) (fun i _ => a.length - (intOf i).toNat)
  case atStart => exact ⟨0, by omega, rfl, by simp [AllQ], Below.refl _ _⟩
  case round =>
    obtain ⟨j, hj, rfl, hA, hb⟩ := hrel
    have HA := Lib.hid hA
    have HB := Lib.hid hb
    have hsz := hb.size
    by_cases hlt : j < a.length
    · have x0 : (0 : Int) ≤ j := by omega
      have x1 : (j : Int) < a.length := by omega
      obtain ⟨gb, off, rfl, hgb, zc0, zc1, zc2⟩ := PrmB.at_ (H1.out.below (hb.mono hB)) hlt
      have hpn : a[j].name.length ≤ 140737488351232 := (S1.out _ (List.getElem_mem hlt)).1
      have HNO := Lib.hid (fun q => allq_no (f := within1 b) hlt q)
      have HYES := Lib.hid (fun q => allq_step HA.out hlt q)
      clear hA hb
      generalize a[j] = p at *
      go_wp2_with fail
      obtain ⟨w1, hw1⟩ : ∃ w1, wr.alloc (.cells #[.string (str p.name), .string (str p.value), .bool p.has] 95) = w1 := ⟨_, rfl⟩
      have hal : Below wr.heap.size wr w1 := hw1 ▸ (Below.refl _ _).alloc (Nat.le_refl _) _
      have HK1 : Hid (Blk w1 wr.heap.size 95 #[.string (str p.name), .string (str p.value), .bool p.has]) := Lib.hid (hw1 ▸ Blk.new wr _ _)
      have HB1 := Lib.hid (HB.out.trans (hal.mono hsz))
      rw [hw1]
      obtain ⟨gp, hgp⟩ : ∃ gp, wr.heap.size = gp := ⟨_, rfl⟩
      rw [hgp] at HK1 ⊢
      clear hal hw1 hgp
      refine (HF.out w1 p.name HB1.out hpn).mono ?_
      rintro e w2 ⟨rfl, hb2⟩
      have HB2 := Lib.hid (thenB HB1.out hb2)
      have HK2 := Lib.hid (HK1.out.fr (Fr.of_below (F := fun _ => False) hb2) (fun h => h))
      have hgp2 : gp < w2.heap.size := HK2.out.lt
      have n1 : gp ≠ w2.heap.size := by omega
      have HB3 : Hid (∀ o, Below w.heap.size w (w2.alloc o)) := Lib.hid (fun o => HB2.out.alloc HB2.out.size o)
      have c1 := fun o => (HK2.out.alloc o).cell 1
      clear hb2
      cases hf : findP p.name b with
      | none =>
        have HX := Lib.hid (HNO.out (within_none hf))
        clear hf
        unfold findV
        go_wp2
        go_ret
        exact ⟨ret_bool HX.out.symm, HB3.out _⟩
      | some q =>
        have HAG := Lib.hid (within_some hf)
        have hne := strv_dec q.value p.value
        clear hf
        unfold findV
        by_cases hv : q.value = p.value
        · have HX := Lib.hid (HYES.out (by rw [HAG.out, decide_eq_true hv]))
          have hvs : str q.value = str p.value := by rw [hv]
          clear hv hne
          go_wp2
          go_roundw
          case rel => exact ⟨j + 1, by omega, by go_num, HX.out, HB3.out _⟩
          case measure => simp [intOf] <;> omega
        · have HX := Lib.hid (HNO.out (by rw [HAG.out, decide_eq_false hv]))
          rw [decide_eq_false hv] at hne
          have hn3 : ¬ (str q.value).toList = (str p.value).toList := fun e => hv (str_inj ((tol_eq _ _).1 e))
          clear hv
          go_wp2
          go_ret
          exact ⟨ret_bool HX.out.symm, HB3.out _⟩
    · have x1 : ¬ (j : Int) < a.length := by omega
      have HX := Lib.hid (allq_end HA.out (by omega))
      clear hA hb
      go_wp2
      go_ret
      exact ⟨ret_bool HX.out.symm, HB.out⟩
end Go.Proofs.YtpnchfigehgkgaaDoor
namespace Go.Proofs.YtpnchfigehgkgaaDoor
set_option linter.unusedSimpArgs false
set_option linter.unusedVariables false
open Go.RowKit
theorem two_box {a b : Array Value} {t : TypeId} {w w0 : World} (h : (w.alloc (.cells a t)).alloc (.cells b t) = w0) :
    Below w.heap.size w w0 ∧ w0.heap.size = w.heap.size + 2 ∧ (∀ W, Below w0.heap.size w0 W → Blk W w.heap.size t a) ∧ (∀ W, Below w0.heap.size w0 W → Blk W (w.heap.size + 1) t b) := by
  subst h
  refine ⟨((Below.refl _ _).alloc (Nat.le_refl _) _).alloc (by simp) _, by simp, fun W h => ?_, fun W h => ?_⟩
  · exact ((Blk.new w t a).alloc _).fr (Fr.of_below (F := fun _ => False) h) (fun h => h)
  · exact (Blk.new' (w.alloc (.cells a t)) t b (by simp)).fr (Fr.of_below (F := fun _ => False) h) (fun h => h)
theorem str_ne {a b : T} (h : a ≠ b) : ¬ (str a).toList = (str b).toList := fun e => h (str_inj ((tol_eq _ _).1 e))
theorem str_neb {a b : T} (h : a ≠ b) : ((str a).toList == (str b).toList) = false := by rw [strv_dec, decide_eq_false h]
theorem str_eqt {a b : T} (h : a = b) : (str a).toList = (str b).toList := by rw [h]
theorem eq_no1 {a b : Uri} (h : checkE a ≠ 0) : equalB a b = false := by unfold equalB; rw [decide_eq_false h]; rfl
theorem eq_no2 {a b : Uri} (h : checkE b ≠ 0) : equalB a b = false := by unfold equalB; rw [decide_eq_false h, Bool.and_false]; rfl
theorem eq_no3 {a b : Uri} (h : ¬ (a.scheme = b.scheme ∧ a.user = b.user ∧ a.host = b.host ∧ a.port = b.port)) : equalB a b = false := by
  have : headB a b = false := by
    unfold headB
    by_cases h1 : a.scheme = b.scheme <;> by_cases h2 : a.user = b.user <;> by_cases h3 : a.host = b.host <;> by_cases h4 : a.port = b.port <;> simp [h1, h2, h3, h4]
    exact h ⟨h1, h2, h3, h4⟩
  unfold equalB
  rw [this, Bool.and_false]
  rfl
theorem eq_is {a b : Uri} (h1 : checkE a = 0) (h2 : checkE b = 0) (h3 : a.scheme = b.scheme) (h4 : a.user = b.user) (h5 : a.host = b.host) (h6 : a.port = b.port) : equalB a b = (a.params.all (agree1 b.params) && b.params.all (agree1 a.params) && a.headers.all (within1 b.headers) && b.headers.all (within1 a.headers)) := by
  unfold equalB headB
  rw [decide_eq_true h1, decide_eq_true h2, decide_eq_true h3, decide_eq_true h4, decide_eq_true h5, decide_eq_true h6]
  rfl
set_option maxRecDepth 100000 in
set_option maxHeartbeats 8000000 in
theorem Equal_any {a b : Uri} {va vb : Value} {B : Nat} {w : World} (hB : B ≤ w.heap.size) (ha : UriB w B va a) (hb : UriB w B vb b) (sa : UriS a) (sb : UriS b) :
    Calls Tryd.prog 31 #[va, vb] w fun e w' => e = .returned (.bool (equalB a b)) ∧ Below w.heap.size w w' := by
  obtain ⟨vp, vh, rfl, ⟨A1, c1, rfl, hp⟩, ⟨A2, c2, rfl, hh⟩⟩ := ha
  obtain ⟨vp2, vh2, rfl, ⟨A3, c3, rfl, hp2⟩, ⟨A4, c4, rfl, hh2⟩⟩ := hb
  unfold uriV
  obtain ⟨w0, hw0⟩ : ∃ w0, (w.alloc (.cells #[.string (str a.scheme), .string (str a.user), .string (str a.host), .int .i64 a.port, .slice A1 a.params.length c1, .slice A2 a.headers.length c2] 24)).alloc (.cells #[.string (str b.scheme), .string (str b.user), .string (str b.host), .int .i64 b.port, .slice A3 b.params.length c3, .slice A4 b.headers.length c4] 24) = w0 := ⟨_, rfl⟩
  obtain ⟨hb0, hs0, hka, hkb⟩ := two_box hw0
  have HB0 := Lib.hid hb0
  have HKA := Lib.hid hka
  have HKB := Lib.hid hkb
  have HP := Lib.hid (fun W (h : Below w0.heap.size w0 W) => (hp.below (hb0.mono hB)).below (h.mono (by omega : B ≤ w0.heap.size)))
  have HH := Lib.hid (fun W (h : Below w0.heap.size w0 W) => (hh.below (hb0.mono hB)).below (h.mono (by omega : B ≤ w0.heap.size)))
  have HP2 := Lib.hid (fun W (h : Below w0.heap.size w0 W) => (hp2.below (hb0.mono hB)).below (h.mono (by omega : B ≤ w0.heap.size)))
  have HH2 := Lib.hid (fun W (h : Below w0.heap.size w0 W) => (hh2.below (hb0.mono hB)).below (h.mono (by omega : B ≤ w0.heap.size)))
  have HSZ : Hid (∀ W, Below w0.heap.size w0 W → B ≤ W.heap.size) := Lib.hid (fun W h => by have := h.size; omega)
  have SA := Lib.hid sa
  have SB := Lib.hid sb
  have HCA : Hid (∀ W, Below w0.heap.size w0 W → Calls Tryd.prog 32 #[.agg #[.string (str a.scheme), .string (str a.user), .string (str a.host), .int .i64 a.port, .slice A1 a.params.length c1, .slice A2 a.headers.length c2]] W (fun e w' => e = .returned (.int .i64 (checkE a)) ∧ Below W.heap.size W w')) := Lib.hid (fun W h => Check_any (u := a) (vp := .slice A1 a.params.length c1) (vh := .slice A2 a.headers.length c2) (HSZ.out W h) ⟨_, _, rfl, HP.out W h⟩ ⟨_, _, rfl, HH.out W h⟩ sa)
  have HCB : Hid (∀ W, Below w0.heap.size w0 W → Calls Tryd.prog 32 #[.agg #[.string (str b.scheme), .string (str b.user), .string (str b.host), .int .i64 b.port, .slice A3 b.params.length c3, .slice A4 b.headers.length c4]] W (fun e w' => e = .returned (.int .i64 (checkE b)) ∧ Below W.heap.size W w')) := Lib.hid (fun W h => Check_any (u := b) (vp := .slice A3 b.params.length c3) (vh := .slice A4 b.headers.length c4) (HSZ.out W h) ⟨_, _, rfl, HP2.out W h⟩ ⟨_, _, rfl, HH2.out W h⟩ sb)
  have lpa : a.params.length ≤ maxLen := by have := sa.params; unfold maxLen; omega
  have lha : a.headers.length ≤ maxLen := by have := sa.headers; unfold maxLen; omega
  have lpb : b.params.length ≤ maxLen := by have := sb.params; unfold maxLen; omega
  have lhb : b.headers.length ≤ maxLen := by have := sb.headers; unfold maxLen; omega
  have HAG1 : Hid (∀ W, Below w0.heap.size w0 W → Calls Tryd.prog 73 #[.slice A1 a.params.length c1, .slice A3 b.params.length c3] W (fun e w' => e = .returned (.bool (a.params.all (agree1 b.params))) ∧ Below W.heap.size W w')) := Lib.hid (fun W h => agree_any (HSZ.out W h) (HP.out W h) (HP2.out W h) lpa lpb sa.par sb.par)
  have HAG2 : Hid (∀ W, Below w0.heap.size w0 W → Calls Tryd.prog 73 #[.slice A3 b.params.length c3, .slice A1 a.params.length c1] W (fun e w' => e = .returned (.bool (b.params.all (agree1 a.params))) ∧ Below W.heap.size W w')) := Lib.hid (fun W h => agree_any (HSZ.out W h) (HP2.out W h) (HP.out W h) lpb lpa sb.par sa.par)
  have HWI1 : Hid (∀ W, Below w0.heap.size w0 W → Calls Tryd.prog 74 #[.slice A2 a.headers.length c2, .slice A4 b.headers.length c4] W (fun e w' => e = .returned (.bool (a.headers.all (within1 b.headers))) ∧ Below W.heap.size W w')) := Lib.hid (fun W h => within_any (HSZ.out W h) (HH.out W h) (HH2.out W h) lha lhb sa.hdr sb.hdr)
  have HWI2 : Hid (∀ W, Below w0.heap.size w0 W → Calls Tryd.prog 74 #[.slice A4 b.headers.length c4, .slice A2 a.headers.length c2] W (fun e w' => e = .returned (.bool (b.headers.all (within1 a.headers))) ∧ Below W.heap.size W w')) := Lib.hid (fun W h => within_any (HSZ.out W h) (HH2.out W h) (HH.out W h) lhb lha sb.hdr sa.hdr)
  have HB0g : Hid (Below w.heap.size w w0) := HB0
  have hg0 : w.heap.size ≤ w0.heap.size := by omega
  clear lpa lha lpb lhb
  obtain ⟨g, hg⟩ : ∃ g, w.heap.size = g := ⟨_, rfl⟩
  have HG := Lib.hid hg
  rw [hg] at HKA HKB HB0g hg0
  clear hp hh hp2 hh2 hb0 hka hkb sa sb hs0
  have ka := HKA.out w0 (Below.refl _ _)
  have a0 := ka.cell 0
  have a1 := ka.cell 1
  have a2 := ka.cell 2
  have a3 := ka.cell 3
  have a4 := ka.cell 4
  have a5 := ka.cell 5
  clear ka
  have kb := HKB.out w0 (Below.refl _ _)
  have b0 := kb.cell 0
  have b1 := kb.cell 1
  have b2 := kb.cell 2
  have b3 := kb.cell 3
  have b4 := kb.cell 4
  have b5 := kb.cell 5
  clear kb
  go_enter Tryd.func31, Tryd.ntmps31
  go_wp2_with fail
  refine (HCA.out w0 (Below.refl _ _)).mono ?_
  rintro e w1 ⟨rfl, hb1⟩
  have HB1 := Lib.hid hb1
  clear a0 a1 a2 a3 a4 a5 b0 b1 b2 b3 b4 b5 hb1
  have ka := HKA.out w1 HB1.out
  have a0 := ka.cell 0
  have a1 := ka.cell 1
  have a2 := ka.cell 2
  have a3 := ka.cell 3
  have a4 := ka.cell 4
  have a5 := ka.cell 5
  clear ka
  have kb := HKB.out w1 HB1.out
  have b0 := kb.cell 0
  have b1 := kb.cell 1
  have b2 := kb.cell 2
  have b3 := kb.cell 3
  have b4 := kb.cell 4
  have b5 := kb.cell 5
  clear kb
  by_cases hca : checkE a = 0
  · rw [hca]
    go_wp2_with fail
    refine (HCB.out w1 HB1.out).mono ?_
    rintro e w2 ⟨rfl, hb2⟩
    have HB2 := Lib.hid (thenB HB1.out hb2)
    clear a0 a1 a2 a3 a4 a5 b0 b1 b2 b3 b4 b5 hb2
    have ka := HKA.out w2 HB2.out
    have a0 := ka.cell 0
    have a1 := ka.cell 1
    have a2 := ka.cell 2
    have a3 := ka.cell 3
    have a4 := ka.cell 4
    have a5 := ka.cell 5
    clear ka
    have kb := HKB.out w2 HB2.out
    have b0 := kb.cell 0
    have b1 := kb.cell 1
    have b2 := kb.cell 2
    have b3 := kb.cell 3
    have b4 := kb.cell 4
    have b5 := kb.cell 5
    clear kb
    by_cases hcb : checkE b = 0
    · rw [hcb]
      by_cases q1 : a.scheme = b.scheme
      · have t1 := str_eqt q1
        by_cases q2 : a.user = b.user
        · have t2 := str_eqt q2
          by_cases q3 : a.host = b.host
          · have t3 := str_eqt q3
            by_cases q4 : a.port = b.port
            · have HX := Lib.hid (eq_is hca hcb q1 q2 q3 q4)
              have t4 : ((a.port : Int) != b.port) = false := by rw [q4]; simp
              clear hca hcb q1 q2 q3
              generalize a.params.all (agree1 b.params) = r1 at *
              generalize b.params.all (agree1 a.params) = r2 at *
              generalize a.headers.all (within1 b.headers) = r3 at *
              generalize b.headers.all (within1 a.headers) = r4 at *
              go_wp2_with fail
              refine (HAG1.out w2 HB2.out).mono ?_
              rintro e w3 ⟨rfl, hb3⟩
              have HB3 := Lib.hid (thenB HB2.out hb3)
              clear a0 a1 a2 a3 a4 a5 b0 b1 b2 b3 b4 b5 hb3
              have ka := HKA.out w3 HB3.out
              have a0 := ka.cell 0
              have a1 := ka.cell 1
              have a2 := ka.cell 2
              have a3 := ka.cell 3
              have a4 := ka.cell 4
              have a5 := ka.cell 5
              clear ka
              have kb := HKB.out w3 HB3.out
              have b0 := kb.cell 0
              have b1 := kb.cell 1
              have b2 := kb.cell 2
              have b3 := kb.cell 3
              have b4 := kb.cell 4
              have b5 := kb.cell 5
              clear kb
              cases r1 with
              | false =>
                go_wp2
                go_ret
                exact ⟨ret_bool (by rw [HX.out]; rfl), by rw [HG.out]; exact HB0g.out.trans (HB3.out.mono hg0)⟩
              | true =>
                go_wp2_with fail
                refine (HAG2.out w3 HB3.out).mono ?_
                rintro e w4 ⟨rfl, hb4⟩
                have HB4 := Lib.hid (thenB HB3.out hb4)
                clear a0 a1 a2 a3 a4 a5 b0 b1 b2 b3 b4 b5 hb4
                have ka := HKA.out w4 HB4.out
                have a0 := ka.cell 0
                have a1 := ka.cell 1
                have a2 := ka.cell 2
                have a3 := ka.cell 3
                have a4 := ka.cell 4
                have a5 := ka.cell 5
                clear ka
                have kb := HKB.out w4 HB4.out
                have b0 := kb.cell 0
                have b1 := kb.cell 1
                have b2 := kb.cell 2
                have b3 := kb.cell 3
                have b4 := kb.cell 4
                have b5 := kb.cell 5
                clear kb
                cases r2 with
                | false =>
                  go_wp2
                  go_ret
                  exact ⟨ret_bool (by rw [HX.out]; rfl), by rw [HG.out]; exact HB0g.out.trans (HB4.out.mono hg0)⟩
                | true =>
                  go_wp2_with fail
                  refine (HWI1.out w4 HB4.out).mono ?_
                  rintro e w5 ⟨rfl, hb5⟩
                  have HB5 := Lib.hid (thenB HB4.out hb5)
                  clear a0 a1 a2 a3 a4 a5 b0 b1 b2 b3 b4 b5 hb5
                  have ka := HKA.out w5 HB5.out
                  have a0 := ka.cell 0
                  have a1 := ka.cell 1
                  have a2 := ka.cell 2
                  have a3 := ka.cell 3
                  have a4 := ka.cell 4
                  have a5 := ka.cell 5
                  clear ka
                  have kb := HKB.out w5 HB5.out
                  have b0 := kb.cell 0
                  have b1 := kb.cell 1
                  have b2 := kb.cell 2
                  have b3 := kb.cell 3
                  have b4 := kb.cell 4
                  have b5 := kb.cell 5
                  clear kb
                  cases r3 with
                  | false =>
                    go_wp2
                    go_ret
                    exact ⟨ret_bool (by rw [HX.out]; rfl), by rw [HG.out]; exact HB0g.out.trans (HB5.out.mono hg0)⟩
                  | true =>
                    go_wp2_with fail
                    refine (HWI2.out w5 HB5.out).mono ?_
                    rintro e w6 ⟨rfl, hb6⟩
                    have HB6 := Lib.hid (thenB HB5.out hb6)
                    clear a0 a1 a2 a3 a4 a5 b0 b1 b2 b3 b4 b5 hb6
                    go_wp2
                    go_ret
                    exact ⟨ret_bool (by rw [HX.out]; rfl), by rw [HG.out]; exact HB0g.out.trans (HB6.out.mono hg0)⟩
            · have HX := Lib.hid (eq_no3 (a := a) (b := b) (fun h => q4 h.2.2.2))
              have t4 : ((a.port : Int) != b.port) = true := by simpa using q4
              clear hca hcb q1 q2 q3 q4
              go_wp2
              go_ret
              exact ⟨ret_bool HX.out.symm, by rw [HG.out]; exact HB0g.out.trans (HB2.out.mono hg0)⟩
          · have HX := Lib.hid (eq_no3 (a := a) (b := b) (fun h => q3 h.2.2.1))
            have t3 := str_ne q3
            have t3b := str_neb q3
            clear hca hcb q3
            go_wp2
            go_ret
            exact ⟨ret_bool HX.out.symm, by rw [HG.out]; exact HB0g.out.trans (HB2.out.mono hg0)⟩
        · have HX := Lib.hid (eq_no3 (a := a) (b := b) (fun h => q2 h.2.1))
          have t2 := str_ne q2
          have t2b := str_neb q2
          clear hca hcb q2
          go_wp2
          go_ret
          exact ⟨ret_bool HX.out.symm, by rw [HG.out]; exact HB0g.out.trans (HB2.out.mono hg0)⟩
      · have HX := Lib.hid (eq_no3 (a := a) (b := b) (fun h => q1 h.1))
        have t1 := str_ne q1
        have t1b := str_neb q1
        clear hca hcb q1
        go_wp2
        go_ret
        exact ⟨ret_bool HX.out.symm, by rw [HG.out]; exact HB0g.out.trans (HB2.out.mono hg0)⟩
    · have HX := Lib.hid (eq_no2 (a := a) hcb)
      have qc : (checkE b != 0) = true := by simpa using hcb
      clear hca hcb
      go_wp2
      go_ret
      exact ⟨ret_bool HX.out.symm, by rw [HG.out]; exact HB0g.out.trans (HB2.out.mono hg0)⟩
  · have HX := Lib.hid (eq_no1 (b := b) hca)
    have qc : (checkE a != 0) = true := by simpa using hca
    clear hca
    go_wp2
    go_ret
    exact ⟨ret_bool HX.out.symm, by rw [HG.out]; exact HB0g.out.trans (HB1.out.mono hg0)⟩
end Go.Proofs.YtpnchfigehgkgaaDoor
namespace Go.Proofs.YtpnchfigehgkgaaDoor
set_option linter.unusedSimpArgs false
set_option linter.unusedVariables false
open Go.RowKit
/-- where the first of a name stands -/
def PlaceIs (n : T) (l : List Par) (z : Int) : Prop := (z = -1 ∧ findP n l = none) ∨ ∃ k, ∃ h : k < l.length, z = (k : Int) ∧ findP n l = some l[k]
def PlacePost (n : T) (l : List Par) (w : World) (e : Ending) (w' : World) : Prop := ∃ z, e = .returned (.int .i64 z) ∧ PlaceIs n l z ∧ Below w.heap.size w w'
set_option maxRecDepth 100000 in
set_option maxHeartbeats 4000000 in
theorem Place_any {l : List Par} {n : T} {A : Option Addr} {c B : Nat} {w : World} (hB : B ≤ w.heap.size) (hr : RdB w B 3 l.length A (rows parC l)) (hl : l.length ≤ maxLen) (hs : ∀ p ∈ l, parS p) (hn : n.length ≤ 140737488351232) :
    Calls Tryd.prog 83 #[.slice A l.length c, .string (str n)] w (PlacePost n l w) := by
  unfold maxLen at hl
  have HR := Lib.hid hr
  have HS := Lib.hid hs
  clear hr hs
  go_enter Tryd.func83, Tryd.ntmps83
  go_wp2
  go_loopw [5] (fun i wr => ∃ j : Nat, j ≤ l.length ∧ i = .int .i64 j ∧ findP n l = findP n (l.drop j) ∧ Below w.heap.size w wr) (fun i _ => l.length - (intOf i).toNat)
  case atStart => exact ⟨0, by omega, rfl, rfl, Below.refl _ _⟩
  case round =>
    obtain ⟨j, hj, rfl, hF, hb⟩ := hrel
    have HF := Lib.hid hF
    have HB := Lib.hid hb
    have hsz := hb.size
    by_cases hlt : j < l.length
    · have x0 : (0 : Int) ≤ j := by omega
      have x1 : (j : Int) < l.length := by omega
      obtain ⟨gb, off, rfl, hgb, zc0, zc1, zc2⟩ := PrmB.at_ (HR.out.below (hb.mono hB)) hlt
      have hps := HS.out _ (List.getElem_mem hlt)
      have HEQ : Hid (sameS (str l[j].name) (str n) = decide (low l[j].name = low n)) := Lib.hid rfl
      have HHIT := Lib.hid (fun q => find_hit HF.out hlt q)
      have HNX := Lib.hid (fun q => find_next HF.out hlt q)
      have HSAME : Hid (∀ W, Calls Tryd.prog 110 #[.string (str l[j].name), .string (str n)] W (fun e w' => e = .returned (.bool (sameS (str l[j].name) (str n))) ∧ Below W.heap.size W w')) := Lib.hid (fun W => rSame_any _ _ W (by have := hps.1; show l[j].name.length ≤ _; omega) (by show n.length ≤ _; omega))
      clear hF hb hps
      go_wp2_with fail
      refine (HSAME.out _).mono ?_
      rintro e w1 ⟨rfl, hb1⟩
      have HB1 := Lib.hid (thenB HB.out hb1)
      rw [HEQ.out]
      clear hb1
      by_cases he : low l[j].name = low n
      · have HX := Lib.hid (HHIT.out he)
        rw [decide_eq_true he]
        clear he
        go_wp2
        go_ret
        exact ⟨_, rfl, .inr ⟨j, hlt, rfl, HX.out⟩, HB1.out⟩
      · have HX := Lib.hid (HNX.out he)
        rw [decide_eq_false he]
        clear he
        go_wp2
        go_roundw
        case rel => exact ⟨j + 1, by omega, by go_num, HX.out, HB1.out⟩
        case measure => simp [intOf] <;> omega
    · have x1 : ¬ (j : Int) < l.length := by omega
      have HX := Lib.hid (find_end HF.out (by omega))
      clear hF hb
      go_wp2
      go_ret
      exact ⟨_, rfl, .inl ⟨rfl, HX.out⟩, HB.out⟩
set_option maxHeartbeats 2000000 in
theorem rValue_any {l : List Par} {n : T} {A : Option Addr} {c B : Nat} {w : World} (hB : B ≤ w.heap.size) (hr : RdB w B 3 l.length A (rows parC l)) (hl : l.length ≤ maxLen) (hs : ∀ p ∈ l, parS p) (hn : n.length ≤ 140737488351232) :
    Calls Tryd.prog 37 #[.slice A l.length c, .string (str n)] w fun e w' => e = .returned (valueV (findP n l)) ∧ Below w.heap.size w w' := by
  have HF := Lib.hid (Place_any (c := c) hB hr hl hs hn)
  have HR := Lib.hid hr
  clear hr
  go_enter Tryd.func37, Tryd.ntmps37
  go_wp2_with fail
  refine HF.out.mono ?_
  rintro e w1 ⟨z, rfl, hz, hb⟩
  have HB := Lib.hid hb
  rcases hz with ⟨rfl, hn⟩ | ⟨k, hk, rfl, hs⟩
  · have HX := Lib.hid hn
    clear hn hb
    go_wp2
    go_ret2
    exact ⟨by rw [HX.out]; rfl, HB.out⟩
  · have HX := Lib.hid hs
    obtain ⟨gb, off, rfl, hgb, zc0, zc1, zc2⟩ := PrmB.at_ (HR.out.below (hb.mono hB)) hk
    have x0 : (0 : Int) ≤ k := by omega
    have x1 : (k : Int) < l.length := by omega
    clear hs hb
    go_wp2
    go_ret2
    exact ⟨by rw [HX.out]; rfl, HB.out⟩
def halfB (a b : Uri) : Bool := a.params.all (agree1 b.params) && a.headers.all (within1 b.headers)
theorem half_no1 {a b : Uri} (h : a.params.all (agree1 b.params) = false) : halfB a b = false := by unfold halfB; rw [h]; rfl
theorem half_no2 {a b : Uri} (h : a.headers.all (within1 b.headers) = false) : halfB a b = false := by unfold halfB; rw [h, Bool.and_false]
theorem half_yes {a b : Uri} (h : a.params.all (agree1 b.params) = true) (h2 : a.headers.all (within1 b.headers) = true) : halfB a b = true := by unfold halfB; rw [h, h2]; rfl
set_option maxRecDepth 100000 in
set_option maxHeartbeats 8000000 in
theorem half_any {a b : Uri} {va vb : Value} {B : Nat} {w : World} (hB : B ≤ w.heap.size) (ha : UriB w B va a) (hb : UriB w B vb b) (sa : UriS a) (sb : UriS b) :
    Calls Tryd.prog 84 #[va, vb] w fun e w' => e = .returned (.bool (halfB a b)) ∧ Below w.heap.size w w' := by
  obtain ⟨vp, vh, rfl, ⟨A1, c1, rfl, hp⟩, ⟨A2, c2, rfl, hh⟩⟩ := ha
  obtain ⟨vp2, vh2, rfl, ⟨A3, c3, rfl, hp2⟩, ⟨A4, c4, rfl, hh2⟩⟩ := hb
  unfold uriV
  obtain ⟨w0, hw0⟩ : ∃ w0, (w.alloc (.cells #[.string (str a.scheme), .string (str a.user), .string (str a.host), .int .i64 a.port, .slice A1 a.params.length c1, .slice A2 a.headers.length c2] 24)).alloc (.cells #[.string (str b.scheme), .string (str b.user), .string (str b.host), .int .i64 b.port, .slice A3 b.params.length c3, .slice A4 b.headers.length c4] 24) = w0 := ⟨_, rfl⟩
  obtain ⟨hb0, hs0, hka, hkb⟩ := two_box hw0
  have HB0 := Lib.hid hb0
  obtain ⟨g, hg⟩ : ∃ g, w.heap.size = g := ⟨_, rfl⟩
  have HFIN : Hid (∀ W, Below w0.heap.size w0 W → Below w.heap.size w W) := Lib.hid (fun W h => thenB HB0.out h)
  have HFIN2 : Hid (∀ W, Below w0.heap.size w0 W → Below g w W) := Lib.hid (fun W h => by rw [← hg]; exact HFIN.out W h)
  have HG := Lib.hid hg
  rw [hg] at hka hkb hs0
  have HC : Hid (∀ W, Below w0.heap.size w0 W → W.cell? ⟨g, 4, none⟩ = some (.slice A1 a.params.length c1) ∧ W.cell? ⟨g, 5, none⟩ = some (.slice A2 a.headers.length c2) ∧ W.cell? ⟨g + 1, 4, none⟩ = some (.slice A3 b.params.length c3) ∧ W.cell? ⟨g + 1, 5, none⟩ = some (.slice A4 b.headers.length c4)) := Lib.hid (fun W h => ⟨(hka W h).cell 4, (hka W h).cell 5, (hkb W h).cell 4, (hkb W h).cell 5⟩)
  have HP := Lib.hid (fun W (h : Below w0.heap.size w0 W) => (hp.below (hb0.mono hB)).below (h.mono (by omega : B ≤ w0.heap.size)))
  have HH := Lib.hid (fun W (h : Below w0.heap.size w0 W) => (hh.below (hb0.mono hB)).below (h.mono (by omega : B ≤ w0.heap.size)))
  have HP2 := Lib.hid (fun W (h : Below w0.heap.size w0 W) => (hp2.below (hb0.mono hB)).below (h.mono (by omega : B ≤ w0.heap.size)))
  have HH2 := Lib.hid (fun W (h : Below w0.heap.size w0 W) => (hh2.below (hb0.mono hB)).below (h.mono (by omega : B ≤ w0.heap.size)))
  have hBw : B ≤ w0.heap.size := by omega
  have hgw : g ≤ w0.heap.size := by omega
  have lpa : a.params.length ≤ maxLen := by have := sa.params; unfold maxLen; omega
  have lha : a.headers.length ≤ maxLen := by have := sa.headers; unfold maxLen; omega
  have lpb : b.params.length ≤ maxLen := by have := sb.params; unfold maxLen; omega
  have lhb : b.headers.length ≤ maxLen := by have := sb.headers; unfold maxLen; omega
  have HPL : Hid (∀ (W : World) n, Below w0.heap.size w0 W → n.length ≤ 140737488351232 → Calls Tryd.prog 83 #[.slice A3 b.params.length c3, .string (str n)] W (PlacePost n b.params W)) := Lib.hid (fun W n h hn => Place_any (Nat.le_trans hBw h.size) (HP2.out W h) lpb sb.par hn)
  have HPH : Hid (∀ (W : World) n, Below w0.heap.size w0 W → n.length ≤ 140737488351232 → Calls Tryd.prog 83 #[.slice A4 b.headers.length c4, .string (str n)] W (PlacePost n b.headers W)) := Lib.hid (fun W n h hn => Place_any (Nat.le_trans hBw h.size) (HH2.out W h) lhb sb.hdr hn)
  have SA := Lib.hid sa
  have SB := Lib.hid sb
  unfold maxLen at lpa lha lpb lhb
  clear hp hh hp2 hh2 hb0 hka hkb sa sb
  go_enter Tryd.func84, Tryd.ntmps84
  go_wp2
  go_loopw [5] (fun i wr => ∃ j : Nat, j ≤ a.params.length ∧ i = .int .i64 j ∧ AllQ (agree1 b.params) a.params j ∧ Below w0.heap.size w0 wr) (fun i _ => a.params.length - (intOf i).toNat)
  case atStart => exact ⟨0, by omega, rfl, by simp [AllQ], Below.refl _ _⟩
  case round =>
    obtain ⟨j, hj, rfl, hA, hbe⟩ := hrel
    have HA := Lib.hid hA
    have HB := Lib.hid hbe
    have hsz := hbe.size
    obtain ⟨k4, k5, m4, m5⟩ := HC.out _ hbe
    by_cases hlt : j < a.params.length
    · have x0 : (0 : Int) ≤ j := by omega
      have x1 : (j : Int) < a.params.length := by omega
      obtain ⟨gb, off, rfl, hgb, zc0, zc1, zc2⟩ := PrmB.at_ (HP.out _ hbe) hlt
      have hps := SA.out.par _ (List.getElem_mem hlt)
      have HNO := Lib.hid (fun q => half_no1 (b := b) (allq_no (f := agree1 b.params) hlt q))
      have HYES := Lib.hid (fun q => allq_step HA.out hlt q)
      generalize a.params[j] = p at *
      have hpn : p.name.length ≤ 140737488351232 := hps.1
      have hpv : p.value.length ≤ 140737488351232 := hps.2
      have hal : Below wr.heap.size wr (wr.alloc (.cells #[.string (str p.name), .string (str p.value), .bool p.has] 95)) := (Below.refl _ _).alloc (Nat.le_refl _) _
      have HC1 := Lib.hid (HC.out _ (thenB hbe hal))
      have d0 := HC1.out.1
      have d1 := HC1.out.2.1
      have d2 := HC1.out.2.2.1
      have d3 := HC1.out.2.2.2
      clear hps hA hbe
      go_wp2_with fail
      obtain ⟨w1, hw1⟩ : ∃ w1, wr.alloc (.cells #[.string (str p.name), .string (str p.value), .bool p.has] 95) = w1 := ⟨_, rfl⟩
      have HK1 : Hid (Blk w1 wr.heap.size 95 #[.string (str p.name), .string (str p.value), .bool p.has]) := Lib.hid (hw1 ▸ Blk.new wr _ _)
      rw [hw1] at hal ⊢
      have HB1 := Lib.hid (thenB HB.out hal)
      obtain ⟨gp, hgp⟩ : ∃ gp, wr.heap.size = gp := ⟨_, rfl⟩
      rw [hgp] at HK1 ⊢
      clear hal hw1 hgp d0 d1 d2 d3 HC1 k4 k5 m4 m5
      refine (HPL.out w1 p.name HB1.out hpn).mono ?_
      rintro e w2 ⟨z, rfl, hz, hb2⟩
      have HB2 := Lib.hid (thenB HB1.out hb2)
      have HK2 := Lib.hid (HK1.out.fr (Fr.of_below (F := fun _ => False) hb2) (fun h => h))
      have c0 := HK2.out.cell 0
      have c1 := HK2.out.cell 1
      have c2 := HK2.out.cell 2
      obtain ⟨k4, k5, m4, m5⟩ := HC.out _ HB2.out
      clear hb2
      rcases hz with ⟨rfl, hf⟩ | ⟨k, hk, rfl, hf⟩
      · have HAG := Lib.hid (agree_none hf)
        have HGR := Lib.hid (fun W => rgrave_any p.name W hpn)
        clear hf
        go_wp2_with fail
        refine (HGR.out _).mono ?_
        rintro e w4 ⟨rfl, hb4⟩
        have HB4 := Lib.hid (thenB HB2.out hb4)
        clear hb4 c0 c1 c2
        cases hgv : graveB p.name with
        | true =>
          have HX := Lib.hid (HNO.out (by rw [HAG.out, hgv]; rfl))
          go_wp2
          go_ret
          exact ⟨ret_bool HX.out.symm, by first | exact HFIN.out _ (HB4.out) | exact HFIN2.out _ (HB4.out)⟩
        | false =>
          have HX := Lib.hid (HYES.out (by rw [HAG.out, hgv]; rfl))
          go_wp2
          go_quiet (fail)
          go_wp2
          go_roundw
          case rel => exact ⟨j + 1, by omega, by go_num, HX.out, by first | exact HB4.out | exact below_drewN HB4.out _⟩
          case measure => simp [intOf] <;> omega
      · have HAG := Lib.hid (agree_some hf)
        have y0 : (0 : Int) ≤ k := by omega
        have y1 : (k : Int) < b.params.length := by omega
        obtain ⟨gb2, off2, rfl, hgb2, y20, y21, y22⟩ := PrmB.at_ (HP2.out _ HB2.out) hk
        have hqs := SB.out.par _ (List.getElem_mem hk)
        generalize b.params[k] = q at *
        have hqv : q.value.length ≤ 140737488351232 := hqs.2
        clear hf hqs
        generalize q.has = bq at *
        generalize p.has = bp at *
        by_cases hh : bq = bp
        · have hbe : (bq != bp) = false := by rw [hh]; simp
          have HSAME : Hid (∀ W, Calls Tryd.prog 110 #[.string (str q.value), .string (str p.value)] W (fun e w' => e = .returned (.bool (sameS (str q.value) (str p.value))) ∧ Below W.heap.size W w')) := Lib.hid (fun W => rSame_any _ _ W (by show q.value.length ≤ _; omega) (by show p.value.length ≤ _; omega))
          have HEQ : Hid (sameS (str q.value) (str p.value) = decide (low q.value = low p.value)) := Lib.hid rfl
          have HSS : Hid (∀ W, Below w2.heap.size w2 W → W.cell? ⟨g + 1, 4, none⟩ = some (.slice (some ⟨gb2, off2, none⟩) b.params.length c3) ∧ W.cell? ⟨gb2, off2 + k * 3 + 1, none⟩ = some (.string (str q.value)) ∧ W.cell? ⟨gb2, off2 + k * 3 + 2, none⟩ = some (.bool bq) ∧ W.cell? ⟨gp, 1, none⟩ = some (.string (str p.value)) ∧ W.cell? ⟨gp, 2, none⟩ = some (.bool bp)) := Lib.hid (fun W h => by
            have hkp := HK2.out.fr (Fr.of_below (F := fun _ => False) h) (fun h => h)
            have hlt2 : gb2 < w2.heap.size := by have := HB2.out.size; omega
            exact ⟨(HC.out W (thenB HB2.out h)).2.2.1, (h.cell (p := ⟨gb2, off2 + k * 3 + 1, none⟩) hlt2).trans y21, (h.cell (p := ⟨gb2, off2 + k * 3 + 2, none⟩) hlt2).trans y22, hkp.cell 1, hkp.cell 2⟩)
          clear c0 c1 c2 k4 k5 m4 m5 y20 y21 y22
          go_wp2_with fail
          go_region_held3 (fun w' => w'.cell? ⟨g + 1, 4, none⟩ = some (.slice (some ⟨gb2, off2, none⟩) b.params.length c3) ∧ w'.cell? ⟨gb2, off2 + k * 3 + 1, none⟩ = some (.string (str q.value)) ∧ w'.cell? ⟨gb2, off2 + k * 3 + 2, none⟩ = some (.bool bq) ∧ w'.cell? ⟨gp, 1, none⟩ = some (.string (str p.value)) ∧ w'.cell? ⟨gp, 2, none⟩ = some (.bool bp))
            (first | exact HSS.out _ (Below.refl _ _) | exact HSS.out _ (Below.refl _ _).drew | exact HSS.out _ ((Below.refl _ _).drew.trans hb5))
            (first | (go_at_call 110; (with_reducible refine (HSAME.out _).mono ?_); rintro e w5 ⟨rfl, hb5⟩; rw [HEQ.out]))
          all_goals
            have HB5 := Lib.hid (thenB HB2.out ((Below.refl _ _).drew.trans hb5))
            clear hb5
            by_cases hv : low q.value = low p.value
            · have HX := Lib.hid (HYES.out (by rw [HAG.out, decide_eq_true hv, decide_eq_true hh]; rfl))
              have hdv : decide (low q.value = low p.value) = true := decide_eq_true hv
              clear hv hh hbe
              try rw [hdv]
              go_wp2
              go_roundw
              case rel => exact ⟨j + 1, by omega, by go_num, HX.out, HB5.out⟩
              case measure => simp [intOf] <;> omega
            · have HX := Lib.hid (HNO.out (by rw [HAG.out, decide_eq_false hv, Bool.and_false]))
              have hdv : decide (low q.value = low p.value) = false := decide_eq_false hv
              clear hv hh hbe
              try rw [hdv]
              go_wp2
              go_ret
              exact ⟨ret_bool HX.out.symm, by first | exact HFIN.out _ (HB5.out) | exact HFIN2.out _ (HB5.out)⟩
        · have HX := Lib.hid (HNO.out (by rw [HAG.out, decide_eq_false hh, Bool.false_and]))
          have hbb : (bq = true ∧ bp = false) ∨ (bq = false ∧ bp = true) := by cases bq <;> cases bp <;> simp_all
          clear hh
          rcases hbb with ⟨rfl, rfl⟩ | ⟨rfl, rfl⟩
          all_goals
           go_wp2
           go_quiet (fail)
           go_wp2
           go_ret
           exact ⟨ret_bool HX.out.symm, by first | exact HFIN.out _ (by first | exact HB2.out | exact below_drewN HB2.out _) | exact HFIN2.out _ (by first | exact HB2.out | exact below_drewN HB2.out _)⟩
    · have x1 : ¬ (j : Int) < a.params.length := by omega
      have HPA := Lib.hid (allq_end HA.out (by omega))
      clear hA hbe
      go_wp2
      obtain ⟨wp, hwp⟩ : ∃ wp, wp = wr := ⟨_, rfl⟩
      have HBP : Hid (Below w0.heap.size w0 wp) := by rw [hwp]; exact HB
      clear k4 k5 m4 m5 hj hlt x1 hsz HB
      go_loopw [8] (fun i wr => ∃ j : Nat, j ≤ a.headers.length ∧ i = .int .i64 j ∧ AllQ (within1 b.headers) a.headers j ∧ Below w0.heap.size w0 wr) (fun i _ => a.headers.length - (intOf i).toNat)
      case atStart => exact ⟨0, by omega, rfl, by simp [AllQ], by rw [← hwp]; exact HBP.out⟩
      case round =>
        obtain ⟨i, hi, rfl, hA, hbe⟩ := hrel
        have HA := Lib.hid hA
        have HB := Lib.hid hbe
        have hsz := hbe.size
        obtain ⟨k4, k5, m4, m5⟩ := HC.out _ hbe
        by_cases hlt : i < a.headers.length
        · have x0 : (0 : Int) ≤ i := by omega
          have x1 : (i : Int) < a.headers.length := by omega
          obtain ⟨gb, off, rfl, hgb, zc0, zc1, zc2⟩ := PrmB.at_ (HH.out _ hbe) hlt
          have hps := SA.out.hdr _ (List.getElem_mem hlt)
          have HNO := Lib.hid (fun q => half_no2 (a := a) (b := b) (allq_no (f := within1 b.headers) hlt q))
          have HYES := Lib.hid (fun q => allq_step HA.out hlt q)
          generalize a.headers[i] = p at *
          have hpn : p.name.length ≤ 140737488351232 := hps.1
          have HSS : Hid (∀ W, Below wr.heap.size wr W → W.cell? ⟨g, 5, none⟩ = some (.slice (some ⟨gb, off, none⟩) a.headers.length c2) ∧ W.cell? ⟨g + 1, 5, none⟩ = some (.slice A4 b.headers.length c4) ∧ W.cell? ⟨gb, off + i * 3, none⟩ = some (.string (str p.name)) ∧ W.cell? ⟨gb, off + i * 3 + 1, none⟩ = some (.string (str p.value))) := Lib.hid (fun W h => by
            have hlt2 : gb < wr.heap.size := by omega
            have hcc := HC.out W (thenB HB.out h)
            exact ⟨hcc.2.1, hcc.2.2.2, (h.cell (p := ⟨gb, off + i * 3, none⟩) hlt2).trans zc0, (h.cell (p := ⟨gb, off + i * 3 + 1, none⟩) hlt2).trans zc1⟩)
          have HS3 : Hid (∀ W, Below wr.heap.size wr W → W.cell? ⟨g, 5, none⟩ = some (.slice (some ⟨gb, off, none⟩) a.headers.length c2) ∧ W.cell? ⟨g + 1, 5, none⟩ = some (.slice A4 b.headers.length c4) ∧ W.cell? ⟨gb, off + i * 3, none⟩ = some (.string (str p.name))) := Lib.hid (fun W h => ⟨(HSS.out W h).1, (HSS.out W h).2.1, (HSS.out W h).2.2.1⟩)
          clear hps hA hbe k4 m4 m5 zc0 zc1 zc2
          go_wp2_with fail
          clear k5
          go_region_held3 (fun w' => w'.cell? ⟨g, 5, none⟩ = some (.slice (some ⟨gb, off, none⟩) a.headers.length c2) ∧ w'.cell? ⟨g + 1, 5, none⟩ = some (.slice A4 b.headers.length c4) ∧ w'.cell? ⟨gb, off + i * 3, none⟩ = some (.string (str p.name)))
            (first | exact HS3.out _ (Below.refl _ _) | exact HS3.out _ (Below.refl _ _).drew | exact HS3.out _ ((Below.refl _ _).drew.trans hb5))
            (first | (go_at_call 83; (with_reducible refine (HPH.out _ p.name HB.out.drew hpn).mono ?_); rintro e w5 ⟨z, rfl, hz, hb5⟩))
          have HR5 := Lib.hid ((Below.refl wr.heap.size wr).drew.trans hb5)
          have HB5 := Lib.hid (thenB HB.out HR5.out)
          obtain ⟨q1, q2, q3, q4⟩ := HSS.out _ HR5.out
          clear hb5
          rcases hz with ⟨rfl, hf⟩ | ⟨k, hk, rfl, hf⟩
          · have HX := Lib.hid (HNO.out (within_none hf))
            clear hf
            go_wp2
            go_quiet (fail)
            go_wp2
            go_ret
            exact ⟨ret_bool HX.out.symm, by first | exact HFIN.out _ (by first | exact HB5.out | exact below_drewN HB5.out _) | exact HFIN2.out _ (by first | exact HB5.out | exact below_drewN HB5.out _)⟩
          · have HAG := Lib.hid (within_some hf)
            have y0 : (0 : Int) ≤ k := by omega
            have y1 : (k : Int) < b.headers.length := by omega
            obtain ⟨gb2, off2, rfl, hgb2, y20, y21, y22⟩ := PrmB.at_ (HH2.out _ HB5.out) hk
            generalize b.headers[k] = q at *
            clear hf
            by_cases hv : q.value = p.value
            · have HX := Lib.hid (HYES.out (by rw [HAG.out, decide_eq_true hv]))
              have hvs : str q.value = str p.value := by rw [hv]
              clear hv
              go_wp2
              go_quiet (fail)
              go_wp2
              go_roundw
              case rel => exact ⟨i + 1, by omega, by go_num, HX.out, by first | exact HB5.out | exact below_drewN HB5.out _⟩
              case measure => simp [intOf] <;> omega
            · have HX := Lib.hid (HNO.out (by rw [HAG.out, decide_eq_false hv]))
              have hn3 := str_ne hv
              have hn4 := str_neb hv
              clear hv
              go_wp2
              go_quiet (fail)
              go_wp2
              go_ret
              exact ⟨ret_bool HX.out.symm, by first | exact HFIN.out _ (by first | exact HB5.out | exact below_drewN HB5.out _) | exact HFIN2.out _ (by first | exact HB5.out | exact below_drewN HB5.out _)⟩
        · have x1 : ¬ (i : Int) < a.headers.length := by omega
          have HX := Lib.hid (half_yes HPA.out (allq_end HA.out (by omega)))
          clear hA hbe
          go_wp2
          go_ret
          exact ⟨ret_bool HX.out.symm, by first | exact HFIN.out _ (HB.out) | exact HFIN2.out _ (HB.out)⟩
end Go.Proofs.YtpnchfigehgkgaaDoor
namespace Go.Proofs.YtpnchfigehgkgaaDoor
set_option linter.unusedSimpArgs false
set_option linter.unusedVariables false
open Go.RowKit
theorem halves (a b : Uri) : (a.params.all (agree1 b.params) && b.params.all (agree1 a.params) && a.headers.all (within1 b.headers) && b.headers.all (within1 a.headers)) = (halfB a b && halfB b a) := by
  unfold halfB
  generalize a.params.all (agree1 b.params) = x
  generalize b.params.all (agree1 a.params) = y
  generalize a.headers.all (within1 b.headers) = z
  generalize b.headers.all (within1 a.headers) = t
  cases x <;> cases y <;> cases z <;> cases t <;> rfl
set_option maxRecDepth 100000 in
set_option maxHeartbeats 8000000 in
theorem rEqual_any {a b : Uri} {va vb : Value} {B : Nat} {w : World} (hB : B ≤ w.heap.size) (ha : UriB w B va a) (hb : UriB w B vb b) (sa : UriS a) (sb : UriS b) :
    Calls Tryd.prog 38 #[va, vb] w fun e w' => e = .returned (.bool (equalB a b)) ∧ Below w.heap.size w w' := by
  obtain ⟨vp, vh, rfl, ⟨A1, c1, rfl, hp⟩, ⟨A2, c2, rfl, hh⟩⟩ := ha
  obtain ⟨vp2, vh2, rfl, ⟨A3, c3, rfl, hp2⟩, ⟨A4, c4, rfl, hh2⟩⟩ := hb
  unfold uriV
  obtain ⟨w0, hw0⟩ : ∃ w0, (w.alloc (.cells #[.string (str a.scheme), .string (str a.user), .string (str a.host), .int .i64 a.port, .slice A1 a.params.length c1, .slice A2 a.headers.length c2] 24)).alloc (.cells #[.string (str b.scheme), .string (str b.user), .string (str b.host), .int .i64 b.port, .slice A3 b.params.length c3, .slice A4 b.headers.length c4] 24) = w0 := ⟨_, rfl⟩
  obtain ⟨hb0, hs0, hka, hkb⟩ := two_box hw0
  have HB0 := Lib.hid hb0
  have HKA := Lib.hid hka
  have HKB := Lib.hid hkb
  have HP := Lib.hid (fun W (h : Below w0.heap.size w0 W) => (hp.below (hb0.mono hB)).below (h.mono (by omega : B ≤ w0.heap.size)))
  have HH := Lib.hid (fun W (h : Below w0.heap.size w0 W) => (hh.below (hb0.mono hB)).below (h.mono (by omega : B ≤ w0.heap.size)))
  have HP2 := Lib.hid (fun W (h : Below w0.heap.size w0 W) => (hp2.below (hb0.mono hB)).below (h.mono (by omega : B ≤ w0.heap.size)))
  have HH2 := Lib.hid (fun W (h : Below w0.heap.size w0 W) => (hh2.below (hb0.mono hB)).below (h.mono (by omega : B ≤ w0.heap.size)))
  have HSZ : Hid (∀ W, Below w0.heap.size w0 W → B ≤ W.heap.size) := Lib.hid (fun W h => by have := h.size; omega)
  have SA := Lib.hid sa
  have SB := Lib.hid sb
  have HCA : Hid (∀ W, Below w0.heap.size w0 W → Calls Tryd.prog 40 #[.agg #[.string (str a.scheme), .string (str a.user), .string (str a.host), .int .i64 a.port, .slice A1 a.params.length c1, .slice A2 a.headers.length c2]] W (fun e w' => e = .returned (.int .i64 (checkE a)) ∧ Below W.heap.size W w')) := Lib.hid (fun W h => rCheck_any (u := a) (vp := .slice A1 a.params.length c1) (vh := .slice A2 a.headers.length c2) (HSZ.out W h) ⟨_, _, rfl, HP.out W h⟩ ⟨_, _, rfl, HH.out W h⟩ sa)
  have HCB : Hid (∀ W, Below w0.heap.size w0 W → Calls Tryd.prog 40 #[.agg #[.string (str b.scheme), .string (str b.user), .string (str b.host), .int .i64 b.port, .slice A3 b.params.length c3, .slice A4 b.headers.length c4]] W (fun e w' => e = .returned (.int .i64 (checkE b)) ∧ Below W.heap.size W w')) := Lib.hid (fun W h => rCheck_any (u := b) (vp := .slice A3 b.params.length c3) (vh := .slice A4 b.headers.length c4) (HSZ.out W h) ⟨_, _, rfl, HP2.out W h⟩ ⟨_, _, rfl, HH2.out W h⟩ sb)
  have HAF : Hid (∀ W, Below w0.heap.size w0 W → Calls Tryd.prog 84 #[.agg #[.string (str a.scheme), .string (str a.user), .string (str a.host), .int .i64 a.port, .slice A1 a.params.length c1, .slice A2 a.headers.length c2], .agg #[.string (str b.scheme), .string (str b.user), .string (str b.host), .int .i64 b.port, .slice A3 b.params.length c3, .slice A4 b.headers.length c4]] W (fun e w' => e = .returned (.bool (halfB a b)) ∧ Below W.heap.size W w')) := Lib.hid (fun W h => half_any (a := a) (b := b) (HSZ.out W h) ⟨_, _, rfl, ⟨_, _, rfl, HP.out W h⟩, ⟨_, _, rfl, HH.out W h⟩⟩ ⟨_, _, rfl, ⟨_, _, rfl, HP2.out W h⟩, ⟨_, _, rfl, HH2.out W h⟩⟩ sa sb)
  have HBF : Hid (∀ W, Below w0.heap.size w0 W → Calls Tryd.prog 84 #[.agg #[.string (str b.scheme), .string (str b.user), .string (str b.host), .int .i64 b.port, .slice A3 b.params.length c3, .slice A4 b.headers.length c4], .agg #[.string (str a.scheme), .string (str a.user), .string (str a.host), .int .i64 a.port, .slice A1 a.params.length c1, .slice A2 a.headers.length c2]] W (fun e w' => e = .returned (.bool (halfB b a)) ∧ Below W.heap.size W w')) := Lib.hid (fun W h => half_any (a := b) (b := a) (HSZ.out W h) ⟨_, _, rfl, ⟨_, _, rfl, HP2.out W h⟩, ⟨_, _, rfl, HH2.out W h⟩⟩ ⟨_, _, rfl, ⟨_, _, rfl, HP.out W h⟩, ⟨_, _, rfl, HH.out W h⟩⟩ sb sa)
  have HB0g : Hid (Below w.heap.size w w0) := HB0
  have hg0 : w.heap.size ≤ w0.heap.size := by omega
  obtain ⟨g, hg⟩ : ∃ g, w.heap.size = g := ⟨_, rfl⟩
  have HG := Lib.hid hg
  rw [hg] at HKA HKB HB0g hg0
  clear hp hh hp2 hh2 hb0 hka hkb sa sb hs0
  have ka := HKA.out w0 (Below.refl _ _)
  have a0 := ka.cell 0
  have a1 := ka.cell 1
  have a2 := ka.cell 2
  have a3 := ka.cell 3
  have a4 := ka.cell 4
  have a5 := ka.cell 5
  clear ka
  have kb := HKB.out w0 (Below.refl _ _)
  have b0 := kb.cell 0
  have b1 := kb.cell 1
  have b2 := kb.cell 2
  have b3 := kb.cell 3
  have b4 := kb.cell 4
  have b5 := kb.cell 5
  clear kb
  go_enter Tryd.func38, Tryd.ntmps38
  go_wp2_with fail
  refine (HCA.out w0 (Below.refl _ _)).mono ?_
  rintro e w1 ⟨rfl, hb1⟩
  have HB1 := Lib.hid hb1
  clear a0 a1 a2 a3 a4 a5 b0 b1 b2 b3 b4 b5 hb1
  have ka := HKA.out w1 HB1.out
  have a0 := ka.cell 0
  have a1 := ka.cell 1
  have a2 := ka.cell 2
  have a3 := ka.cell 3
  have a4 := ka.cell 4
  have a5 := ka.cell 5
  clear ka
  have kb := HKB.out w1 HB1.out
  have b0 := kb.cell 0
  have b1 := kb.cell 1
  have b2 := kb.cell 2
  have b3 := kb.cell 3
  have b4 := kb.cell 4
  have b5 := kb.cell 5
  clear kb
  by_cases hca : checkE a = 0
  · rw [hca]
    go_wp2_with fail
    refine (HCB.out w1 HB1.out).mono ?_
    rintro e w2 ⟨rfl, hb2⟩
    have HB2 := Lib.hid (thenB HB1.out hb2)
    clear a0 a1 a2 a3 a4 a5 b0 b1 b2 b3 b4 b5 hb2
    have ka := HKA.out w2 HB2.out
    have a0 := ka.cell 0
    have a1 := ka.cell 1
    have a2 := ka.cell 2
    have a3 := ka.cell 3
    have a4 := ka.cell 4
    have a5 := ka.cell 5
    clear ka
    have kb := HKB.out w2 HB2.out
    have b0 := kb.cell 0
    have b1 := kb.cell 1
    have b2 := kb.cell 2
    have b3 := kb.cell 3
    have b4 := kb.cell 4
    have b5 := kb.cell 5
    clear kb
    by_cases hcb : checkE b = 0
    · rw [hcb]
      by_cases q1 : a.scheme = b.scheme
      · have t1 := str_eqt q1
        by_cases q2 : a.user = b.user
        · have t2 := str_eqt q2
          by_cases q3 : a.host = b.host
          · have t3 := str_eqt q3
            by_cases q4 : a.port = b.port
            · have HX := Lib.hid ((eq_is hca hcb q1 q2 q3 q4).trans (halves a b))
              have t4 : ((a.port : Int) != b.port) = false := by rw [q4]; simp
              clear hca hcb q1 q2 q3
              rw [q4] at HAF HBF
              generalize halfB a b = r1 at *
              generalize halfB b a = r2 at *
              go_wp2_with fail
              refine (HAF.out w2 HB2.out).mono ?_
              rintro e w3 ⟨rfl, hb3⟩
              have HB3 := Lib.hid (thenB HB2.out hb3)
              clear a0 a1 a2 a3 a4 a5 b0 b1 b2 b3 b4 b5 hb3
              have ka := HKA.out w3 HB3.out
              have a0 := ka.cell 0
              have a1 := ka.cell 1
              have a2 := ka.cell 2
              have a3 := ka.cell 3
              have a4 := ka.cell 4
              have a5 := ka.cell 5
              clear ka
              have kb := HKB.out w3 HB3.out
              have b0 := kb.cell 0
              have b1 := kb.cell 1
              have b2 := kb.cell 2
              have b3 := kb.cell 3
              have b4 := kb.cell 4
              have b5 := kb.cell 5
              clear kb
              cases r1 with
              | false =>
                go_wp2
                go_ret
                exact ⟨ret_bool (by rw [HX.out]; rfl), by rw [HG.out]; exact HB0g.out.trans (HB3.out.mono hg0)⟩
              | true =>
                go_wp2_with fail
                refine (HBF.out w3 HB3.out).mono ?_
                rintro e w4 ⟨rfl, hb4⟩
                have HB4 := Lib.hid (thenB HB3.out hb4)
                clear a0 a1 a2 a3 a4 a5 b0 b1 b2 b3 b4 b5 hb4
                go_wp2
                go_ret
                exact ⟨ret_bool (by rw [HX.out]; rfl), by rw [HG.out]; exact HB0g.out.trans (HB4.out.mono hg0)⟩
            · have HX := Lib.hid (eq_no3 (a := a) (b := b) (fun h => q4 h.2.2.2))
              have t4 : ((a.port : Int) != b.port) = true := by simpa using q4
              clear hca hcb q1 q2 q3 q4
              go_wp2
              go_ret
              exact ⟨ret_bool HX.out.symm, by rw [HG.out]; exact HB0g.out.trans (HB2.out.mono hg0)⟩
          · have HX := Lib.hid (eq_no3 (a := a) (b := b) (fun h => q3 h.2.2.1))
            have t3 := str_ne q3
            have t3b := str_neb q3
            clear hca hcb q3
            go_wp2
            go_ret
            exact ⟨ret_bool HX.out.symm, by rw [HG.out]; exact HB0g.out.trans (HB2.out.mono hg0)⟩
        · have HX := Lib.hid (eq_no3 (a := a) (b := b) (fun h => q2 h.2.1))
          have t2 := str_ne q2
          have t2b := str_neb q2
          clear hca hcb q2
          go_wp2
          go_ret
          exact ⟨ret_bool HX.out.symm, by rw [HG.out]; exact HB0g.out.trans (HB2.out.mono hg0)⟩
      · have HX := Lib.hid (eq_no3 (a := a) (b := b) (fun h => q1 h.1))
        have t1 := str_ne q1
        have t1b := str_neb q1
        clear hca hcb q1
        go_wp2
        go_ret
        exact ⟨ret_bool HX.out.symm, by rw [HG.out]; exact HB0g.out.trans (HB2.out.mono hg0)⟩
    · have HX := Lib.hid (eq_no2 (a := a) hcb)
      have qc : (checkE b != 0) = true := by simpa using hcb
      clear hca hcb
      go_wp2
      go_ret
      exact ⟨ret_bool HX.out.symm, by rw [HG.out]; exact HB0g.out.trans (HB2.out.mono hg0)⟩
  · have HX := Lib.hid (eq_no1 (b := b) hca)
    have qc : (checkE a != 0) = true := by simpa using hca
    clear hca
    go_wp2
    go_ret
    exact ⟨ret_bool HX.out.symm, by rw [HG.out]; exact HB0g.out.trans (HB1.out.mono hg0)⟩
end Go.Proofs.YtpnchfigehgkgaaDoor
namespace Go.Proofs.YtpnchfigehgkgaaDoor
set_option linter.unusedSimpArgs false
set_option linter.unusedVariables false
open Go.RowKit
theorem who_no1 {u : Uri} (h : checkE u ≠ 0) : whoE u = ([], checkE u) := if_pos h
theorem who_no2 {u : Uri} (h : checkE u = 0) (h2 : u.user = []) : whoE u = ([], 31) := by unfold whoE; rw [if_neg (by simpa using h), if_pos h2]
theorem who_ok {u : Uri} (h : checkE u = 0) (h2 : u.user ≠ []) : whoE u = (nameT u, 0) := by unfold whoE; rw [if_neg (by simpa using h), if_neg h2]
def whoV (u : Uri) : Value := .tuple #[.string (str (whoE u).1), .int .i64 (whoE u).2]
def WhoPost (u : Uri) (w : World) (e : Ending) (w' : World) : Prop := e = .returned (whoV u) ∧ Below w.heap.size w w'
theorem whoV_is {u : Uri} {r : T × Int} (h : whoE u = r) : whoV u = .tuple #[.string (str r.1), .int .i64 r.2] := by unfold whoV; rw [h]
theorem trim_sip (n : T) : (⟨(Lib.trimPrefix (str (sipT ++ 58 :: n)).data.toList (⟨#[115, 105, 112, 58]⟩ : ByteArray).data.toList).toArray⟩ : ByteArray) = str n := by
  have : Lib.trimPrefix (str (sipT ++ 58 :: n)).data.toList (⟨#[115, 105, 112, 58]⟩ : ByteArray).data.toList = n := by
    show Lib.trimPrefix ([115, 105, 112, 58] ++ n) [115, 105, 112, 58] = n
    unfold Lib.trimPrefix
    rw [if_pos (by simp [Lib.hasPrefix])]
    rfl
  rw [this]
  rfl
theorem uriS_who {u : Uri} (h : UriS u) : UriS (whoU u) := ⟨by simp [whoU, sipT], h.user, h.host, by simp [whoU], by simp [whoU], by simp [whoU], by simp [whoU], by simp [whoU]⟩
set_option maxRecDepth 100000 in
set_option maxHeartbeats 4000000 in
theorem Who_any {u : Uri} {vp vh : Value} {B : Nat} {w : World} (hB : B ≤ w.heap.size) (hp : PrmB w B vp u.params) (hh : PrmB w B vh u.headers) (hs : UriS u) :
    Calls Tryd.prog 43 #[uriV u vp vh] w (WhoPost u w) := by
  obtain ⟨Ap, cp, rfl, hp⟩ := hp
  obtain ⟨Ah, ch, rfl, hh⟩ := hh
  unfold uriV
  obtain ⟨w0, hw0⟩ : ∃ w0, w.alloc (.cells #[.string (str u.scheme), .string (str u.user), .string (str u.host), .int .i64 u.port, .slice Ap u.params.length cp, .slice Ah u.headers.length ch] 24) = w0 := ⟨_, rfl⟩
  obtain ⟨hb0, hc⟩ := uri_box hw0
  have HB0 := Lib.hid hb0
  have HC := Lib.hid hc
  have HP : Hid (∀ W, Below w0.heap.size w0 W → PrmB W B (.slice Ap u.params.length cp) u.params) := Lib.hid (fun W h => ⟨Ap, cp, rfl, (hp.below (hb0.mono hB)).below (h.mono (Nat.le_trans hB hb0.size))⟩)
  have HH : Hid (∀ W, Below w0.heap.size w0 W → PrmB W B (.slice Ah u.headers.length ch) u.headers) := Lib.hid (fun W h => ⟨Ah, ch, rfl, (hh.below (hb0.mono hB)).below (h.mono (Nat.le_trans hB hb0.size))⟩)
  have HSZ : Hid (∀ W, Below w0.heap.size w0 W → B ≤ W.heap.size) := Lib.hid (fun W h => Nat.le_trans hB (Nat.le_trans hb0.size h.size))
  have HCK : Hid (∀ W, Below w0.heap.size w0 W → Calls Tryd.prog 32 #[.agg #[.string (str u.scheme), .string (str u.user), .string (str u.host), .int .i64 u.port, .slice Ap u.params.length cp, .slice Ah u.headers.length ch]] W (fun e w' => e = .returned (.int .i64 (checkE u)) ∧ Below W.heap.size W w')) := Lib.hid (fun W h => Check_any (u := u) (HSZ.out W h) (HP.out W h) (HH.out W h) hs)
  have HPR : Hid (∀ W, Calls Tryd.prog 35 #[.agg #[.string ⟨#[115, 105, 112]⟩, .string (str u.user), .string (str u.host), .int .i64 0, .slice none 0 0, .slice none 0 0]] W (fun e w' => e = .returned (printV (whoU u)) ∧ Below W.heap.size W w')) := Lib.hid (fun W => Print_any (u := whoU u) (vp := .slice none 0 0) (vh := .slice none 0 0) (Nat.le_refl _) (PrmB.nil _ _) (PrmB.nil _ _) (uriS_who hs))
  obtain ⟨S, E, hV, hVok, hVno⟩ := printV_form (whoU u)
  rw [hV] at HPR
  clear hV hVno hs hp hh hb0 hc
  have HNO := Lib.hid (fun h => whoV_is (who_no1 (u := u) h))
  have HN2 := Lib.hid (fun h h2 => whoV_is (who_no2 (u := u) h h2))
  have HOK := Lib.hid (fun h h2 => whoV_is (who_ok (u := u) h h2))
  have HVK : Hid (checkE u = 0 → u.user ≠ [] → S = str (sipT ++ 58 :: nameT u) ∧ E = 0) := Lib.hid (fun h h2 => by
    obtain ⟨h3, h4⟩ := hVok (who_check h)
    exact ⟨by rw [h3, who_print h2], h4⟩)
  have HTR := Lib.hid (trim_sip (nameT u))
  clear hVok
  generalize nameT u = NM at *
  unfold WhoPost
  generalize whoV u = VV at *
  obtain ⟨c0, c1, c2, c3, c4, c5⟩ := HC.out w0 (Below.refl _ _)
  go_enter Tryd.func43, Tryd.ntmps43
  go_wp2_with fail
  refine (HPR.out w0).mono ?_
  rintro e w1 ⟨rfl, hb1⟩
  have HB1 := Lib.hid hb1
  clear hb1 c0 c1 c2 c3 c4 c5
  obtain ⟨c0, c1, c2, c3, c4, c5⟩ := HC.out w1 HB1.out
  go_wp2_with fail
  refine (HCK.out w1 HB1.out).mono ?_
  rintro e w2 ⟨rfl, hb2⟩
  have HB2 := Lib.hid (thenB HB1.out hb2)
  clear hb2 c0 c1 c2 c3 c4 c5
  obtain ⟨c0, c1, c2, c3, c4, c5⟩ := HC.out w2 HB2.out
  by_cases hck : checkE u = 0
  · have HN2 := Lib.hid (HN2.out hck)
    have HOK := Lib.hid (HOK.out hck)
    have HVK := Lib.hid (HVK.out hck)
    have qe : (checkE u != 0) = false := by rw [hck]; rfl
    clear hck
    by_cases hu : u.user = []
    · have HX := Lib.hid (HN2.out hu)
      have qn : (str u.user).toList.isEmpty = true := by rw [hu, Lib.toList_data]; rfl
      clear hu
      go_wp2
      go_ret2
      exact ⟨by rw [HX.out]; rfl, thenB HB0.out HB2.out⟩
    · have HX := Lib.hid (HOK.out hu)
      obtain ⟨rfl, rfl⟩ := HVK.out hu
      have qn : (str u.user).toList.isEmpty = false := emp_no (fun q => hu (str_inj q))
      clear hu
      go_wp2_with fail
      refine (Tryd.strings_TrimPrefix _ _ w2).mono ?_
      rintro e w3 ⟨rfl, rfl⟩
      rw [HTR.out]
      go_wp2
      go_ret2
      exact ⟨by rw [HX.out]; rfl, thenB HB0.out HB2.out⟩
  · have HX := Lib.hid (HNO.out hck)
    have qe : (checkE u != 0) = true := by simpa using hck
    clear hck
    go_wp2_with fail
    refine (HCK.out w2 HB2.out).mono ?_
    rintro e w3 ⟨rfl, hb3⟩
    have HB3 := Lib.hid (thenB HB2.out hb3)
    clear hb3
    go_wp2
    go_ret2
    exact ⟨by rw [HX.out]; rfl, thenB HB0.out HB3.out⟩
set_option maxRecDepth 100000 in
set_option maxHeartbeats 4000000 in
theorem rWho_any {u : Uri} {vp vh : Value} {B : Nat} {w : World} (hB : B ≤ w.heap.size) (hp : PrmB w B vp u.params) (hh : PrmB w B vh u.headers) (hs : UriS u) :
    Calls Tryd.prog 44 #[uriV u vp vh] w (WhoPost u w) := by
  obtain ⟨Ap, cp, rfl, hp⟩ := hp
  obtain ⟨Ah, ch, rfl, hh⟩ := hh
  unfold uriV
  obtain ⟨w0, hw0⟩ : ∃ w0, w.alloc (.cells #[.string (str u.scheme), .string (str u.user), .string (str u.host), .int .i64 u.port, .slice Ap u.params.length cp, .slice Ah u.headers.length ch] 24) = w0 := ⟨_, rfl⟩
  obtain ⟨hb0, hc⟩ := uri_box hw0
  have HB0 := Lib.hid hb0
  have HC := Lib.hid hc
  have HP : Hid (∀ W, Below w0.heap.size w0 W → PrmB W B (.slice Ap u.params.length cp) u.params) := Lib.hid (fun W h => ⟨Ap, cp, rfl, (hp.below (hb0.mono hB)).below (h.mono (Nat.le_trans hB hb0.size))⟩)
  have HH : Hid (∀ W, Below w0.heap.size w0 W → PrmB W B (.slice Ah u.headers.length ch) u.headers) := Lib.hid (fun W h => ⟨Ah, ch, rfl, (hh.below (hb0.mono hB)).below (h.mono (Nat.le_trans hB hb0.size))⟩)
  have HSZ : Hid (∀ W, Below w0.heap.size w0 W → B ≤ W.heap.size) := Lib.hid (fun W h => Nat.le_trans hB (Nat.le_trans hb0.size h.size))
  have HCK : Hid (∀ W, Below w0.heap.size w0 W → Calls Tryd.prog 40 #[.agg #[.string (str u.scheme), .string (str u.user), .string (str u.host), .int .i64 u.port, .slice Ap u.params.length cp, .slice Ah u.headers.length ch]] W (fun e w' => e = .returned (.int .i64 (checkE u)) ∧ Below W.heap.size W w')) := Lib.hid (fun W h => rCheck_any (u := u) (HSZ.out W h) (HP.out W h) (HH.out W h) hs)
  clear hp hh hb0 hc
  have HNO := Lib.hid (fun h => whoV_is (who_no1 (u := u) h))
  have HN2 := Lib.hid (fun h h2 => whoV_is (who_no2 (u := u) h h2))
  have HOK := Lib.hid (fun h h2 => whoV_is (who_ok (u := u) h h2))
  unfold WhoPost
  generalize whoV u = VV at *
  obtain ⟨c0, c1, c2, c3, c4, c5⟩ := HC.out w0 (Below.refl _ _)
  go_enter Tryd.func44, Tryd.ntmps44
  go_wp2_with fail
  refine (HCK.out w0 (Below.refl _ _)).mono ?_
  rintro e w2 ⟨rfl, hb2⟩
  have HB2 := Lib.hid hb2
  clear hb2 c0 c1 c2 c3 c4 c5
  obtain ⟨c0, c1, c2, c3, c4, c5⟩ := HC.out w2 HB2.out
  by_cases hck : checkE u = 0
  · have HN2 := Lib.hid (HN2.out hck)
    have HOK := Lib.hid (HOK.out hck)
    have qe : (checkE u != 0) = false := by rw [hck]; rfl
    obtain ⟨_, h2, h3, _⟩ := check_parts hck
    have h3l := host_len h3
    clear h3
    clear hck hs
    have hesc := esc_len users u.user
    have HES : Hid (∀ w, Calls Tryd.prog 85 #[.string (str u.user), .string ⟨#[38, 61, 43, 36, 44, 59, 63, 47]⟩] w fun e w' => e = .returned (.string (str (esc users u.user))) ∧ Below w.heap.size w w') := Lib.hid (fun w => rEscape_any (str u.user) ⟨#[38, 61, 43, 36, 44, 59, 63, 47]⟩ w (by show u.user.length ≤ _; omega) (by show 8 ≤ _; omega))
    have ha1 := fun W => addS 64 (esc users u.user) (by omega) W
    have x1 := snocT_len (esc users u.user) 64
    have ha2 := fun W => addA (snocT (esc users u.user) 64) u.host (by omega) W
    have HNM : Hid (appT (snocT (esc users u.user) 64) u.host = nameT u) := Lib.hid (by unfold appT snocT nameT; simp)
    generalize esc users u.user = EU at *
    clear hesc x1 h2 h3l
    by_cases hu : u.user = []
    · have HX := Lib.hid (HN2.out hu)
      have qn : (str u.user).toList.isEmpty = true := by rw [hu, Lib.toList_data]; rfl
      clear hu
      go_wp2
      go_ret2
      exact ⟨by rw [HX.out]; rfl, thenB HB0.out HB2.out⟩
    · have HX := Lib.hid (HOK.out hu)
      have qn : (str u.user).toList.isEmpty = false := emp_no (fun q => hu (str_inj q))
      clear hu
      go_wp2_with fail
      clear c0 c1 c2 c3 c4 c5
      have HC2 : Hid (∀ W, Below w0.heap.size w0 W → W.cell? ⟨w.heap.size, 1, none⟩ = some (.string (str u.user)) ∧ W.cell? ⟨w.heap.size, 2, none⟩ = some (.string (str u.host))) := Lib.hid (fun W h => ⟨(HC.out W h).2.1, (HC.out W h).2.2.1⟩)
      go_region_held3 (fun w' => w'.cell? ⟨w.heap.size, 1, none⟩ = some (.string (str u.user)) ∧ w'.cell? ⟨w.heap.size, 2, none⟩ = some (.string (str u.host)))
        (first | exact HC2.out _ HB2.out | exact HC2.out _ HB2.out.drew | exact HC2.out _ HX3.out)
        (first | (go_at_call 85; (with_reducible refine (HES.out _).mono ?_); rintro e w3 ⟨rfl, hb3⟩; have HX3 := Lib.hid (thenB HB2.out.drew hb3); clear hb3))
      all_goals
        go_wp2
        go_ret2
        exact ⟨by rw [HX.out, ← HNM.out]; rfl, thenB HB0.out HX3.out⟩
  · have HX := Lib.hid (HNO.out hck)
    have qe : (checkE u != 0) = true := by simpa using hck
    clear hck
    go_wp2_with fail
    refine (HCK.out w2 HB2.out).mono ?_
    rintro e w3 ⟨rfl, hb3⟩
    have HB3 := Lib.hid (thenB HB2.out hb3)
    clear hb3
    go_wp2
    go_ret2
    exact ⟨by rw [HX.out]; rfl, thenB HB0.out HB3.out⟩
end Go.Proofs.YtpnchfigehgkgaaDoor
namespace Go.Proofs.YtpnchfigehgkgaaDoor
set_option linter.unusedSimpArgs false
set_option linter.unusedVariables false
open Go.RowKit
/-- a row of parameters lies in no block of an empty URI -/
theorem RdB.not_zero {w : World} {g B : Nat} {A : Option Addr} {ps : List Par} (hk : Blk w g 24 #[.string ⟨#[]⟩, .string ⟨#[]⟩, .string ⟨#[]⟩, .int .i64 0, .slice none 0 0, .slice none 0 0]) (h : RdB w B 3 ps.length A (rows parC ps)) (x0 x1 x2 x3 x4 x5 : Value) :
    RdB (six w g x0 x1 x2 x3 x4 x5) B 3 ps.length A (rows parC ps) :=
  ⟨h.1, fun hn => by
    obtain ⟨gb, off, e, hlt, hc⟩ := h.2 hn
    have hr := rows_at parC_len hn (j := 2) (by omega)
    rw [show 0 * 3 + 2 = 2 by omega] at hr
    have h2 := hc 2 (.bool ps[0].has) hr
    have hne : gb ≠ g := by
      rintro rfl
      rw [hk.cell (off + 2)] at h2
      match off, h2 with
      | 0, h2 => cases h2
      | 1, h2 => cases h2
      | 2, h2 => cases h2
      | 3, h2 => cases h2
      | n + 4, h2 => rw [Array.getElem?_eq_none (by simp)] at h2; cases h2
    refine ⟨gb, off, e, hlt, fun j u hu => ?_⟩
    have ho : ∀ (W : World) (i : Nat) (x : Value), (W.setCell ⟨g, i, none⟩ x).cell? ⟨gb, off + j, none⟩ = W.cell? ⟨gb, off + j, none⟩ := fun W i x => World.cell?_setCell_other (w := W) (a := ⟨g, i, none⟩) (b := ⟨gb, off + j, none⟩) (v := x) (by intro q; injection q with q _ _; exact hne q.symm)
    unfold six
    rw [ho, ho, ho, ho, ho, ho]
    exact hc j u hu⟩
set_option maxRecDepth 100000 in
set_option maxHeartbeats 4000000 in
theorem read_is {s : ByteArray} {r : Uri × Int} (h : parseE s.data.toList = r) (hs : s.size ≤ 100000000) (w : World) : Calls Tryd.prog 76 #[.string s] w fun e w' => ∃ Ap cp Ah ch, e = .returned (.agg #[.string (str r.1.scheme), .string (str r.1.user), .string (str r.1.host), .int .i64 r.1.port, .slice Ap r.1.params.length cp, .slice Ah r.1.headers.length ch]) ∧ RdB w' w'.heap.size 3 r.1.params.length Ap (rows parC r.1.params) ∧ RdB w' w'.heap.size 3 r.1.headers.length Ah (rows parC r.1.headers) ∧ Below w.heap.size w w' := by
  have HW := Lib.hid (fun w => rparse_is h hs w)
  clear h hs
  obtain ⟨u, er⟩ := r
  simp only at *
  obtain ⟨w0, hw0⟩ : ∃ w0, w.alloc (.cells #[.string ⟨#[]⟩, .string ⟨#[]⟩, .string ⟨#[]⟩, .int .i64 0, .slice none 0 0, .slice none 0 0] 24) = w0 := ⟨_, rfl⟩
  have HK0 : Hid (Blk w0 w.heap.size 24 #[.string ⟨#[]⟩, .string ⟨#[]⟩, .string ⟨#[]⟩, .int .i64 0, .slice none 0 0, .slice none 0 0]) := Lib.hid (hw0 ▸ Blk.new w _ _)
  have HB0 : Hid (Below w.heap.size w w0) := Lib.hid (hw0 ▸ (Below.refl _ _).alloc (Nat.le_refl _) _)
  have HW0 := Lib.hid hw0
  clear hw0
  go_enter Tryd.func76, Tryd.ntmps76
  go_wp2_with fail
  rw [HW0.out]
  refine (HW.out w0).mono ?_
  rintro e w1 ⟨Ap, cp, Ah, ch, rfl, hp, hh, hb1⟩
  have HB1 := Lib.hid (thenB HB0.out hb1)
  have HK1 := Lib.hid (HK0.out.fr (Fr.of_below (F := fun _ => False) hb1) (fun h => h))
  have HP1 := Lib.hid hp
  have HH1 := Lib.hid hh
  clear hb1 hp hh
  have HBO : Hid (∀ o, Below w1.heap.size w1 (w1.alloc o)) := Lib.hid (fun o => (Below.refl _ _).alloc (Nat.le_refl _) o)
  have HKO : Hid (∀ o, Blk (w1.alloc o) w.heap.size 24 #[.string ⟨#[]⟩, .string ⟨#[]⟩, .string ⟨#[]⟩, .int .i64 0, .slice none 0 0, .slice none 0 0]) := Lib.hid (fun o => HK1.out.alloc o)
  have hlt : w.heap.size < w1.heap.size := HK1.out.lt
  have HG : Hid (w.heap.size ≤ w.heap.size) := Lib.hid (Nat.le_refl _)
  obtain ⟨g, hg⟩ : ∃ g, w.heap.size = g := ⟨_, rfl⟩
  have HB1' := HB1
  rw [hg] at HKO hlt ⊢
  have HG2 : Hid (w.heap.size ≤ g) := Lib.hid (by omega)
  clear hg
  have HBL : Hid (∀ W, Below w1.heap.size w1 W → w.heap.size ≤ W.heap.size) := Lib.hid (fun W h => Nat.le_trans (thenB HB1.out h).size (Nat.le_refl _))
  go_upto_region 2 with (fail)
  obtain ⟨w2, hw2⟩ : ∃ w2, w1.alloc (.cells #[.string (str u.scheme), .string (str u.user), .string (str u.host), .int .i64 u.port, .slice Ap u.params.length cp, .slice Ah u.headers.length ch] 24) = w2 := ⟨_, rfl⟩
  obtain ⟨hb2, hc⟩ := uri_box hw2
  have hk2 : Blk w2 g 24 #[.string ⟨#[]⟩, .string ⟨#[]⟩, .string ⟨#[]⟩, .int .i64 0, .slice none 0 0, .slice none 0 0] := hw2 ▸ HKO.out _
  have HP2 := Lib.hid (RdB.on HP1.out hb2)
  have HH2 := Lib.hid (RdB.on HH1.out hb2)
  have HB2 := Lib.hid (thenB HB1.out hb2)
  have HK2 := Lib.hid hk2
  obtain ⟨c0, c1, c2, c3, c4, c5⟩ := hc w2 (Below.refl _ _)
  have n1 : g ≠ w1.heap.size := by omega
  rw [hw2]
  clear hw2 hb2 hc
  obtain ⟨g2, hg2⟩ : ∃ g2, w1.heap.size = g2 := ⟨_, rfl⟩
  rw [hg2] at c0 c1 c2 c3 c4 c5 n1 ⊢
  clear hg2 hlt
  have e0 := hk2.cell 0
  have e1 := hk2.cell 1
  have e2 := hk2.cell 2
  have e3 := hk2.cell 3
  have e4 := hk2.cell 4
  have e5 := hk2.cell 5
  have f0 := hk2.frozen 0
  have f1 := hk2.frozen 1
  have f2 := hk2.frozen 2
  have f3 := hk2.frozen 3
  have f4 := hk2.frozen 4
  have f5 := hk2.frozen 5
  clear hk2
  have HE : Hid (∀ x0 x1 x2 x3 x4 x5, (six w2 g x0 x1 x2 x3 x4 x5).heap.size = w2.heap.size) := Lib.hid (fun _ _ _ _ _ _ => by simp [six, World.setCell])
  go_wp2
  obtain ⟨z0, z1, z2, z3, z4, z5⟩ := cells_six HK2.out (.string (str u.scheme)) (.string (str u.user)) (.string (str u.host)) (.int .i64 u.port) (.slice Ap u.params.length cp) (.slice Ah u.headers.length ch)
  exact bodyPost_ret (v := .agg #[.string (str u.scheme), .string (str u.user), .string (str u.host), .int .i64 u.port, .slice Ap u.params.length cp, .slice Ah u.headers.length ch]) (by simp [results, Tryd.results76, go_sem, z0, z1, z2, z3, z4, z5]) rfl ⟨Ap, cp, Ah, ch, rfl, (HE.out _ _ _ _ _ _).symm ▸ RdB.not_zero HK2.out HP2.out _ _ _ _ _ _, (HE.out _ _ _ _ _ _).symm ▸ RdB.not_zero HK2.out HH2.out _ _ _ _ _ _, below_six HB2.out HG2.out _ _ _ _ _ _⟩
theorem eq_call {a b : Uri} {r : Bool} (h : equalB a b = r) (ka : checkE a = 0) (kb : checkE b = 0) {W : World} {A1 A2 A3 A4 : Option Addr} {c1 c2 c3 c4 : Nat} (h1 : RdB W W.heap.size 3 a.params.length A1 (rows parC a.params)) (h2 : RdB W W.heap.size 3 a.headers.length A2 (rows parC a.headers)) (h3 : RdB W W.heap.size 3 b.params.length A3 (rows parC b.params)) (h4 : RdB W W.heap.size 3 b.headers.length A4 (rows parC b.headers)) :
    Calls Tryd.prog 31 #[.agg #[.string (str a.scheme), .string (str a.user), .string (str a.host), .int .i64 a.port, .slice A1 a.params.length c1, .slice A2 a.headers.length c2], .agg #[.string (str b.scheme), .string (str b.user), .string (str b.host), .int .i64 b.port, .slice A3 b.params.length c3, .slice A4 b.headers.length c4]] W (fun e w' => e = .returned (.bool r) ∧ Below W.heap.size W w') := by
  rw [← h]
  exact Equal_any (a := a) (b := b) (Nat.le_refl _) (UriB.of h1 h2) (UriB.of h3 h4) (uriS_ok ka) (uriS_ok kb)
theorem who_call {u : Uri} {r : T × Int} (h : whoE u = r) (k : checkE u = 0) {W : World} {A1 A2 : Option Addr} {c1 c2 : Nat} (h1 : RdB W W.heap.size 3 u.params.length A1 (rows parC u.params)) (h2 : RdB W W.heap.size 3 u.headers.length A2 (rows parC u.headers)) :
    Calls Tryd.prog 43 #[.agg #[.string (str u.scheme), .string (str u.user), .string (str u.host), .int .i64 u.port, .slice A1 u.params.length c1, .slice A2 u.headers.length c2]] W (fun e w' => e = .returned (.tuple #[.string (str r.1), .int .i64 r.2]) ∧ Below W.heap.size W w') := by
  have := Who_any (u := u) (vp := .slice A1 u.params.length c1) (vh := .slice A2 u.headers.length c2) (w := W) (Nat.le_refl _) ⟨_, _, rfl, h1⟩ ⟨_, _, rfl, h2⟩ (uriS_ok k)
  unfold WhoPost at this
  rw [whoV_is h] at this
  exact this
def tx0 : T := [115, 105, 112, 115, 58, 97, 37, 50, 48, 98, 64, 99, 58, 49, 59, 120]
def tx1 : T := [115, 105, 112, 58, 97, 64, 98, 59, 120, 61, 49]
def tx2 : T := [115, 105, 112, 58, 97, 64, 98]
def tx3 : T := [115, 105, 112, 58, 97, 64, 98, 59, 117, 115, 101, 114, 61, 105, 112]
def tx4 : T := [115, 105, 112, 58, 97, 64, 98, 58, 53, 48, 54, 48]
theorem aw04 : ∃ u0 u1 u2 u3 u4 : Uri, (parseE tx0 = (u0, 0) ∧ parseE tx1 = (u1, 0) ∧ parseE tx2 = (u2, 0) ∧ parseE tx3 = (u3, 0) ∧ parseE tx4 = (u4, 0)) ∧ (checkE u0 = 0 ∧ checkE u1 = 0 ∧ checkE u2 = 0 ∧ checkE u3 = 0 ∧ checkE u4 = 0) ∧ equalB u1 u2 = true ∧ equalB u3 u2 = false ∧ equalB u2 u4 = false ∧ whoE u0 = ([97, 37, 50, 48, 98, 64, 99], 0) :=
  ⟨(parseE tx0).1, (parseE tx1).1, (parseE tx2).1, (parseE tx3).1, (parseE tx4).1, ⟨by decide +kernel, by decide +kernel, by decide +kernel, by decide +kernel, by decide +kernel⟩, ⟨by decide +kernel, by decide +kernel, by decide +kernel, by decide +kernel, by decide +kernel⟩, by decide +kernel, by decide +kernel, by decide +kernel, by decide +kernel⟩
set_option maxRecDepth 100000 in
set_option maxHeartbeats 4000000 in
theorem awake04 (w : World) : Calls Tryd.prog 33 #[] w (TruePost w) := by
  obtain ⟨u0, u1, u2, u3, u4, ⟨p0, p1, p2, p3, p4⟩, ⟨k0, k1, k2, k3, k4⟩, e12, e32, e24, wh⟩ := aw04
  have HR0 := Lib.hid (fun w => read_is (s := str tx0) p0 (by show 16 ≤ _; omega) w)
  have HR1 := Lib.hid (fun w => read_is (s := str tx1) p1 (by show 11 ≤ _; omega) w)
  have HR2 := Lib.hid (fun w => read_is (s := str tx2) p2 (by show 7 ≤ _; omega) w)
  have HR3 := Lib.hid (fun w => read_is (s := str tx3) p3 (by show 15 ≤ _; omega) w)
  have HR4 := Lib.hid (fun w => read_is (s := str tx4) p4 (by show 12 ≤ _; omega) w)
  simp only at HR0 HR1 HR2 HR3 HR4
  have E12 := Lib.hid e12
  have E32 := Lib.hid e32
  have E24 := Lib.hid e24
  have WH := Lib.hid wh
  have K0 := Lib.hid k0
  have K1 := Lib.hid k1
  have K2 := Lib.hid k2
  have K3 := Lib.hid k3
  have K4 := Lib.hid k4
  clear p0 p1 p2 p3 p4 k0 k1 k2 k3 k4 e12 e32 e24 wh
  have s1 : ((str [97, 37, 50, 48, 98, 64, 99]).toList == [97, 37, 50, 48, 98, 64, 99]) = true := by decide +kernel
  go_enter Tryd.func33, Tryd.ntmps33
  go_wp2_with fail
  refine (HR0.out _).mono ?_
  rintro e w1 ⟨Ap, cp, Ah, ch, rfl, hp, hh, hb⟩
  have HB1 := Lib.hid hb
  have HP := Lib.hid hp
  have HH := Lib.hid hh
  clear hb hp hh
  go_wp2_with fail
  refine (who_call WH.out K0.out HP.out HH.out).mono ?_
  rintro e w2 ⟨rfl, hb⟩
  have HB2 := Lib.hid (thenB HB1.out hb)
  clear hb HP HH
  go_wp2_with fail
  refine (HR1.out _).mono ?_
  rintro e w3 ⟨Ap1, cp1, Ah1, ch1, rfl, hp, hh, hb⟩
  have HB3 := Lib.hid (thenB HB2.out hb)
  have HP := Lib.hid hp
  have HH := Lib.hid hh
  clear hb hp hh
  go_wp2_with fail
  refine (HR2.out _).mono ?_
  rintro e w4 ⟨Ap2, cp2, Ah2, ch2, rfl, hp, hh, hb⟩
  have HB4 := Lib.hid (thenB HB3.out hb)
  have HP2 := Lib.hid (RdB.on HP.out hb)
  have HH2 := Lib.hid (RdB.on HH.out hb)
  have HQ2 := Lib.hid hp
  have HS2 := Lib.hid hh
  clear hb hp hh HP HH
  go_wp2_with fail
  refine (eq_call E12.out K1.out K2.out HP2.out HH2.out HQ2.out HS2.out).mono ?_
  rintro e w5 ⟨rfl, hb⟩
  have HB5 := Lib.hid (thenB HB4.out hb)
  clear hb HP2 HH2 HQ2 HS2
  go_wp2_with fail
  refine (HR3.out _).mono ?_
  rintro e w6 ⟨Ap3, cp3, Ah3, ch3, rfl, hp, hh, hb⟩
  have HB6 := Lib.hid (thenB HB5.out hb)
  have HP := Lib.hid hp
  have HH := Lib.hid hh
  clear hb hp hh
  go_wp2_with fail
  refine (HR2.out _).mono ?_
  rintro e w7 ⟨Ap4, cp4, Ah4, ch4, rfl, hp, hh, hb⟩
  have HB7 := Lib.hid (thenB HB6.out hb)
  have HP2 := Lib.hid (RdB.on HP.out hb)
  have HH2 := Lib.hid (RdB.on HH.out hb)
  have HQ2 := Lib.hid hp
  have HS2 := Lib.hid hh
  clear hb hp hh HP HH
  go_wp2_with fail
  refine (eq_call E32.out K3.out K2.out HP2.out HH2.out HQ2.out HS2.out).mono ?_
  rintro e w8 ⟨rfl, hb⟩
  have HB8 := Lib.hid (thenB HB7.out hb)
  clear hb HP2 HH2 HQ2 HS2
  go_wp2_with fail
  refine (HR2.out _).mono ?_
  rintro e w9 ⟨Ap5, cp5, Ah5, ch5, rfl, hp, hh, hb⟩
  have HB9 := Lib.hid (thenB HB8.out hb)
  have HP := Lib.hid hp
  have HH := Lib.hid hh
  clear hb hp hh
  go_wp2_with fail
  refine (HR4.out _).mono ?_
  rintro e w10 ⟨Ap6, cp6, Ah6, ch6, rfl, hp, hh, hb⟩
  have HB10 := Lib.hid (thenB HB9.out hb)
  have HP2 := Lib.hid (RdB.on HP.out hb)
  have HH2 := Lib.hid (RdB.on HH.out hb)
  have HQ2 := Lib.hid hp
  have HS2 := Lib.hid hh
  clear hb hp hh HP HH
  go_wp2_with fail
  refine (eq_call E24.out K2.out K4.out HP2.out HH2.out HQ2.out HS2.out).mono ?_
  rintro e w11 ⟨rfl, hb⟩
  have HB11 := Lib.hid (thenB HB10.out hb)
  clear hb HP2 HH2 HQ2 HS2
  go_wp2
  go_ret
  exact ⟨rfl, HB11.out⟩
end Go.Proofs.YtpnchfigehgkgaaDoor
namespace Go.Proofs.YtpnchfigehgkgaaDoor
set_option linter.unusedSimpArgs false
set_option linter.unusedVariables false
open Go.RowKit
set_option maxRecDepth 100000 in
set_option maxHeartbeats 8000000 in
theorem sameTurns_any {a b : Uri} {vp vh vp2 vh2 : Value} {w : World} (hp : PrmB w w.heap.size vp a.params) (hh : PrmB w w.heap.size vh a.headers) (hp2 : PrmB w w.heap.size vp2 b.params) (hh2 : PrmB w w.heap.size vh2 b.headers) (sa : UriS a) (sb : UriS b) : Calls Tryd.prog 5 #[uriV a vp vh, uriV b vp2 vh2] w (TruePost w) := by
  obtain ⟨A1, c1, rfl, hp⟩ := hp
  obtain ⟨A2, c2, rfl, hh⟩ := hh
  obtain ⟨A3, c3, rfl, hp2⟩ := hp2
  obtain ⟨A4, c4, rfl, hh2⟩ := hh2
  unfold uriV
  obtain ⟨w0, hw0⟩ : ∃ w0, (w.alloc (.cells #[.string (str a.scheme), .string (str a.user), .string (str a.host), .int .i64 a.port, .slice A1 a.params.length c1, .slice A2 a.headers.length c2] 24)).alloc (.cells #[.string (str b.scheme), .string (str b.user), .string (str b.host), .int .i64 b.port, .slice A3 b.params.length c3, .slice A4 b.headers.length c4] 24) = w0 := ⟨_, rfl⟩
  obtain ⟨hb0, hs0, hka, hkb⟩ := two_box hw0
  have HB0 := Lib.hid hb0
  have HC : Hid (∀ W, Below w0.heap.size w0 W → W.cell? ⟨w.heap.size, 0, none⟩ = some (.string (str a.scheme)) ∧ W.cell? ⟨w.heap.size, 1, none⟩ = some (.string (str a.user)) ∧ W.cell? ⟨w.heap.size, 2, none⟩ = some (.string (str a.host)) ∧ W.cell? ⟨w.heap.size, 3, none⟩ = some (.int .i64 a.port) ∧ W.cell? ⟨w.heap.size, 4, none⟩ = some (.slice A1 a.params.length c1) ∧ W.cell? ⟨w.heap.size, 5, none⟩ = some (.slice A2 a.headers.length c2) ∧ W.cell? ⟨w.heap.size + 1, 0, none⟩ = some (.string (str b.scheme)) ∧ W.cell? ⟨w.heap.size + 1, 1, none⟩ = some (.string (str b.user)) ∧ W.cell? ⟨w.heap.size + 1, 2, none⟩ = some (.string (str b.host)) ∧ W.cell? ⟨w.heap.size + 1, 3, none⟩ = some (.int .i64 b.port) ∧ W.cell? ⟨w.heap.size + 1, 4, none⟩ = some (.slice A3 b.params.length c3) ∧ W.cell? ⟨w.heap.size + 1, 5, none⟩ = some (.slice A4 b.headers.length c4)) := Lib.hid (fun W h => ⟨(hka W h).cell 0, (hka W h).cell 1, (hka W h).cell 2, (hka W h).cell 3, (hka W h).cell 4, (hka W h).cell 5, (hkb W h).cell 0, (hkb W h).cell 1, (hkb W h).cell 2, (hkb W h).cell 3, (hkb W h).cell 4, (hkb W h).cell 5⟩)
  have HSZ : Hid (∀ W, Below w0.heap.size w0 W → w.heap.size ≤ W.heap.size) := Lib.hid (fun W h => Nat.le_trans hb0.size h.size)
  have HP1 : Hid (∀ W, Below w0.heap.size w0 W → RdB W w.heap.size 3 a.params.length A1 (rows parC a.params)) := Lib.hid (fun W h => (hp.below hb0).below (h.mono hb0.size))
  have HUA : Hid (∀ W, Below w0.heap.size w0 W → UriB W w.heap.size (.agg #[.string (str a.scheme), .string (str a.user), .string (str a.host), .int .i64 a.port, .slice A1 a.params.length c1, .slice A2 a.headers.length c2]) a) := Lib.hid (fun W h => UriB.of ((hp.below hb0).below (h.mono hb0.size)) ((hh.below hb0).below (h.mono hb0.size)))
  have HUB : Hid (∀ W, Below w0.heap.size w0 W → UriB W w.heap.size (.agg #[.string (str b.scheme), .string (str b.user), .string (str b.host), .int .i64 b.port, .slice A3 b.params.length c3, .slice A4 b.headers.length c4]) b) := Lib.hid (fun W h => UriB.of ((hp2.below hb0).below (h.mono hb0.size)) ((hh2.below hb0).below (h.mono hb0.size)))
  have HA := Lib.hid awake04
  have HAA : Hid (∀ W, Below w0.heap.size w0 W → Calls Tryd.prog 31 #[.agg #[.string (str a.scheme), .string (str a.user), .string (str a.host), .int .i64 a.port, .slice A1 a.params.length c1, .slice A2 a.headers.length c2], .agg #[.string (str a.scheme), .string (str a.user), .string (str a.host), .int .i64 a.port, .slice A1 a.params.length c1, .slice A2 a.headers.length c2]] W (fun e w' => e = .returned (.bool (decide (checkE a = 0))) ∧ Below W.heap.size W w')) := Lib.hid (fun W h => by
    rw [← equal_self a]
    exact Equal_any (a := a) (b := a) (HSZ.out W h) (HUA.out W h) (HUA.out W h) sa sa)
  have HAB : Hid (∀ W, Below w0.heap.size w0 W → Calls Tryd.prog 31 #[.agg #[.string (str a.scheme), .string (str a.user), .string (str a.host), .int .i64 a.port, .slice A1 a.params.length c1, .slice A2 a.headers.length c2], .agg #[.string (str b.scheme), .string (str b.user), .string (str b.host), .int .i64 b.port, .slice A3 b.params.length c3, .slice A4 b.headers.length c4]] W (fun e w' => e = .returned (.bool (equalB a b)) ∧ Below W.heap.size W w')) := Lib.hid (fun W h => Equal_any (a := a) (b := b) (HSZ.out W h) (HUA.out W h) (HUB.out W h) sa sb)
  have HBA : Hid (∀ W, Below w0.heap.size w0 W → Calls Tryd.prog 31 #[.agg #[.string (str b.scheme), .string (str b.user), .string (str b.host), .int .i64 b.port, .slice A3 b.params.length c3, .slice A4 b.headers.length c4], .agg #[.string (str a.scheme), .string (str a.user), .string (str a.host), .int .i64 a.port, .slice A1 a.params.length c1, .slice A2 a.headers.length c2]] W (fun e w' => e = .returned (.bool (equalB a b)) ∧ Below W.heap.size W w')) := Lib.hid (fun W h => by
    rw [equal_turn a b]
    exact Equal_any (a := b) (b := a) (HSZ.out W h) (HUB.out W h) (HUA.out W h) sb sa)
  have HCK : Hid (∀ W, Below w0.heap.size w0 W → Calls Tryd.prog 32 #[.agg #[.string (str a.scheme), .string (str a.user), .string (str a.host), .int .i64 a.port, .slice A1 a.params.length c1, .slice A2 a.headers.length c2]] W (fun e w' => e = .returned (.int .i64 (checkE a)) ∧ Below W.heap.size W w')) := Lib.hid (fun W h => by
    obtain ⟨v1, v2, hv, h1, h2⟩ := HUA.out W h
    rw [hv]
    exact Check_any (u := a) (HSZ.out W h) h1 h2 sa)
  generalize equalB a b = R at *
  generalize checkE a = K at *
  clear hp hh hp2 hh2 hb0 hs0 hka hkb sa sb HUA HUB HSZ HP1
  have HB1 : Hid (Below w0.heap.size w0 w0) := Lib.hid (Below.refl _ _)
  have qR : (R == R) = true := beq_self_eq_true _
  have HW0 := Lib.hid hw0
  clear hw0
  have fin : ∀ kb : Bool, decide (K = 0) = kb → (K == 0) = kb → (kb == kb) = true → Calls Tryd.prog 5 #[.agg #[.string (str a.scheme), .string (str a.user), .string (str a.host), .int .i64 a.port, .slice A1 a.params.length c1, .slice A2 a.headers.length c2], .agg #[.string (str b.scheme), .string (str b.user), .string (str b.host), .int .i64 b.port, .slice A3 b.params.length c3, .slice A4 b.headers.length c4]] w (TruePost w) := by
    intro kb hk1 hk2 hk3
    rw [hk1] at HAA
    clear hk1
    go_enter Tryd.func5, Tryd.ntmps5
    go_wp2_with fail
    rw [HW0.out]
    go_region_held3 (fun w' => w'.cell? ⟨w.heap.size, 0, none⟩ = some (.string (str a.scheme)) ∧ w'.cell? ⟨w.heap.size, 1, none⟩ = some (.string (str a.user)) ∧ w'.cell? ⟨w.heap.size, 2, none⟩ = some (.string (str a.host)) ∧ w'.cell? ⟨w.heap.size, 3, none⟩ = some (.int .i64 a.port) ∧ w'.cell? ⟨w.heap.size, 4, none⟩ = some (.slice A1 a.params.length c1) ∧ w'.cell? ⟨w.heap.size, 5, none⟩ = some (.slice A2 a.headers.length c2) ∧ w'.cell? ⟨w.heap.size + 1, 0, none⟩ = some (.string (str b.scheme)) ∧ w'.cell? ⟨w.heap.size + 1, 1, none⟩ = some (.string (str b.user)) ∧ w'.cell? ⟨w.heap.size + 1, 2, none⟩ = some (.string (str b.host)) ∧ w'.cell? ⟨w.heap.size + 1, 3, none⟩ = some (.int .i64 b.port) ∧ w'.cell? ⟨w.heap.size + 1, 4, none⟩ = some (.slice A3 b.params.length c3) ∧ w'.cell? ⟨w.heap.size + 1, 5, none⟩ = some (.slice A4 b.headers.length c4))
      (first | exact HC.out _ HX.out | exact HC.out _ HB1.out | exact HC.out _ HB1.out.drew)
      (first | (go_at_call 31; first | ((with_reducible refine (HAA.out _ HX.out).mono ?_); rintro e wn ⟨rfl, hbn⟩; have HX := Lib.hid (thenB HX.out hbn); clear hbn) | ((with_reducible refine (HAA.out _ HB1.out.drew).mono ?_); rintro e wn ⟨rfl, hbn⟩; have HX := Lib.hid (thenB HB1.out.drew hbn); clear hbn) | ((with_reducible refine (HAB.out _ HX.out).mono ?_); rintro e wn ⟨rfl, hbn⟩; have HX := Lib.hid (thenB HX.out hbn); clear hbn) | ((with_reducible refine (HAB.out _ HB1.out.drew).mono ?_); rintro e wn ⟨rfl, hbn⟩; have HX := Lib.hid (thenB HB1.out.drew hbn); clear hbn) | ((with_reducible refine (HBA.out _ HX.out).mono ?_); rintro e wn ⟨rfl, hbn⟩; have HX := Lib.hid (thenB HX.out hbn); clear hbn) | ((with_reducible refine (HBA.out _ HB1.out.drew).mono ?_); rintro e wn ⟨rfl, hbn⟩; have HX := Lib.hid (thenB HB1.out.drew hbn); clear hbn)) | (go_at_call 32; first | ((with_reducible refine (HCK.out _ HX.out).mono ?_); rintro e wn ⟨rfl, hbn⟩; have HX := Lib.hid (thenB HX.out hbn); clear hbn) | ((with_reducible refine (HCK.out _ HB1.out.drew).mono ?_); rintro e wn ⟨rfl, hbn⟩; have HX := Lib.hid (thenB HB1.out.drew hbn); clear hbn)) | (go_at_call 33; (with_reducible refine (HA.out _).mono ?_); rintro e wz ⟨rfl, hbz⟩; have HX := Lib.hid (thenB HX.out hbz); clear hbz))
    all_goals
      go_wp2
      go_ret
      exact ⟨rfl, thenB HB0.out HX.out⟩
  cases hk : decide (K = 0) with
  | true => exact fin true hk (by simpa using hk) rfl
  | false => exact fin false hk (by simpa using hk) rfl
end Go.Proofs.YtpnchfigehgkgaaDoor
namespace Go.Proofs.YtpnchfigehgkgaaDoor
set_option linter.unusedSimpArgs false
set_option linter.unusedVariables false
open Go.RowKit
theorem valueV_form (o : Option Par) : ∃ (S : ByteArray) (k : Bool), valueV o = .tuple #[.string S, .bool k] := by
  cases o <;> exact ⟨_, _, rfl⟩
set_option maxRecDepth 100000 in
set_option maxHeartbeats 8000000 in
theorem sameEquals_any {a b : Uri} {vp vh vp2 vh2 : Value} {w : World} (hp : PrmB w w.heap.size vp a.params) (hh : PrmB w w.heap.size vh a.headers) (hp2 : PrmB w w.heap.size vp2 b.params) (hh2 : PrmB w w.heap.size vh2 b.headers) (sa : UriS a) (sb : UriS b) {n : T} (hn : n.length ≤ 140737488351232) : Calls Tryd.prog 8 #[uriV a vp vh, uriV b vp2 vh2, .string (str n)] w (TruePost w) := by
  obtain ⟨A1, c1, rfl, hp⟩ := hp
  obtain ⟨A2, c2, rfl, hh⟩ := hh
  obtain ⟨A3, c3, rfl, hp2⟩ := hp2
  obtain ⟨A4, c4, rfl, hh2⟩ := hh2
  unfold uriV
  obtain ⟨w0, hw0⟩ : ∃ w0, (w.alloc (.cells #[.string (str a.scheme), .string (str a.user), .string (str a.host), .int .i64 a.port, .slice A1 a.params.length c1, .slice A2 a.headers.length c2] 24)).alloc (.cells #[.string (str b.scheme), .string (str b.user), .string (str b.host), .int .i64 b.port, .slice A3 b.params.length c3, .slice A4 b.headers.length c4] 24) = w0 := ⟨_, rfl⟩
  obtain ⟨hb0, hs0, hka, hkb⟩ := two_box hw0
  have HB0 := Lib.hid hb0
  have HC : Hid (∀ W, Below w0.heap.size w0 W → W.cell? ⟨w.heap.size, 0, none⟩ = some (.string (str a.scheme)) ∧ W.cell? ⟨w.heap.size, 1, none⟩ = some (.string (str a.user)) ∧ W.cell? ⟨w.heap.size, 2, none⟩ = some (.string (str a.host)) ∧ W.cell? ⟨w.heap.size, 3, none⟩ = some (.int .i64 a.port) ∧ W.cell? ⟨w.heap.size, 4, none⟩ = some (.slice A1 a.params.length c1) ∧ W.cell? ⟨w.heap.size, 5, none⟩ = some (.slice A2 a.headers.length c2) ∧ W.cell? ⟨w.heap.size + 1, 0, none⟩ = some (.string (str b.scheme)) ∧ W.cell? ⟨w.heap.size + 1, 1, none⟩ = some (.string (str b.user)) ∧ W.cell? ⟨w.heap.size + 1, 2, none⟩ = some (.string (str b.host)) ∧ W.cell? ⟨w.heap.size + 1, 3, none⟩ = some (.int .i64 b.port) ∧ W.cell? ⟨w.heap.size + 1, 4, none⟩ = some (.slice A3 b.params.length c3) ∧ W.cell? ⟨w.heap.size + 1, 5, none⟩ = some (.slice A4 b.headers.length c4)) := Lib.hid (fun W h => ⟨(hka W h).cell 0, (hka W h).cell 1, (hka W h).cell 2, (hka W h).cell 3, (hka W h).cell 4, (hka W h).cell 5, (hkb W h).cell 0, (hkb W h).cell 1, (hkb W h).cell 2, (hkb W h).cell 3, (hkb W h).cell 4, (hkb W h).cell 5⟩)
  have HSZ : Hid (∀ W, Below w0.heap.size w0 W → w.heap.size ≤ W.heap.size) := Lib.hid (fun W h => Nat.le_trans hb0.size h.size)
  have HP1 : Hid (∀ W, Below w0.heap.size w0 W → RdB W w.heap.size 3 a.params.length A1 (rows parC a.params)) := Lib.hid (fun W h => (hp.below hb0).below (h.mono hb0.size))
  have HUA : Hid (∀ W, Below w0.heap.size w0 W → UriB W w.heap.size (.agg #[.string (str a.scheme), .string (str a.user), .string (str a.host), .int .i64 a.port, .slice A1 a.params.length c1, .slice A2 a.headers.length c2]) a) := Lib.hid (fun W h => UriB.of ((hp.below hb0).below (h.mono hb0.size)) ((hh.below hb0).below (h.mono hb0.size)))
  have HUB : Hid (∀ W, Below w0.heap.size w0 W → UriB W w.heap.size (.agg #[.string (str b.scheme), .string (str b.user), .string (str b.host), .int .i64 b.port, .slice A3 b.params.length c3, .slice A4 b.headers.length c4]) b) := Lib.hid (fun W h => UriB.of ((hp2.below hb0).below (h.mono hb0.size)) ((hh2.below hb0).below (h.mono hb0.size)))
  have HA := Lib.hid awake04
  have HAB : Hid (∀ W, Below w0.heap.size w0 W → Calls Tryd.prog 31 #[.agg #[.string (str a.scheme), .string (str a.user), .string (str a.host), .int .i64 a.port, .slice A1 a.params.length c1, .slice A2 a.headers.length c2], .agg #[.string (str b.scheme), .string (str b.user), .string (str b.host), .int .i64 b.port, .slice A3 b.params.length c3, .slice A4 b.headers.length c4]] W (fun e w' => e = .returned (.bool (equalB a b)) ∧ Below W.heap.size W w')) := Lib.hid (fun W h => Equal_any (a := a) (b := b) (HSZ.out W h) (HUA.out W h) (HUB.out W h) sa sb)
  have HRB : Hid (∀ W, Below w0.heap.size w0 W → Calls Tryd.prog 38 #[.agg #[.string (str a.scheme), .string (str a.user), .string (str a.host), .int .i64 a.port, .slice A1 a.params.length c1, .slice A2 a.headers.length c2], .agg #[.string (str b.scheme), .string (str b.user), .string (str b.host), .int .i64 b.port, .slice A3 b.params.length c3, .slice A4 b.headers.length c4]] W (fun e w' => e = .returned (.bool (equalB a b)) ∧ Below W.heap.size W w')) := Lib.hid (fun W h => rEqual_any (a := a) (b := b) (HSZ.out W h) (HUA.out W h) (HUB.out W h) sa sb)
  have lpa : a.params.length ≤ maxLen := by have := sa.params; unfold maxLen; omega
  have HVA : Hid (∀ W, Below w0.heap.size w0 W → Calls Tryd.prog 36 #[.slice A1 a.params.length c1, .string (str n)] W (fun e w' => e = .returned (valueV (findP n a.params)) ∧ Below W.heap.size W w')) := Lib.hid (fun W h => Value_any (HSZ.out W h) (HP1.out W h) lpa sa.par hn)
  have HRV : Hid (∀ W, Below w0.heap.size w0 W → Calls Tryd.prog 37 #[.slice A1 a.params.length c1, .string (str n)] W (fun e w' => e = .returned (valueV (findP n a.params)) ∧ Below W.heap.size W w')) := Lib.hid (fun W h => rValue_any (HSZ.out W h) (HP1.out W h) lpa sa.par hn)
  generalize findP n a.params = O at *
  obtain ⟨S, k, hS⟩ := valueV_form O
  rw [hS] at HVA HRV
  clear hS O lpa
  generalize equalB a b = R at *
  clear hp hh hp2 hh2 hb0 hs0 hka hkb sa sb HUA HUB HSZ HP1 hn
  have qR : (R == R) = true := beq_self_eq_true _
  have qS : (S.toList == S.toList) = true := beq_self_eq_true _
  have qk : (k == k) = true := beq_self_eq_true _
  have HW0 := Lib.hid hw0
  clear hw0
  obtain ⟨x0, x1, x2, x3, x4, x5, y0, y1, y2, y3, y4, y5⟩ := HC.out w0 (Below.refl _ _)
  go_enter Tryd.func8, Tryd.ntmps8
  by_cases hl : (200 : Int) < a.params.length
  · go_upto_region 1 with (fail)
    rw [HW0.out]
    go_wp2_with fail
    refine (HA.out _).mono ?_
    rintro e w5 ⟨rfl, hb5⟩
    have HX := Lib.hid (thenB HB0.out hb5)
    clear hb5
    go_wp2
    go_ret
    exact ⟨rfl, HX.out⟩
  · go_upto_region 1 with (fail)
    rw [HW0.out]
    go_wp2_with fail
    refine (HVA.out _ (Below.refl _ _)).mono ?_
    rintro e w1 ⟨rfl, hb1⟩
    have HX1 := Lib.hid hb1
    clear hb1 x0 x1 x2 x3 x4 x5 y0 y1 y2 y3 y4 y5
    obtain ⟨x0, x1, x2, x3, x4, x5, y0, y1, y2, y3, y4, y5⟩ := HC.out w1 HX1.out
    go_wp2_with fail
    refine (HRV.out _ HX1.out).mono ?_
    rintro e w2 ⟨rfl, hb2⟩
    have HB1 := Lib.hid (thenB HX1.out hb2)
    clear hb2 x0 x1 x2 x3 x4 x5 y0 y1 y2 y3 y4 y5
    go_wp2_with fail
    go_region_held3 (fun w' => w'.cell? ⟨w.heap.size, 0, none⟩ = some (.string (str a.scheme)) ∧ w'.cell? ⟨w.heap.size, 1, none⟩ = some (.string (str a.user)) ∧ w'.cell? ⟨w.heap.size, 2, none⟩ = some (.string (str a.host)) ∧ w'.cell? ⟨w.heap.size, 3, none⟩ = some (.int .i64 a.port) ∧ w'.cell? ⟨w.heap.size, 4, none⟩ = some (.slice A1 a.params.length c1) ∧ w'.cell? ⟨w.heap.size, 5, none⟩ = some (.slice A2 a.headers.length c2) ∧ w'.cell? ⟨w.heap.size + 1, 0, none⟩ = some (.string (str b.scheme)) ∧ w'.cell? ⟨w.heap.size + 1, 1, none⟩ = some (.string (str b.user)) ∧ w'.cell? ⟨w.heap.size + 1, 2, none⟩ = some (.string (str b.host)) ∧ w'.cell? ⟨w.heap.size + 1, 3, none⟩ = some (.int .i64 b.port) ∧ w'.cell? ⟨w.heap.size + 1, 4, none⟩ = some (.slice A3 b.params.length c3) ∧ w'.cell? ⟨w.heap.size + 1, 5, none⟩ = some (.slice A4 b.headers.length c4))
      (first | exact HC.out _ HX.out | exact HC.out _ HB1.out | exact HC.out _ HB1.out.drew)
      (first | (go_at_call 31; first | ((with_reducible refine (HAB.out _ HX.out).mono ?_); rintro e wn ⟨rfl, hbn⟩; have HX := Lib.hid (thenB HX.out hbn); clear hbn) | ((with_reducible refine (HAB.out _ HB1.out.drew).mono ?_); rintro e wn ⟨rfl, hbn⟩; have HX := Lib.hid (thenB HB1.out.drew hbn); clear hbn)) | (go_at_call 38; first | ((with_reducible refine (HRB.out _ HX.out).mono ?_); rintro e wn ⟨rfl, hbn⟩; have HX := Lib.hid (thenB HX.out hbn); clear hbn) | ((with_reducible refine (HRB.out _ HB1.out.drew).mono ?_); rintro e wn ⟨rfl, hbn⟩; have HX := Lib.hid (thenB HB1.out.drew hbn); clear hbn)) | (go_at_call 33; (with_reducible refine (HA.out _).mono ?_); rintro e wz ⟨rfl, hbz⟩; have HX := Lib.hid (thenB HX.out hbz); clear hbz))
    all_goals
      go_wp2
      go_ret
      exact ⟨rfl, thenB HB0.out HX.out⟩
end Go.Proofs.YtpnchfigehgkgaaDoor
