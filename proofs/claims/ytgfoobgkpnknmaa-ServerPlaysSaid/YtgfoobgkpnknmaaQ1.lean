/- The reference's table of the server: Find, place, Cached. -/
import Derived.Test.YtgfoobgkpnknmaaS7
import Derived.Test.YtgfoobgkpnknmaaN
namespace Go.Proofs.Ytgfoobgkpnknmaa
set_option linter.unusedSimpArgs false
set_option linter.unusedVariables false
open Go.RowKit
def srcell (c : SC) : List Value := [.int .i64 c.id, .string c.key.1, .string c.key.2.1, .string c.key.2.2, .int .i64 c.over, .bool c.told, .string c.to, .string c.bs]
theorem srcell_len (c : SC) : (srcell c).length = 8 := rfl
theorem srcell_one (c : SC) : ∀ u ∈ srcell c, u.oneCell' = true := by
  intro u hu
  simp [srcell] at hu
  rcases hu with rfl | rfl | rfl | rfl | rfl | rfl | rfl | rfl <;> rfl
theorem find_skip {cs : List SC} {i : Nat} {k : SK} (hi : i < cs.length) (h : cs[i].key ≠ k) : sFind k (cs.drop i) = sFind k (cs.drop (i + 1)) := by
  rw [List.drop_eq_getElem_cons hi]
  conv => lhs; unfold sFind
  exact if_neg h
theorem find_hit {cs : List SC} {i : Nat} {k : SK} (hi : i < cs.length) (h : cs[i].key = k) : sFind k (cs.drop i) = some cs[i].id := by
  rw [List.drop_eq_getElem_cons hi]
  unfold sFind
  rw [if_pos h]
def FindPost (w : World) (k : SK) (cs : List SC) (e : Ending) (w' : World) : Prop :=
  e = .returned (.tuple #[.int .i64 ((sFind k cs).getD 0), .bool (sFind k cs).isSome]) ∧ Below w.heap.size w w'
set_option maxRecDepth 100000 in
set_option maxHeartbeats 2000000 in
theorem rfind_any {w : World} {cs : List SC} {A : Option Addr} {c : Nat} (h : Rd w 168 8 cs.length A (rows srcell cs)) (hl : cs.length ≤ 1000000) (most last : Int) (k1 k2 k3 : ByteArray) :
    Calls Try.prog 53 #[.agg #[.int .i64 most, .int .i64 last, .slice A cs.length c], .string k1, .string k2, .string k3] w (FindPost w (k1, k2, k3) cs) := by
  obtain ⟨W, hW⟩ : ∃ W, w.alloc (.cells #[.int .i64 most, .int .i64 last, .slice A cs.length c] 117) = W := ⟨_, rfl⟩
  have HT := Lib.hid (hW ▸ Blk.new w 117 #[.int .i64 most, .int .i64 last, .slice A cs.length c])
  have HR := Lib.hid (hW ▸ h.alloc (.cells #[.int .i64 most, .int .i64 last, .slice A cs.length c] 117))
  have HB : Hid (Below w.heap.size w W) := Lib.hid (hW ▸ (Below.refl _ _).alloc (Nat.le_refl _) _)
  have t2 := HT.out.cell 2
  clear h
  go_enter Try.func53, Try.ntmps53
  go_wp2
  go_loop [10] (fun i => ∃ j : Nat, j ≤ cs.length ∧ i = .int .i64 j ∧ sFind (k1, k2, k3) cs = sFind (k1, k2, k3) (cs.drop j)) (fun i => cs.length - (intOf i).toNat)
  case atStart => exact ⟨0, by omega, rfl, rfl⟩
  case round =>
    obtain ⟨j, hj, rfl, hrel⟩ := hrel
    have x0 : (0 : Int) ≤ j := by omega
    by_cases hlt : j < cs.length
    · have x1 : (j : Int) < cs.length := by omega
      obtain ⟨gb, off, rfl, _, hcj⟩ := rd_row srcell_len HR.out hlt
      have c0 : W.cell? ⟨gb, off + j * 8, none⟩ = some (.int .i64 cs[j].id) := hcj 0 (by omega)
      have c1 : W.cell? ⟨gb, off + j * 8 + 1, none⟩ = some (.string cs[j].key.1) := hcj 1 (by omega)
      have c2 : W.cell? ⟨gb, off + j * 8 + 2, none⟩ = some (.string cs[j].key.2.1) := hcj 2 (by omega)
      have c3 : W.cell? ⟨gb, off + j * 8 + 3, none⟩ = some (.string cs[j].key.2.2) := hcj 3 (by omega)
      have hhit := fun q => find_hit (k := (k1, k2, k3)) hlt q
      have hskip := fun q => find_skip (k := (k1, k2, k3)) hlt q
      clear hcj
      generalize cs[j] = cj at *
      obtain ⟨cid, ⟨q1, q2, q3⟩, cov, ctd, cto, cbs⟩ := cj
      simp only at c0 c1 c2 c3 hhit hskip
      by_cases e1 : q1 = k1
      · by_cases e2 : q2 = k2
        · by_cases e3 : q3 = k3
          · have HE := Lib.hid (hrel.trans (hhit (by rw [e1, e2, e3])))
            have b1 := beq_yes e1
            have b2 := beq_yes e2
            have b3 := beq_yes e3
            clear hhit hskip hrel e1 e2 e3
            go_wp2
            go_ret2
            exact ⟨ret_pair (by rw [HE.out]; rfl) (by rw [HE.out]; rfl), HB.out⟩
          · have HE := Lib.hid (hrel.trans (hskip (fun q => e3 (by injection q with _ q; injection q with _ q))))
            have b1 := beq_yes e1
            have b2 := beq_yes e2
            have b3 := beq_no e3
            clear hhit hskip hrel e1 e2 e3
            go_wp2
            go_round
            case rel => exact ⟨j + 1, by omega, by go_num, HE.out⟩
            case measure => simp [intOf] <;> omega
        · have HE := Lib.hid (hrel.trans (hskip (fun q => e2 (by injection q with _ q; injection q with q _))))
          have b1 := beq_yes e1
          have b2 := beq_no e2
          clear hhit hskip hrel e1 e2
          go_wp2
          go_round
          case rel => exact ⟨j + 1, by omega, by go_num, HE.out⟩
          case measure => simp [intOf] <;> omega
      · have HE := Lib.hid (hrel.trans (hskip (fun q => e1 (by injection q with q _))))
        have b1 := beq_no e1
        clear hhit hskip hrel e1
        go_wp2
        go_round
        case rel => exact ⟨j + 1, by omega, by go_num, HE.out⟩
        case measure => simp [intOf] <;> omega
    · have HE := Lib.hid (show sFind (k1, k2, k3) cs = none by rw [hrel, List.drop_eq_nil_of_le (by omega)]; rfl)
      clear hrel
      go_wp2
      go_ret2
      exact ⟨ret_pair (by rw [HE.out]; rfl) (by rw [HE.out]; rfl), HB.out⟩
def sPlaceI (n : Int) (cs : List SC) : Int := match sPlace n cs with
  | none => -1
  | some x => x.1
theorem place_skip {cs : List SC} {i : Nat} {n : Int} (hi : i < cs.length) (h : ∀ j (hj : j < cs.length), j < i → cs[j].id ≠ n) (he : cs[i].id = n) : sPlace n cs = some (i, cs[i]) := by
  induction cs generalizing i with
  | nil => cases hi
  | cons a r ih =>
    cases i with
    | zero =>
      have he : a.id = n := he
      unfold sPlace
      rw [if_pos he]
      rfl
    | succ i =>
      have h0 : a.id ≠ n := h 0 (by simp) (by omega)
      unfold sPlace
      rw [if_neg h0, ih (i := i) (by simpa using hi) (fun j hj hji => h (j + 1) (by simpa using hj) (by omega)) he]
      rfl
theorem place_out {cs : List SC} {n : Int} (h : ∀ j (hj : j < cs.length), cs[j].id ≠ n) : sPlace n cs = none := by
  refine place_none.2 fun c hc => ?_
  obtain ⟨j, hj, rfl⟩ := List.getElem_of_mem hc
  exact h j hj
set_option maxRecDepth 100000 in
set_option maxHeartbeats 1000000 in
theorem rplace_any {w : World} {cs : List SC} {A : Option Addr} {c : Nat} (h : Rd w 168 8 cs.length A (rows srcell cs)) (hl : cs.length ≤ 1000000) (most last n : Int) :
    Calls Try.prog 74 #[.agg #[.int .i64 most, .int .i64 last, .slice A cs.length c], .int .i64 n] w fun e w' => e = .returned (.int .i64 (sPlaceI n cs)) ∧ Below w.heap.size w w' := by
  obtain ⟨W, hW⟩ : ∃ W, w.alloc (.cells #[.int .i64 most, .int .i64 last, .slice A cs.length c] 117) = W := ⟨_, rfl⟩
  have HT := Lib.hid (hW ▸ Blk.new w 117 #[.int .i64 most, .int .i64 last, .slice A cs.length c])
  have HR := Lib.hid (hW ▸ h.alloc (.cells #[.int .i64 most, .int .i64 last, .slice A cs.length c] 117))
  have HB : Hid (Below w.heap.size w W) := Lib.hid (hW ▸ (Below.refl _ _).alloc (Nat.le_refl _) _)
  have t2 := HT.out.cell 2
  clear h
  go_enter Try.func74, Try.ntmps74
  go_wp2
  go_loop [5] (fun i => ∃ j : Nat, j ≤ cs.length ∧ i = .int .i64 j ∧ ∀ i (hi : i < cs.length), i < j → cs[i].id ≠ n) (fun i => cs.length - (intOf i).toNat)
  case atStart => exact ⟨0, by omega, rfl, fun _ _ h => by omega⟩
  case round =>
    obtain ⟨j, hj, rfl, hrel⟩ := hrel
    have HRL := Lib.hid hrel
    clear hrel
    have x0 : (0 : Int) ≤ j := by omega
    by_cases hlt : j < cs.length
    · have x1 : (j : Int) < cs.length := by omega
      obtain ⟨gb, off, rfl, _, hcj⟩ := rd_row srcell_len HR.out hlt
      have c0 : W.cell? ⟨gb, off + j * 8, none⟩ = some (.int .i64 cs[j].id) := hcj 0 (by omega)
      clear hcj
      by_cases he : cs[j].id = n
      · have HE : Hid (sPlaceI n cs = j) := Lib.hid (by unfold sPlaceI; rw [place_skip hlt HRL.out he])
        have heb : (cs[j].id == n) = true := by rw [he]; exact beq_self_eq_true _
        clear he
        generalize cs[j].id = q at *
        go_wp2
        go_ret
        exact ⟨ret_int HE.out.symm, HB.out⟩
      · have heb : (cs[j].id == n) = false := beq_eq_false_iff_ne.2 he
        have HE : Hid (∀ i (hi : i < cs.length), i < j + 1 → cs[i].id ≠ n) := Lib.hid (fun i hi hij => by
          by_cases q : i = j
          · subst q; exact he
          · exact HRL.out i hi (by omega))
        clear he
        generalize cs[j].id = q at *
        go_wp2
        go_round
        case rel => exact ⟨j + 1, by omega, by go_num, HE.out⟩
        case measure => simp [intOf] <;> omega
    · have HE : Hid (sPlaceI n cs = -1) := Lib.hid (by unfold sPlaceI; rw [place_out (fun i hi => HRL.out i hi (by omega))])
      go_wp2
      go_ret
      exact ⟨ret_int HE.out.symm, HB.out⟩
theorem placeI_cases (n : Int) (cs : List SC) : (sPlaceI n cs = -1 ∧ sPlace n cs = none) ∨ ∃ (i : Nat) (hi : i < cs.length), sPlaceI n cs = i ∧ sPlace n cs = some (i, cs[i]) := by
  cases h : sPlace n cs with
  | none => exact .inl ⟨by unfold sPlaceI; rw [h], rfl⟩
  | some x =>
    obtain ⟨h1, h2⟩ := place_at h
    obtain ⟨hi, e⟩ := List.getElem?_eq_some_iff.1 h1
    refine .inr ⟨x.1, hi, by unfold sPlaceI; rw [h], ?_⟩
    rw [e]
set_option maxRecDepth 100000 in
set_option maxHeartbeats 1000000 in
theorem rcached_any {w : World} {cs : List SC} {A : Option Addr} {c : Nat} (h : Rd w 168 8 cs.length A (rows srcell cs)) (hl : cs.length ≤ 1000000) (most last n : Int) :
    Calls Try.prog 55 #[.agg #[.int .i64 most, .int .i64 last, .slice A cs.length c], .int .i64 n] w (SCachPost w cs n) := by
  obtain ⟨W, hW⟩ : ∃ W, (w.alloc (.cells #[.int .i64 most, .int .i64 last, .slice A cs.length c] 117)).alloc (.cells #[.string ⟨#[]⟩, .string ⟨#[]⟩] 71) = W := ⟨_, rfl⟩
  have hT := hW ▸ (Blk.new w 117 #[.int .i64 most, .int .i64 last, .slice A cs.length c]).alloc (.cells #[.string ⟨#[]⟩, .string ⟨#[]⟩] 71)
  have hS : Blk W (w.heap.size + 1) 71 #[.string ⟨#[]⟩, .string ⟨#[]⟩] := hW ▸ Blk.new' (w.alloc (.cells #[.int .i64 most, .int .i64 last, .slice A cs.length c] 117)) _ _ (by simp)
  have hR := hW ▸ (h.alloc (.cells #[.int .i64 most, .int .i64 last, .slice A cs.length c] 117)).alloc (.cells #[.string ⟨#[]⟩, .string ⟨#[]⟩] 71)
  have HB : Hid (Below w.heap.size w W) := Lib.hid (hW ▸ ((Below.refl _ _).alloc (Nat.le_refl _) _).alloc (by simp) _)
  have hsz : W.heap.size = w.heap.size + 2 := by rw [← hW]; simp
  have HSZ := Lib.hid hsz
  have HT := Lib.hid hT
  have HS := Lib.hid hS
  have HR := Lib.hid hR
  have HP := Lib.hid (rplace_any (c := c) hR hl most last n)
  have t0 := hT.cell 0
  have t1 := hT.cell 1
  have t2 := hT.cell 2
  clear h hT hS hR hsz
  go_enter Try.func55, Try.ntmps55
  go_wp2_with fail
  refine (HP.out).mono ?_
  rintro e w1 ⟨rfl, hb1⟩
  have hT1 := HT.out.fr (Fr.of_below (F := fun _ => False) hb1) (fun h => h)
  have hS1 := HS.out.fr (Fr.of_below (F := fun _ => False) hb1) (fun h => h)
  have HS1 := Lib.hid hS1
  have HR1 := Lib.hid (HR.out.below hb1)
  have HB1 := Lib.hid (HB.out.trans (hb1.mono HB.out.size))
  have u2 := hT1.cell 2
  have f0 := hS1.frozen 0
  have f1 := hS1.frozen 1
  have s0 := hS1.cell 0
  have s1 := hS1.cell 1
  have hws : w.heap.size ≤ w.heap.size + 1 := by omega
  clear t0 t1 t2 hT1 hS1 hb1 hW
  rcases placeI_cases n cs with ⟨hpi, hp⟩ | ⟨i, hi, hpi, hp⟩
  · rw [hpi]
    have HV : Hid (sCached n cs = if false then some ((⟨#[]⟩ : ByteArray), (⟨#[]⟩ : ByteArray)) else none) := Lib.hid (by unfold sCached; rw [hp]; rfl)
    have hneg : decide ((-1 : Int) < 0) = true := rfl
    clear hp hpi
    go_wp2
    have z0 := ((HS1.out.set_ 0 (.string ⟨#[]⟩)).set_ 1 (.string ⟨#[]⟩)).cell 0
    have z1 := ((HS1.out.set_ 0 (.string ⟨#[]⟩)).set_ 1 (.string ⟨#[]⟩)).cell 1
    exact bodyPost_ret (v := .tuple #[.agg #[.string ⟨#[]⟩, .string ⟨#[]⟩], .bool false]) (by simp [results, Try.results55, go_sem, z0, z1]) rfl (cach_of HV.out ((HB1.out.setCell (by simp) _).setCell (by simp) _) (fun _ => ⟨rfl, rfl⟩))
  · rw [hpi]
    have x0 : (0 : Int) ≤ i := by omega
    have x1 : (i : Int) < cs.length := by omega
    have hneg : decide ((i : Int) < 0) = false := decide_eq_false (by omega)
    have HV : Hid (sCached n cs = if cs[i].told then some (cs[i].to, cs[i].bs) else none) := Lib.hid (by unfold sCached; rw [hp])
    obtain ⟨gb, off, rfl, hgl, hcj⟩ := rd_row srcell_len HR1.out hi
    have c5 : w1.cell? ⟨gb, off + i * 8 + 5, none⟩ = some (.bool cs[i].told) := hcj 5 (by omega)
    have c6 : w1.cell? ⟨gb, off + i * 8 + 6, none⟩ = some (.string cs[i].to) := hcj 6 (by omega)
    have c7 : w1.cell? ⟨gb, off + i * 8 + 7, none⟩ = some (.string cs[i].bs) := hcj 7 (by omega)
    clear hp hpi hcj
    generalize cs[i].told = td at *
    generalize cs[i].to = to at *
    generalize cs[i].bs = bs at *
    cases td
    · go_wp2
      have z0 := ((HS1.out.set_ 0 (.string ⟨#[]⟩)).set_ 1 (.string ⟨#[]⟩)).cell 0
      have z1 := ((HS1.out.set_ 0 (.string ⟨#[]⟩)).set_ 1 (.string ⟨#[]⟩)).cell 1
      exact bodyPost_ret (v := .tuple #[.agg #[.string ⟨#[]⟩, .string ⟨#[]⟩], .bool false]) (by simp [results, Try.results55, go_sem, z0, z1]) rfl (cach_of HV.out ((HB1.out.setCell (by simp) _).setCell (by simp) _) (fun _ => ⟨rfl, rfl⟩))
    · go_wp2
      have z0 := ((HS1.out.set_ 0 (.string to)).set_ 1 (.string bs)).cell 0
      have z1 := ((HS1.out.set_ 0 (.string to)).set_ 1 (.string bs)).cell 1
      exact bodyPost_ret (v := .tuple #[.agg #[.string to, .string bs], .bool true]) (by simp [results, Try.results55, go_sem, z0, z1]) rfl (cach_of HV.out ((HB1.out.setCell (by simp) _).setCell (by simp) _) (fun h => by cases h))
end Go.Proofs.Ytgfoobgkpnknmaa
