/- Chapter 3: rosterref03.Print. Chapter 3: uri.read, rosterref03.parameters. Chapter 3: rosterref03.parameters. Chapter 3: uri.where, Where. Chapter 3: rosterref03.Where. Chapter 3: what the walks of uri.Parse and rosterref03.Parse keep. Chapter 3: uri.Parse. Chapter 3: rosterref03.Parse. Chapter 3: rosterref03.Lists, Same. -/
import Derived.Test.YtpnchfigehgkgaaGreatDoorGj
import Derived.Deep.DeepCutAuto
import Derived.Deep.CutBlock
import Derived.Deep.RegionWith
import Derived.Deep.QuietTactic
import Derived.BigQuiet
import Derived.Laws.StructEq
namespace Go.Proofs.YtpnchfigehgkgaaGreatDoor
set_option linter.unusedSimpArgs false
set_option linter.unusedVariables false
open Go.RowKit
def snocT (l : T) (c : UInt8) : T := l ++ [c]
def appT (a b : T) : T := a ++ b
theorem snocT_len (l : T) (c : UInt8) : (snocT l c).length = l.length + 1 := by simp [snocT]
theorem appT_len (a b : T) : (appT a b).length = a.length + b.length := by simp [appT]
theorem addS (c : UInt8) (l : T) (h : l.length ≤ 100000000) (W : World) : (Op.stringOp .add (str l) ⟨#[c]⟩).run Tryz.prog W = .ok (.string (str (snocT l c))) W := add_snoc c l h W
theorem addA (a b : T) (h : a.length + b.length ≤ 100000000) (W : World) : (Op.stringOp .add (str a) (str b)).run Tryz.prog W = .ok (.string (str (appT a b))) W := add_str a b h W
def prA (u : Uri) : T := prScheme u ++ prUser u
def prB (u : Uri) : T := prA u ++ u.host
def prC (u : Uri) (j : Nat) : T := prBase u ++ prPars u.params j
def prD (u : Uri) (k : Nat) : T := prC u u.params.length ++ prHdrs u.headers k
end Go.Proofs.YtpnchfigehgkgaaGreatDoor
namespace Go.Proofs.YtpnchfigehgkgaaGreatDoor
set_option linter.unusedSimpArgs false
set_option linter.unusedVariables false
open Go.RowKit
theorem e112i : ElemInfo Tryz.prog 112 3 40 (.agg #[.string ⟨#[]⟩, .string ⟨#[]⟩, .bool false]) := ElemInfo.mk' (by kernel_rfl)
/-- a slice of texts below block B -/
def TxtB (w : World) (B : Nat) (v : Value) (l : List T) : Prop := ∃ A c, v = .slice A l.length c ∧ RdB w B 1 l.length A (l.map SC1)
theorem TxtB.below {w w' : World} {B : Nat} {v : Value} {l : List T} (h : TxtB w B v l) (hb : Below B w w') : TxtB w' B v l := by
  obtain ⟨A, c, e, r⟩ := h
  exact ⟨A, c, e, r.below hb⟩
theorem TxtB.at_ {w : World} {B : Nat} {A : Option Addr} {l : List T} (h : RdB w B 1 l.length A (l.map SC1)) {i : Nat} (hi : i < l.length) :
    ∃ gb off, A = some ⟨gb, off, none⟩ ∧ gb < B ∧ w.cell? ⟨gb, off + i, none⟩ = some (.string (str l[i])) := by
  obtain ⟨gb, off, e, hlt, hc⟩ := h.at_ (by omega)
  exact ⟨gb, off, e, hlt, hc i _ (by rw [List.getElem?_map, List.getElem?_eq_getElem hi]; rfl)⟩
theorem cut_lens (c : UInt8) : ∀ l : T, (cutT c l).1.length ≤ l.length ∧ (cutT c l).2.1.length ≤ l.length
  | [] => by simp [cutT]
  | x :: r => by
    have ih := cut_lens c r
    unfold cutT
    split
    · simp
    · simp only [List.length_cons]; omega
/-- what is read of the first j texts -/
def readTo (keep : T) (l : List T) (j : Nat) : Option (List Par) := readP keep (l.take j)
theorem readP_cons (keep : T) (a : T) (r : List T) : readP keep (a :: r) = match plainT keep (cutT 61 a).1, plainT keep (cutT 61 a).2.1 with
    | some n, some v => (readP keep r).map (⟨n, v, (cutT 61 a).2.2⟩ :: ·)
    | _, _ => none := rfl
theorem read_snoc (keep : T) : ∀ (l : List T) (s : T), readP keep (l ++ [s]) = (readP keep l).bind fun ps => (readP keep [s]).map (ps ++ ·)
  | [], s => by
    simp only [List.nil_append]
    show _ = (some []).bind _
    simp
  | a :: r, s => by
    have ih := read_snoc keep r s
    rw [List.cons_append, readP_cons keep a (r ++ [s]), readP_cons keep a r, ih]
    cases plainT keep (cutT 61 a).1 with
    | none => rfl
    | some n =>
      cases plainT keep (cutT 61 a).2.1 with
      | none => rfl
      | some v =>
        cases readP keep r with
        | none => rfl
        | some ps =>
          cases readP keep [s] with
          | none => rfl
          | some q => rfl
theorem read_bad {keep : T} {l : List T} {j : Nat} (hj : j < l.length) (h : plainT keep (cutT 61 l[j]).1 = none ∨ plainT keep (cutT 61 l[j]).2.1 = none) : readP keep l = none := by
  induction l generalizing j with
  | nil => simp at hj
  | cons a r ih =>
    unfold readP
    cases j with
    | zero =>
      simp only [List.getElem_cons_zero] at h
      rcases h with h | h
      · rw [h]
      · rw [h]
        cases plainT keep (cutT 61 a).1 <;> rfl
    | succ j =>
      simp only [List.getElem_cons_succ, List.length_cons] at h hj
      have := ih (j := j) (by omega) h
      rw [this]
      cases plainT keep (cutT 61 a).1 with
      | none => rfl
      | some n => cases plainT keep (cutT 61 a).2.1 <;> rfl
theorem read_next {keep : T} {l : List T} {j : Nat} {ps : List Par} {n v : T} {b : Bool} (hj : j < l.length) (h : readTo keep l j = some ps) (h1 : plainT keep (cutT 61 l[j]).1 = some n) (h2 : plainT keep (cutT 61 l[j]).2.1 = some v) (h3 : (cutT 61 l[j]).2.2 = b) : readTo keep l (j + 1) = some (ps ++ [⟨n, v, b⟩]) := by
  unfold readTo at *
  rw [List.take_succ_eq_append_getElem hj, read_snoc, h]
  simp only [Option.bind_some]
  have e : readP keep [l[j]] = some [⟨n, v, b⟩] := by
    unfold readP
    rw [h1, h2, h3]
    rfl
  rw [e]
  rfl
theorem read_end {keep : T} {l : List T} {j : Nat} (hj : j = l.length) : readTo keep l j = readP keep l := by unfold readTo; rw [List.take_of_length_le (by omega)]
def readV (v : Value) (o : Option (List Par)) : Value := match o with
  | some _ => .tuple #[v, .bool true]
  | none => .tuple #[.slice none 0 0, .bool false]
/-- a row of parameters of the call's own, or nil and false -/
def ReadPost (keep : T) (l : List T) (w : World) (e : Ending) (w' : World) : Prop :=
  ∃ v, e = .returned (readV v (readP keep l)) ∧ (∀ ps, readP keep l = some ps → w'.ownsRow w.heap.size 112 3 v ps.length (rows parC ps)) ∧ Below w.heap.size w w'
structure ReadRel (keep : T) (l : List T) (w : World) (j : Nat) (v : Value) (wr : World) : Prop where
  own : ∃ ps, readTo keep l j = some ps ∧ ps.length = j ∧ wr.ownsRow w.heap.size 112 3 v ps.length (rows parC ps)
  be : Below w.heap.size w wr
theorem ReadPost.no {keep : T} {l : List T} {w w' : World} (h : readP keep l = none) (hb : Below w.heap.size w w') : ReadPost keep l w (.returned (.tuple #[.slice none 0 0, .bool false])) w' :=
  ⟨.slice none 0 0, by rw [h]; rfl, fun ps q => (by rw [h] at q; cases q), hb⟩
theorem ReadPost.yes {keep : T} {l : List T} {w w' : World} {v : Value} {ps : List Par} (h : readP keep l = some ps) (ho : w'.ownsRow w.heap.size 112 3 v ps.length (rows parC ps)) (hb : Below w.heap.size w w') : ReadPost keep l w (.returned (.tuple #[v, .bool true])) w' :=
  ⟨v, by rw [h]; rfl, fun ps' q => (by rw [h] at q; injection q with q; subst q; exact ho), hb⟩
theorem parC_one : ∀ p, ∀ u ∈ parC p, u.oneCell' = true := fun p u hu => by
  unfold parC at hu
  simp only [List.mem_cons, List.not_mem_nil, or_false] at hu
  rcases hu with rfl | rfl | rfl <;> rfl
set_option maxRecDepth 100000 in
set_option maxHeartbeats 4000000 in
theorem read_any {l : List T} {keep : ByteArray} {A : Option Addr} {c B : Nat} {w : World} (hB : B ≤ w.heap.size) (hr : RdB w B 1 l.length A (l.map SC1)) (hl : l.length ≤ 1000000000) (hs : ∀ s ∈ l, s.length ≤ 1000000000) (hkeep : keep.size ≤ 100) :
    Calls Tryz.prog 49 #[.slice A l.length c, .string keep] w (ReadPost keep.data.toList l w) := by
  have HR := Lib.hid hr
  have HS := Lib.hid hs
  have H0 : Hid (ReadRel keep.data.toList l w 0 (.slice none 0 0) w) := Lib.hid ⟨⟨[], rfl, rfl, by simp [rows], .inl ⟨rfl, rfl⟩⟩, Below.refl _ _⟩
  clear hr hs
  go_enter Tryz.func49, Tryz.ntmps49
  go_wp2
  go_loopw [6, 18] (fun v i wr => ∃ j : Nat, j ≤ l.length ∧ i = .int .i64 j ∧ ReadRel keep.data.toList l w j v wr) (fun _ i _ => l.length - (intOf i).toNat)
  case atStart => exact ⟨0, by omega, rfl, H0.out⟩
  case round =>
    obtain ⟨j, hj, rfl, hR⟩ := hrel
    obtain ⟨⟨ps, hps, hpl, hown⟩, hbe⟩ := hR
    have HPS := Lib.hid hps
    have HO := Lib.hid hown
    have HB := Lib.hid hbe
    have hsz := hbe.size
    by_cases hlt : j < l.length
    · have x0 : (0 : Int) ≤ j := by omega
      have x1 : (j : Int) < l.length := by omega
      obtain ⟨gb, off, rfl, hgb, zc⟩ := TxtB.at_ (HR.out.below (hbe.mono hB)) hlt
      have hls := HS.out _ (List.getElem_mem hlt)
      have HC := Lib.hid (fun W => Cut_any (str l[j]) 61 W (by show l[j].length ≤ _; omega))
      have HBAD := Lib.hid (fun q => read_bad (keep := keep.data.toList) hlt q)
      have HNX := Lib.hid (fun n v b q1 q2 q3 => read_next (keep := keep.data.toList) (n := n) (v := v) (b := b) hlt hps q1 q2 q3)
      have HCV : Hid (cutV (str l[j]) 61 = .tuple #[.string (str (cutT 61 l[j]).1), .string (str (cutT 61 l[j]).2.1), .bool (cutT 61 l[j]).2.2]) := Lib.hid rfl
      have hcl : (cutT 61 l[j]).1.length ≤ l[j].length ∧ (cutT 61 l[j]).2.1.length ≤ l[j].length := cut_lens 61 _
      clear hps hown hbe
      generalize cutT 61 l[j] = t at *
      obtain ⟨p, q, f⟩ := t
      simp only at hcl HCV HBAD HNX
      have HP1 : Hid (∀ W, Calls Tryz.prog 46 #[.string (str p), .string keep] W (PlPost (str p) keep W)) := Lib.hid (fun W => plain_any (str p) keep W (by show p.length ≤ _; omega) (by omega))
      have HP2 : Hid (∀ W, Calls Tryz.prog 46 #[.string (str q), .string keep] W (PlPost (str q) keep W)) := Lib.hid (fun W => plain_any (str q) keep W (by show q.length ≤ _; omega) (by omega))
      have HE1 : Hid (plainT keep.data.toList (str p).data.toList = plainT keep.data.toList p) := Lib.hid rfl
      have HE2 : Hid (plainT keep.data.toList (str q).data.toList = plainT keep.data.toList q) := Lib.hid rfl
      go_wp2_with fail
      refine (HC.out _).mono ?_
      rintro e w1 ⟨rfl, m, rfl⟩
      rw [HCV.out]
      go_wp2_with fail
      refine (HP1.out _).mono ?_
      rintro e w2 ⟨rfl, hb2⟩
      have HF2 : Hid (Fr (fun _ => False) wr w2) := Lib.hid (((Fr.refl (fun _ => False) wr).drewN m).trans (G := fun _ => False) (Fr.of_below hb2) (fun _ _ h => h))
      rw [HE1.out]
      clear hb2
      cases hp : plainT keep.data.toList p with
      | none =>
        have HX := Lib.hid (HBAD.out (.inl hp))
        unfold plV
        go_wp2_with fail
        refine (HP2.out _).mono ?_
        rintro e w3 ⟨rfl, hb3⟩
        rw [HE2.out]
        have HF3 : Hid (Fr (fun _ => False) wr w3) := Lib.hid (HF2.out.trans (G := fun _ => False) (Fr.of_below hb3) (fun _ _ h => h))
        clear hb3
        cases hq : plainT keep.data.toList q with
        | none =>
          unfold plV
          go_wp2
          go_ret2
          exact ReadPost.no HX.out (HB.out.trans (HF3.out.to_below hsz (fun _ h => h.elim)))
        | some v =>
          unfold plV
          go_wp2
          go_ret2
          exact ReadPost.no HX.out (HB.out.trans (HF3.out.to_below hsz (fun _ h => h.elim)))
      | some n =>
        have HN := Lib.hid hp
        unfold plV
        go_wp2_with fail
        refine (HP2.out _).mono ?_
        rintro e w3 ⟨rfl, hb3⟩
        rw [HE2.out]
        have HF3 : Hid (Fr (fun _ => False) wr w3) := Lib.hid (HF2.out.trans (G := fun _ => False) (Fr.of_below hb3) (fun _ _ h => h))
        clear hb3 hp
        cases hq : plainT keep.data.toList q with
        | none =>
          have HX := Lib.hid (HBAD.out (.inr hq))
          clear hq
          unfold plV
          go_wp2
          go_ret2
          exact ReadPost.no HX.out (HB.out.trans (HF3.out.to_below hsz (fun _ h => h.elim)))
        | some v =>
          have HX := Lib.hid (HNX.out n v f HN.out hq rfl)
          clear hq
          unfold plV
          have hs3 := HF3.out.size
          have HNE : Hid (∀ v4 w4, w4.ownsRow w.heap.size 112 3 v4 (ps.length + 1) (rows parC ps ++ [.string (str n), .string (str v), .bool f]) → Below w.heap.size w3 w4 → ReadRel keep.data.toList l w (j + 1) v4 w4) := Lib.hid (fun v4 w4 a b => ⟨⟨ps ++ [⟨n, v, f⟩], HX.out, by simp; omega, by rw [List.length_append, rows_snoc]; exact a⟩, (HB.out.trans (HF3.out.to_below hsz (fun _ h => h.elim))).trans b⟩)
          have hpl2 : ps.length ≤ 1000000000 := by omega
          go_wp2_with (at_builtin; (refine wpList_app1' rfl (.tmp 46) (.tmp 51) 60 rfl w.heap.size 112 3 40 _ Tryz.underlying60 e112i rfl (by omega) _ _ _ rfl (own_fr HO.out HF3.out (fun _ _ h => h)) [.string (str n), .string (str v), .bool f] _ rfl (by first | (simp; done) | rfl) rfl (by intro u hu; simp at hu; rcases hu with rfl | rfl | rfl <;> rfl) (by unfold maxLen; omega) (by omega) (by show w.heap.size ≤ w3.heap.size; omega) ?_); intro v4 w4 hown4 hb4 hg4 hat4)
          have HZ := Lib.hid (HNE.out v4 w4 hown4 hb4)
          clear hown4 hb4 hg4 hat4
          go_roundw
          case rel => exact ⟨j + 1, by omega, by go_num, HZ.out⟩
          case measure => simp [intOf] <;> omega
    · have x1 : ¬ (j : Int) < l.length := by omega
      have HX : Hid (readP keep.data.toList l = some ps) := Lib.hid (by rw [← read_end (keep := keep.data.toList) (show j = l.length by omega)]; exact hps)
      clear hps hown hbe
      go_wp2
      go_ret2
      exact ReadPost.yes HX.out HO.out HB.out
end Go.Proofs.YtpnchfigehgkgaaGreatDoor
namespace Go.Proofs.YtpnchfigehgkgaaGreatDoor
set_option linter.unusedSimpArgs false
set_option linter.unusedVariables false
open Go.RowKit
set_option maxRecDepth 100000 in
set_option maxHeartbeats 4000000 in
theorem rparams_any {l : List T} {keep : ByteArray} {A : Option Addr} {c B : Nat} {w : World} (hB : B ≤ w.heap.size) (hr : RdB w B 1 l.length A (l.map SC1)) (hl : l.length ≤ 1000000000) (hs : ∀ s ∈ l, s.length ≤ 1000000000) (hkeep : keep.size ≤ 100) :
    Calls Tryz.prog 60 #[.slice A l.length c, .string keep] w (ReadPost keep.data.toList l w) := by
  have HR := Lib.hid hr
  have HS := Lib.hid hs
  have H0 : Hid (ReadRel keep.data.toList l w 0 (.slice none 0 0) w) := Lib.hid ⟨⟨[], rfl, rfl, by simp [rows], .inl ⟨rfl, rfl⟩⟩, Below.refl _ _⟩
  clear hr hs
  go_enter Tryz.func60, Tryz.ntmps60
  go_wp2
  go_loopw [6, 7] (fun v i wr => ∃ j : Nat, j ≤ l.length ∧ i = .int .i64 j ∧ ReadRel keep.data.toList l w j v wr) (fun _ i _ => l.length - (intOf i).toNat)
  case atStart => exact ⟨0, by omega, rfl, H0.out⟩
  case round =>
    obtain ⟨j, hj, rfl, hR⟩ := hrel
    obtain ⟨⟨ps, hps, hpl, hown⟩, hbe⟩ := hR
    have HPS := Lib.hid hps
    have HO := Lib.hid hown
    have HB := Lib.hid hbe
    have hsz := hbe.size
    by_cases hlt : j < l.length
    · have x0 : (0 : Int) ≤ j := by omega
      have x1 : (j : Int) < l.length := by omega
      obtain ⟨gb, off, rfl, hgb, zc⟩ := TxtB.at_ (HR.out.below (hbe.mono hB)) hlt
      have hls := HS.out _ (List.getElem_mem hlt)
      have HC := Lib.hid (fun W => rCut_any (str l[j]) 61 W (by show l[j].length ≤ _; omega))
      have HBAD := Lib.hid (fun q => read_bad (keep := keep.data.toList) hlt q)
      have HNX := Lib.hid (fun n v b q1 q2 q3 => read_next (keep := keep.data.toList) (n := n) (v := v) (b := b) hlt hps q1 q2 q3)
      have HCV : Hid (cutV (str l[j]) 61 = .tuple #[.string (str (cutT 61 l[j]).1), .string (str (cutT 61 l[j]).2.1), .bool (cutT 61 l[j]).2.2]) := Lib.hid rfl
      have hcl : (cutT 61 l[j]).1.length ≤ l[j].length ∧ (cutT 61 l[j]).2.1.length ≤ l[j].length := cut_lens 61 _
      clear hps hown hbe
      generalize cutT 61 l[j] = t at *
      obtain ⟨p, q, f⟩ := t
      simp only at hcl HCV HBAD HNX
      have HP1 : Hid (∀ W, Calls Tryz.prog 57 #[.string (str p), .string keep] W (PlPost (str p) keep W)) := Lib.hid (fun W => rwritten_any (str p) keep W (by show p.length ≤ _; omega) (by omega))
      have HP2 : Hid (∀ W, Calls Tryz.prog 57 #[.string (str q), .string keep] W (PlPost (str q) keep W)) := Lib.hid (fun W => rwritten_any (str q) keep W (by show q.length ≤ _; omega) (by omega))
      have HE1 : Hid (plainT keep.data.toList (str p).data.toList = plainT keep.data.toList p) := Lib.hid rfl
      have HE2 : Hid (plainT keep.data.toList (str q).data.toList = plainT keep.data.toList q) := Lib.hid rfl
      go_wp2_with fail
      refine (HC.out _).mono ?_
      rintro e w1 ⟨rfl, m, rfl⟩
      rw [HCV.out]
      go_wp2_with fail
      refine (HP1.out _).mono ?_
      rintro e w2 ⟨rfl, hb2⟩
      have HF2 : Hid (Fr (fun _ => False) wr w2) := Lib.hid (((Fr.refl (fun _ => False) wr).drewN m).trans (G := fun _ => False) (Fr.of_below hb2) (fun _ _ h => h))
      rw [HE1.out]
      clear hb2
      cases hp : plainT keep.data.toList p with
      | none =>
        have HX := Lib.hid (HBAD.out (.inl hp))
        unfold plV
        go_wp2_with fail
        refine (HP2.out _).mono ?_
        rintro e w3 ⟨rfl, hb3⟩
        rw [HE2.out]
        have HF3 : Hid (Fr (fun _ => False) wr w3) := Lib.hid (HF2.out.trans (G := fun _ => False) (Fr.of_below hb3) (fun _ _ h => h))
        clear hb3
        cases hq : plainT keep.data.toList q with
        | none =>
          unfold plV
          go_wp2
          go_ret2
          exact ReadPost.no HX.out (HB.out.trans (HF3.out.to_below hsz (fun _ h => h.elim)))
        | some v =>
          unfold plV
          go_wp2
          go_ret2
          exact ReadPost.no HX.out (HB.out.trans (HF3.out.to_below hsz (fun _ h => h.elim)))
      | some n =>
        have HN := Lib.hid hp
        unfold plV
        go_wp2_with fail
        refine (HP2.out _).mono ?_
        rintro e w3 ⟨rfl, hb3⟩
        rw [HE2.out]
        have HF3 : Hid (Fr (fun _ => False) wr w3) := Lib.hid (HF2.out.trans (G := fun _ => False) (Fr.of_below hb3) (fun _ _ h => h))
        clear hb3 hp
        cases hq : plainT keep.data.toList q with
        | none =>
          have HX := Lib.hid (HBAD.out (.inr hq))
          clear hq
          unfold plV
          go_wp2
          go_ret2
          exact ReadPost.no HX.out (HB.out.trans (HF3.out.to_below hsz (fun _ h => h.elim)))
        | some v =>
          have HX := Lib.hid (HNX.out n v f HN.out hq rfl)
          clear hq
          unfold plV
          have hs3 := HF3.out.size
          have HNE : Hid (∀ v4 w4, w4.ownsRow w.heap.size 112 3 v4 (ps.length + 1) (rows parC ps ++ [.string (str n), .string (str v), .bool f]) → Below w.heap.size w3 w4 → ReadRel keep.data.toList l w (j + 1) v4 w4) := Lib.hid (fun v4 w4 a b => ⟨⟨ps ++ [⟨n, v, f⟩], HX.out, by simp; omega, by rw [List.length_append, rows_snoc]; exact a⟩, (HB.out.trans (HF3.out.to_below hsz (fun _ h => h.elim))).trans b⟩)
          have hpl2 : ps.length ≤ 1000000000 := by omega
          go_wp2_with (at_builtin; (refine wpList_app1' rfl (.tmp 48) (.tmp 53) 60 rfl w.heap.size 112 3 40 _ Tryz.underlying60 e112i rfl (by omega) _ _ _ rfl (own_fr HO.out HF3.out (fun _ _ h => h)) [.string (str n), .string (str v), .bool f] _ rfl (by first | (simp; done) | rfl) rfl (by intro u hu; simp at hu; rcases hu with rfl | rfl | rfl <;> rfl) (by unfold maxLen; omega) (by omega) (by show w.heap.size ≤ w3.heap.size; omega) ?_); intro v4 w4 hown4 hb4 hg4 hat4)
          have HZ := Lib.hid (HNE.out v4 w4 hown4 hb4)
          clear hown4 hb4 hg4 hat4
          go_roundw
          case rel => exact ⟨j + 1, by omega, by go_num, HZ.out⟩
          case measure => simp [intOf] <;> omega
    · have x1 : ¬ (j : Int) < l.length := by omega
      have HX : Hid (readP keep.data.toList l = some ps) := Lib.hid (by rw [← read_end (keep := keep.data.toList) (show j = l.length by omega)]; exact hps)
      clear hps hown hbe
      go_wp2
      go_ret2
      exact ReadPost.yes HX.out HO.out HB.out
end Go.Proofs.YtpnchfigehgkgaaGreatDoor
namespace Go.Proofs.YtpnchfigehgkgaaGreatDoor
set_option linter.unusedSimpArgs false
set_option linter.unusedVariables false
open Go.RowKit
/-- where the host ends, seen from place j -/
structure WhRel (s : ByteArray) (j : Nat) (b : Bool) : Prop where
  eq : endT false s.data.toList = j + endT b (s.data.toList.drop j)
def insB (c : UInt8) (b : Bool) : Bool := decide (c = 91) || (b && decide (c ≠ 93))
theorem ins_is (c : UInt8) (b : Bool) : (if c = 91 then true else if c = 93 then false else b) = insB c b := by
  unfold insB
  by_cases h : c = 91
  · simp [h]
  · by_cases h2 : c = 93
    · simp [h2]
    · simp [h, h2]
theorem WhRel.step {s : ByteArray} {j : Nat} {b : Bool} (h : WhRel s j b) (hj : j < s.size) (hc : b = true ∨ s[j] ≠ 58) : WhRel s (j + 1) (insB s[j] b) := by
  have e := h.eq
  rw [drop_one hj, endT_cons, if_neg (by rintro ⟨h1, h2⟩; rcases hc with q | q; rw [q] at h1; cases h1; exact q h2), ins_is] at e
  exact ⟨by rw [e]; omega⟩
theorem WhRel.stop {s : ByteArray} {j : Nat} (h : WhRel s j false) (hj : j < s.size) (hc : s[j] = 58) : endT false s.data.toList = j := by
  have e := h.eq
  rw [drop_one hj, endT_cons, if_pos ⟨rfl, hc⟩] at e
  exact e
theorem WhRel.out_ {s : ByteArray} {j : Nat} {b : Bool} (h : WhRel s j b) (hj : j = s.size) : endT false s.data.toList = j := by
  have hl : s.data.toList.length = s.size := by simp
  have e := h.eq
  rw [List.drop_eq_nil_of_le (by omega)] at e
  exact e
def whV (r : T × Int × Int) : Value := .tuple #[.string (str r.1), .int .i64 r.2.1, .int .i64 r.2.2]
def WherePost (s : ByteArray) (w : World) (e : Ending) (w' : World) : Prop := e = .returned (whV (whereE s.data.toList)) ∧ Below w.heap.size w w'
theorem low_ext (s : ByteArray) (j : Nat) : lowS (s.extract 0 j) = str (low (s.data.toList.take j)) := by
  unfold lowS
  rw [ext_str]
  rfl
theorem ext_to (s : ByteArray) (j : Nat) : (s.extract j s.size).data.toList = s.data.toList.drop j := by
  have hl : s.data.toList.length = s.size := by simp
  rw [ext_str]
  show (s.data.toList.drop j).take (s.size - j) = _
  rw [List.take_of_length_le (by rw [List.length_drop]; omega)]
theorem wh_bad {s : ByteArray} {j : Nat} (h : endT false s.data.toList = j) (hb : hostB (low (s.data.toList.take j)) = false) : whereE s.data.toList = ([], 0, 32) := by
  unfold whereE
  rw [h]
  exact if_pos hb
theorem wh_end {s : ByteArray} {j : Nat} (h : endT false s.data.toList = j) (hb : hostB (low (s.data.toList.take j)) = true) (hj : j = s.size) : whereE s.data.toList = (low (s.data.toList.take j), 0, 0) := by
  have hl : s.data.toList.length = s.size := by simp
  unfold whereE
  rw [h]
  simp only [hb, Bool.true_eq_false, if_false]
  rw [if_pos (by omega)]
theorem wh_port {s : ByteArray} {j : Nat} (h : endT false s.data.toList = j) (hb : hostB (low (s.data.toList.take j)) = true) (hj : j < s.size) : whereE s.data.toList = match portO (s.data.toList.drop (j + 1)) with
    | some n => (low (s.data.toList.take j), (n : Int), 0)
    | none => ([], 0, 33) := by
  have hl : s.data.toList.length = s.size := by simp
  unfold whereE
  rw [h]
  simp only [hb, Bool.true_eq_false, if_false]
  rw [if_neg (by omega)]
  cases portO (s.data.toList.drop (j + 1)) <;> rfl
set_option maxRecDepth 100000 in
set_option maxHeartbeats 4000000 in
theorem where_any (s : ByteArray) (w : World) (hs : s.size ≤ 9223372036854775806) : Calls Tryz.prog 48 #[.string s] w (WherePost s w) := by
  have H0 : Hid (WhRel s 0 false) := Lib.hid ⟨by simp⟩
  go_enter Tryz.func48, Tryz.ntmps48
  go_wp2
  go_loop [5, 6] (fun i b => ∃ (j : Nat) (bb : Bool), j ≤ s.size ∧ i = .int .i64 j ∧ b = .bool bb ∧ WhRel s j bb) (fun i _ => s.size - (intOf i).toNat)
  case atStart => exact ⟨0, false, by omega, rfl, rfl, H0.out⟩
  case round =>
    obtain ⟨j, bb, hj, rfl, rfl, hR⟩ := hrel
    have HR := Lib.hid hR
    clear hR
    have HHO : Hid (hostB (str (low (s.data.toList.take j))).data.toList = hostB (low (s.data.toList.take j))) := Lib.hid rfl
    have HLO := Lib.hid (low_ext s j)
    have hex : (s.extract 0 j).size ≤ 9223372036854775806 := by rw [ByteArray.size_extract]; omega
    have hll : (low (s.data.toList.take j)).length ≤ 9223372036854775806 := by unfold low; simp; omega
    by_cases hlt : j < s.size
    · have x0 : (0 : Int) ≤ j := by omega
      have x1 : (j : Int) < s.size := by omega
      have HST := Lib.hid (fun q => HR.out.step hlt q)
      by_cases h58 : s[j] = 58
      · have e1 : ((s[j].toNat : Int) != 58) = false := by rw [h58]; rfl
        cases bb with
        | true =>
          have HX := Lib.hid (HST.out (.inl rfl))
          have q1 : insB s[j] true = true := by rw [h58]; rfl
          rw [q1] at HX
          have e2 : ((s[j].toNat : Int) == 91) = false := by rw [h58]; rfl
          have e3 : ((s[j].toNat : Int) != 93) = true := by rw [h58]; rfl
          clear h58 q1
          go_wp2
          go_round
          case rel => exact ⟨j + 1, true, by omega, by go_num, rfl, HX.out⟩
          case measure => simp [intOf] <;> omega
        | false =>
          have HE := Lib.hid (HR.out.stop hlt h58)
          have x2 : (j : Int) ≤ s.size := by omega
          have x3 : ((j : Int) == s.size) = false := by rw [beq_eq_false_iff_ne]; omega
          have x4 : IntKind.i64.wrap ((j : Int) + 1) = (j : Int) + 1 := IntWalk.i64_in _ (by omega)
          have x5 : (0 : Int) ≤ (j : Int) + 1 := by omega
          have x6 : (j : Int) + 1 ≤ s.size := by omega
          have x7 : ((j : Int) + 1).toNat = j + 1 := by omega
          have hpx : (s.extract (j + 1) s.size).size ≤ 9223372036854775806 := by rw [ByteArray.size_extract]; omega
          have HPX := Lib.hid (ext_to s (j + 1))
          have HBD := Lib.hid (fun q => wh_bad HE.out q)
          have HOK := Lib.hid (fun q => wh_port HE.out q hlt)
          clear h58
          go_wp2_with fail
          refine (Lower_any _ w (by omega)).mono ?_
          rintro e w1 ⟨rfl, hb1⟩
          rw [HLO.out]
          have HB1 := Lib.hid hb1
          have hs1 := hb1.size
          clear hb1
          go_wp2_with fail
          refine (Host_any _ w1 (by show (low (s.data.toList.take j)).length ≤ _; omega)).mono ?_
          rintro e w2 ⟨rfl, hb2⟩
          rw [HHO.out]
          have HB2 := Lib.hid (HB1.out.trans (hb2.mono hs1))
          clear hb2
          cases hh : hostB (low (s.data.toList.take j)) with
          | false =>
            have HX := Lib.hid (HBD.out hh)
            clear hh
            go_wp2
            go_ret3
            exact ⟨by rw [HX.out]; rfl, HB2.out⟩
          | true =>
            have HX := Lib.hid (HOK.out hh)
            clear hh
            go_wp2_with fail
            refine (port_any _ w2 (by omega)).mono ?_
            rintro e w3 ⟨rfl, hw⟩
            subst hw
            rw [HPX.out]
            cases hp : portO (s.data.toList.drop (j + 1)) with
            | none =>
              rw [hp] at HX
              clear hp
              unfold ptV
              go_wp2
              go_ret3
              exact ⟨by rw [HX.out]; rfl, HB2.out⟩
            | some n =>
              rw [hp] at HX
              clear hp
              unfold ptV
              go_wp2
              go_ret3
              exact ⟨by rw [HX.out]; rfl, HB2.out⟩
      · have e1 : ((s[j].toNat : Int) != 58) = true := by
          simp only [bne_iff_ne, ne_eq]
          intro q
          exact h58 (UInt8.toNat_inj.1 (by simp; omega))
        have HX := Lib.hid (HST.out (.inr h58))
        clear h58
        by_cases h91 : s[j] = 91
        · have e2 : ((s[j].toNat : Int) == 91) = true := by rw [h91]; rfl
          have q1 : insB s[j] bb = true := by rw [h91]; rfl
          rw [q1] at HX
          clear h91 q1
          cases bb with
          | true =>
            go_wp2
            go_round
            case rel => exact ⟨j + 1, true, by omega, by go_num, rfl, HX.out⟩
            case measure => simp [intOf] <;> omega
          | false =>
            go_wp2
            go_round
            case rel => exact ⟨j + 1, true, by omega, by go_num, rfl, HX.out⟩
            case measure => simp [intOf] <;> omega
        · have e2 : ((s[j].toNat : Int) == 91) = false := by
            rw [beq_eq_false_iff_ne]
            intro q
            exact h91 (UInt8.toNat_inj.1 (by simp; omega))
          cases bb with
          | false =>
            have q1 : insB s[j] false = false := by unfold insB; simp [h91]
            rw [q1] at HX
            clear h91 q1
            go_wp2
            go_round
            case rel => exact ⟨j + 1, false, by omega, by go_num, rfl, HX.out⟩
            case measure => simp [intOf] <;> omega
          | true =>
            by_cases h93 : s[j] = 93
            · have e3 : ((s[j].toNat : Int) != 93) = false := by rw [h93]; rfl
              have q1 : insB s[j] true = false := by rw [h93]; rfl
              rw [q1] at HX
              clear h91 h93 q1
              go_wp2
              go_round
              case rel => exact ⟨j + 1, false, by omega, by go_num, rfl, HX.out⟩
              case measure => simp [intOf] <;> omega
            · have e3 : ((s[j].toNat : Int) != 93) = true := by
                simp only [bne_iff_ne, ne_eq]
                intro q
                exact h93 (UInt8.toNat_inj.1 (by simp; omega))
              have q1 : insB s[j] true = true := by unfold insB; simp [h93]
              rw [q1] at HX
              clear h91 h93 q1
              go_wp2
              go_round
              case rel => exact ⟨j + 1, true, by omega, by go_num, rfl, HX.out⟩
              case measure => simp [intOf] <;> omega
    · have x1 : ¬ (j : Int) < s.size := by omega
      have hjs : j = s.size := by omega
      have HE := Lib.hid (HR.out.out_ hjs)
      have HBD := Lib.hid (fun q => wh_bad HE.out q)
      have HOK := Lib.hid (fun q => wh_end HE.out q hjs)
      have x0 : (0 : Int) ≤ j := by omega
      have x2 : (j : Int) ≤ s.size := by omega
      have x3 : ((j : Int) == s.size) = true := by rw [hjs]; exact beq_self_eq_true _
      clear hjs
      go_wp2_with fail
      refine (Lower_any _ w (by omega)).mono ?_
      rintro e w1 ⟨rfl, hb1⟩
      rw [HLO.out]
      have HB1 := Lib.hid hb1
      have hs1 := hb1.size
      clear hb1
      go_wp2_with fail
      refine (Host_any _ w1 (by show (low (s.data.toList.take j)).length ≤ _; omega)).mono ?_
      rintro e w2 ⟨rfl, hb2⟩
      rw [HHO.out]
      have HB2 := Lib.hid (HB1.out.trans (hb2.mono hs1))
      clear hb2
      cases hh : hostB (low (s.data.toList.take j)) with
      | false =>
        have HX := Lib.hid (HBD.out hh)
        clear hh
        go_wp2
        go_ret3
        exact ⟨by rw [HX.out]; rfl, HB2.out⟩
      | true =>
        have HX := Lib.hid (HOK.out hh)
        clear hh
        go_wp2
        go_ret3
        exact ⟨by rw [HX.out]; rfl, HB2.out⟩
end Go.Proofs.YtpnchfigehgkgaaGreatDoor
namespace Go.Proofs.YtpnchfigehgkgaaGreatDoor
set_option linter.unusedSimpArgs false
set_option linter.unusedVariables false
open Go.RowKit
set_option maxRecDepth 100000 in
set_option maxHeartbeats 4000000 in
theorem rWhere_any (s : ByteArray) (w : World) (hs : s.size ≤ 140737488351232) : Calls Tryz.prog 59 #[.string s] w (WherePost s w) := by
  have H0 : Hid (WhRel s 0 false) := Lib.hid ⟨by simp⟩
  go_enter Tryz.func59, Tryz.ntmps59
  go_wp2
  go_loop [5, 6] (fun i b => ∃ (j : Nat) (bb : Bool), j ≤ s.size ∧ i = .int .i64 j ∧ b = .bool bb ∧ WhRel s j bb) (fun i _ => s.size - (intOf i).toNat)
  case atStart => exact ⟨0, false, by omega, rfl, rfl, H0.out⟩
  case round =>
    obtain ⟨j, bb, hj, rfl, rfl, hR⟩ := hrel
    have HR := Lib.hid hR
    clear hR
    have HHO : Hid (hostB (str (low (s.data.toList.take j))).data.toList = hostB (low (s.data.toList.take j))) := Lib.hid rfl
    have HLO := Lib.hid (low_ext s j)
    have hex : (s.extract 0 j).size ≤ 140737488351232 := by rw [ByteArray.size_extract]; omega
    have hll : (low (s.data.toList.take j)).length ≤ 140737488351232 := by unfold low; simp; omega
    by_cases hlt : j < s.size
    · have x0 : (0 : Int) ≤ j := by omega
      have x1 : (j : Int) < s.size := by omega
      have HST := Lib.hid (fun q => HR.out.step hlt q)
      by_cases h58 : s[j] = 58
      · have e1 : ((s[j].toNat : Int) != 58) = false := by rw [h58]; rfl
        cases bb with
        | true =>
          have HX := Lib.hid (HST.out (.inl rfl))
          have q1 : insB s[j] true = true := by rw [h58]; rfl
          rw [q1] at HX
          have e2 : ((s[j].toNat : Int) == 91) = false := by rw [h58]; rfl
          have e3 : ((s[j].toNat : Int) == 93) = false := by rw [h58]; rfl
          clear h58 q1
          go_wp2
          go_round
          case rel => exact ⟨j + 1, true, by omega, by go_num, rfl, HX.out⟩
          case measure => simp [intOf] <;> omega
        | false =>
          have HE := Lib.hid (HR.out.stop hlt h58)
          have x2 : (j : Int) ≤ s.size := by omega
          have x3 : ((j : Int) == s.size) = false := by rw [beq_eq_false_iff_ne]; omega
          have x4 : IntKind.i64.wrap ((j : Int) + 1) = (j : Int) + 1 := IntWalk.i64_in _ (by omega)
          have x5 : (0 : Int) ≤ (j : Int) + 1 := by omega
          have x6 : (j : Int) + 1 ≤ s.size := by omega
          have x7 : ((j : Int) + 1).toNat = j + 1 := by omega
          have hpx : (s.extract (j + 1) s.size).size ≤ 140737488351232 := by rw [ByteArray.size_extract]; omega
          have HPX := Lib.hid (ext_to s (j + 1))
          have HBD := Lib.hid (fun q => wh_bad HE.out q)
          have HOK := Lib.hid (fun q => wh_port HE.out q hlt)
          clear h58
          go_wp2_with fail
          refine (rLower_any _ w (by omega)).mono ?_
          rintro e w1 ⟨rfl, hb1⟩
          rw [HLO.out]
          have HB1 := Lib.hid hb1
          have hs1 := hb1.size
          clear hb1
          go_wp2_with fail
          refine (rHost_any _ w1 (by show (low (s.data.toList.take j)).length ≤ _; omega)).mono ?_
          rintro e w2 ⟨rfl, hb2⟩
          rw [HHO.out]
          have HB2 := Lib.hid (HB1.out.trans (hb2.mono hs1))
          clear hb2
          cases hh : hostB (low (s.data.toList.take j)) with
          | false =>
            have HX := Lib.hid (HBD.out hh)
            clear hh
            go_wp2
            go_ret3
            exact ⟨by rw [HX.out]; rfl, HB2.out⟩
          | true =>
            have HX := Lib.hid (HOK.out hh)
            clear hh
            rw [← HPX.out] at HX
            rcases num_port (s.extract (j + 1) s.size) with ⟨n, hn0, hn1, hpo, hnv⟩ | ⟨hpo, hnv⟩
            · rw [hpo] at HX
              clear hpo
              have HNV := Lib.hid hnv
              have z1 : ((n : Int) == 0) = false := by rw [beq_eq_false_iff_ne]; omega
              clear hnv
              go_wp2_with fail
              refine (rNumber_any _ 65535 w2 (by omega) (by omega)).mono ?_
              rintro e w3 ⟨rfl, hw⟩
              subst hw
              rw [HNV.out]
              go_wp2
              go_ret3
              exact ⟨by rw [HX.out]; rfl, HB2.out⟩
            · rw [hpo] at HX
              clear hpo
              rcases hnv with hnv | hnv | hnv
              all_goals
                have HNV := Lib.hid hnv
                clear hnv
                go_wp2_with fail
                refine (rNumber_any _ 65535 w2 (by omega) (by omega)).mono ?_
                rintro e w3 ⟨rfl, hw⟩
                subst hw
                rw [HNV.out]
                go_wp2
                go_ret3
                exact ⟨by rw [HX.out]; rfl, HB2.out⟩
      · have e1 : ((s[j].toNat : Int) != 58) = true := by
          simp only [bne_iff_ne, ne_eq]
          intro q
          exact h58 (UInt8.toNat_inj.1 (by simp; omega))
        have HX := Lib.hid (HST.out (.inr h58))
        clear h58
        by_cases h91 : s[j] = 91
        · have e2 : ((s[j].toNat : Int) == 91) = true := by rw [h91]; rfl
          have e3 : ((s[j].toNat : Int) == 93) = false := by rw [h91]; rfl
          have q1 : insB s[j] bb = true := by rw [h91]; rfl
          rw [q1] at HX
          clear h91 q1
          cases bb with
          | true =>
            go_wp2
            go_round
            case rel => exact ⟨j + 1, true, by omega, by go_num, rfl, HX.out⟩
            case measure => simp [intOf] <;> omega
          | false =>
            go_wp2
            go_round
            case rel => exact ⟨j + 1, true, by omega, by go_num, rfl, HX.out⟩
            case measure => simp [intOf] <;> omega
        · have e2 : ((s[j].toNat : Int) == 91) = false := by
            rw [beq_eq_false_iff_ne]
            intro q
            exact h91 (UInt8.toNat_inj.1 (by simp; omega))
          cases bb with
          | false =>
            have q1 : insB s[j] false = false := by unfold insB; simp [h91]
            rw [q1] at HX
            clear q1
            by_cases h93 : s[j] = 93
            · have e3 : ((s[j].toNat : Int) == 93) = true := by rw [h93]; rfl
              clear h91 h93
              go_wp2
              go_round
              case rel => exact ⟨j + 1, false, by omega, by go_num, rfl, HX.out⟩
              case measure => simp [intOf] <;> omega
            · have e3 : ((s[j].toNat : Int) == 93) = false := by
                rw [beq_eq_false_iff_ne]
                intro q
                exact h93 (UInt8.toNat_inj.1 (by simp; omega))
              clear h91 h93
              go_wp2
              go_round
              case rel => exact ⟨j + 1, false, by omega, by go_num, rfl, HX.out⟩
              case measure => simp [intOf] <;> omega
          | true =>
            by_cases h93 : s[j] = 93
            · have e3 : ((s[j].toNat : Int) == 93) = true := by rw [h93]; rfl
              have q1 : insB s[j] true = false := by rw [h93]; rfl
              rw [q1] at HX
              clear h91 h93 q1
              go_wp2
              go_round
              case rel => exact ⟨j + 1, false, by omega, by go_num, rfl, HX.out⟩
              case measure => simp [intOf] <;> omega
            · have e3 : ((s[j].toNat : Int) == 93) = false := by
                rw [beq_eq_false_iff_ne]
                intro q
                exact h93 (UInt8.toNat_inj.1 (by simp; omega))
              have q1 : insB s[j] true = true := by unfold insB; simp [h93]
              rw [q1] at HX
              clear h91 h93 q1
              go_wp2
              go_round
              case rel => exact ⟨j + 1, true, by omega, by go_num, rfl, HX.out⟩
              case measure => simp [intOf] <;> omega
    · have x1 : ¬ (j : Int) < s.size := by omega
      have hjs : j = s.size := by omega
      have HE := Lib.hid (HR.out.out_ hjs)
      have HBD := Lib.hid (fun q => wh_bad HE.out q)
      have HOK := Lib.hid (fun q => wh_end HE.out q hjs)
      have x0 : (0 : Int) ≤ j := by omega
      have x2 : (j : Int) ≤ s.size := by omega
      have x3 : ((j : Int) == s.size) = true := by rw [hjs]; exact beq_self_eq_true _
      clear hjs
      go_wp2_with fail
      refine (rLower_any _ w (by omega)).mono ?_
      rintro e w1 ⟨rfl, hb1⟩
      rw [HLO.out]
      have HB1 := Lib.hid hb1
      have hs1 := hb1.size
      clear hb1
      go_wp2_with fail
      refine (rHost_any _ w1 (by show (low (s.data.toList.take j)).length ≤ _; omega)).mono ?_
      rintro e w2 ⟨rfl, hb2⟩
      rw [HHO.out]
      have HB2 := Lib.hid (HB1.out.trans (hb2.mono hs1))
      clear hb2
      cases hh : hostB (low (s.data.toList.take j)) with
      | false =>
        have HX := Lib.hid (HBD.out hh)
        clear hh
        go_wp2
        go_ret3
        exact ⟨by rw [HX.out]; rfl, HB2.out⟩
      | true =>
        have HX := Lib.hid (HOK.out hh)
        clear hh
        go_wp2
        go_ret3
        exact ⟨by rw [HX.out]; rfl, HB2.out⟩
end Go.Proofs.YtpnchfigehgkgaaGreatDoor
namespace Go.Proofs.YtpnchfigehgkgaaGreatDoor
set_option linter.unusedSimpArgs false
set_option linter.unusedVariables false
open Go.RowKit
theorem PrmB.of_own {w : World} {base : Nat} {v : Value} {ps : List Par} (h : w.ownsRow base 112 3 v ps.length (rows parC ps)) : PrmB w w.heap.size v ps := by
  obtain ⟨A, c, e, _, _, hr⟩ := RdV.of_own h
  exact ⟨A, c, e, hr.1, fun hn => by
    obtain ⟨gb, off, e, hlt, hc⟩ := hr.at_ hn
    exact ⟨gb, off, e, hlt, hc⟩⟩
def zeroU : Array Value := #[.string ⟨#[]⟩, .string ⟨#[]⟩, .string ⟨#[]⟩, .int .i64 0, .slice none 0 0, .slice none 0 0]
/-- block r is the result's, block b the URI's that is being read -/
structure PSt (w : World) (cs : Array Value) (wr : World) : Prop where
  r : Blk wr w.heap.size 62 zeroU
  u : Blk wr (w.heap.size + 1) 62 cs
  be : Below w.heap.size w wr
theorem PSt.lt {w wr : World} {cs : Array Value} (h : PSt w cs wr) : w.heap.size + 2 ≤ wr.heap.size := h.u.lt
theorem PSt.on {w wr w' : World} {cs : Array Value} (h : PSt w cs wr) (hb : Below wr.heap.size wr w') : PSt w cs w' :=
  ⟨h.r.fr (Fr.of_below (F := fun _ => False) hb) (fun h => h), h.u.fr (Fr.of_below (F := fun _ => False) hb) (fun h => h), h.be.trans (hb.mono (by have := h.lt; omega))⟩
theorem PSt.drewN {w wr : World} {cs : Array Value} (h : PSt w cs wr) (n : Nat) : PSt w cs (wr.drewN n) := ⟨h.r, h.u, below_drewN h.be n⟩
theorem PSt.set {w wr : World} {cs : Array Value} (h : PSt w cs wr) (i : Nat) (v : Value) : PSt w (cs.setIfInBounds i v) (wr.setCell ⟨w.heap.size + 1, i, none⟩ v) :=
  ⟨h.r.far (p := ⟨w.heap.size + 1, i, none⟩) (by show w.heap.size ≠ w.heap.size + 1; omega) _, h.u.set_ i v, h.be.setCell (p := ⟨w.heap.size + 1, i, none⟩) (by show w.heap.size ≤ w.heap.size + 1; omega) _⟩
theorem PSt.start (w : World) : PSt w zeroU ((w.alloc (.cells zeroU 62)).alloc (.cells zeroU 62)) :=
  ⟨(Blk.new w _ _).alloc _, Blk.new' _ _ _ (by simp), ((Below.refl _ _).alloc (Nat.le_refl _) _).alloc (by simp) _⟩
/-- six stores -/
abbrev six (wr : World) (g : Nat) (x0 x1 x2 x3 x4 x5 : Value) : World :=
  (((((wr.setCell ⟨g, 0, none⟩ x0).setCell ⟨g, 1, none⟩ x1).setCell ⟨g, 2, none⟩ x2).setCell ⟨g, 3, none⟩ x3).setCell ⟨g, 4, none⟩ x4).setCell ⟨g, 5, none⟩ x5
theorem Blk.six {wr : World} {g : Nat} {t : TypeId} {a0 a1 a2 a3 a4 a5 : Value} (h : Blk wr g t #[a0, a1, a2, a3, a4, a5]) (x0 x1 x2 x3 x4 x5 : Value) : Blk (six wr g x0 x1 x2 x3 x4 x5) g t #[x0, x1, x2, x3, x4, x5] :=
  (((((h.set_ 0 x0).set_ 1 x1).set_ 2 x2).set_ 3 x3).set_ 4 x4).set_ 5 x5
theorem below_six {B g : Nat} {w wr : World} (h : Below B w wr) (hg : B ≤ g) (x0 x1 x2 x3 x4 x5 : Value) : Below B w (six wr g x0 x1 x2 x3 x4 x5) :=
  (((((h.setCell (p := ⟨g, 0, none⟩) hg _).setCell (p := ⟨g, 1, none⟩) hg _).setCell (p := ⟨g, 2, none⟩) hg _).setCell (p := ⟨g, 3, none⟩) hg _).setCell (p := ⟨g, 4, none⟩) hg _).setCell (p := ⟨g, 5, none⟩) hg _
theorem cells_six {wr : World} {g : Nat} {t : TypeId} {a0 a1 a2 a3 a4 a5 : Value} (h : Blk wr g t #[a0, a1, a2, a3, a4, a5]) (x0 x1 x2 x3 x4 x5 : Value) :
    (six wr g x0 x1 x2 x3 x4 x5).cell? ⟨g, 0, none⟩ = some x0 ∧ (six wr g x0 x1 x2 x3 x4 x5).cell? ⟨g, 1, none⟩ = some x1 ∧ (six wr g x0 x1 x2 x3 x4 x5).cell? ⟨g, 2, none⟩ = some x2 ∧ (six wr g x0 x1 x2 x3 x4 x5).cell? ⟨g, 3, none⟩ = some x3 ∧ (six wr g x0 x1 x2 x3 x4 x5).cell? ⟨g, 4, none⟩ = some x4 ∧ (six wr g x0 x1 x2 x3 x4 x5).cell? ⟨g, 5, none⟩ = some x5 := by
  have k := h.six x0 x1 x2 x3 x4 x5
  exact ⟨k.cell 0, k.cell 1, k.cell 2, k.cell 3, k.cell 4, k.cell 5⟩
/-- a URI and a number, laid out in memory behind w -/
def ParsePost (r : Uri × Int) (w : World) (e : Ending) (w' : World) : Prop :=
  ∃ vp vh, e = .returned (.tuple #[uriV r.1 vp vh, .int .i64 r.2]) ∧ PrmB w' w'.heap.size vp r.1.params ∧ PrmB w' w'.heap.size vh r.1.headers ∧ Below w.heap.size w w'
theorem ParsePost.err {r : Uri × Int} {w w' : World} {k : Int} (h : r = (noUri, k)) (hb : Below w.heap.size w w') : ParsePost r w (.returned (.tuple #[.agg #[.string ⟨#[]⟩, .string ⟨#[]⟩, .string ⟨#[]⟩, .int .i64 0, .slice none 0 0, .slice none 0 0], .int .i64 k])) w' := by
  subst h
  exact ⟨_, _, rfl, PrmB.nil _ _, PrmB.nil _ _, hb⟩
/-- who stands ahead of the sign @, and what is left -/
def userR (rest : T) : Option (T × T) := if (cutT 64 rest).2.2 then (userO (cutT 64 rest).1).map (·, (cutT 64 rest).2.1) else some ([], rest)
theorem parse_no {s : T} (h : (cutT 58 s).2.2 = false ∨ schemeB (low (cutT 58 s).1) = false) : parseE s = (noUri, 30) := if_pos h
theorem parse_yes {s : T} (h : (cutT 58 s).2.2 = true) (h2 : schemeB (low (cutT 58 s).1) = true) : parseE s = match userR (cutT 58 s).2.1 with
    | some p => restE (low (cutT 58 s).1) p.1 p.2
    | none => (noUri, 31) := by
  unfold parseE userR
  simp only [h, h2, Bool.true_eq_false, or_false, if_false]
  cases hq : (cutT 64 (cutT 58 s).2.1).2.2 with
  | false => simp
  | true =>
    simp only [if_true]
    cases userO (cutT 64 (cutT 58 s).2.1).1 <;> rfl
theorem user_none {l : T} (h : plainT users l = none) : userO l = none := by unfold userO; rw [h]
theorem user_bad {l t : T} (h : plainT users l = some t) (h2 : t = [] ∨ 64 < t.length) : userO l = none := by unfold userO; rw [h]; exact if_pos h2
theorem user_good {l t : T} (h : plainT users l = some t) (h2 : t ≠ []) (h3 : ¬ 64 < t.length) : userO l = some t := by unfold userO; rw [h]; exact if_neg (by rintro (q | q); exact h2 q; exact h3 q)
/-- the headers behind the sign ? -/
def hdrO (q : T × T × Bool) : Option (List Par) := if q.2.2 then readP headers (splitT 38 q.2.1) else some []
theorem rest_is (scheme user rest : T) : restE scheme user rest = if (whereE ((splitT 59 (cutT 63 rest).1).headD [])).2.2 ≠ 0 then (noUri, (whereE ((splitT 59 (cutT 63 rest).1).headD [])).2.2) else
    match readP params (splitT 59 (cutT 63 rest).1).tail, hdrO (cutT 63 rest) with
    | some p, some h => finE ⟨scheme, user, (whereE ((splitT 59 (cutT 63 rest).1).headD [])).1, (whereE ((splitT 59 (cutT 63 rest).1).headD [])).2.1, p, h⟩
    | _, _ => (noUri, 34) := rfl
/-- what the walk wants to know of the result's block -/
theorem PSt.rc {w wr : World} {cs : Array Value} {g : Nat} (h : PSt w cs wr) (hg : w.heap.size = g) :
    (wr.cell? ⟨g, 0, none⟩ = some (.string ⟨#[]⟩) ∧ wr.cell? ⟨g, 1, none⟩ = some (.string ⟨#[]⟩) ∧ wr.cell? ⟨g, 2, none⟩ = some (.string ⟨#[]⟩) ∧ wr.cell? ⟨g, 3, none⟩ = some (.int .i64 0) ∧ wr.cell? ⟨g, 4, none⟩ = some (.slice none 0 0) ∧ wr.cell? ⟨g, 5, none⟩ = some (.slice none 0 0)) ∧
    (wr.frozen? ⟨g, 0, none⟩ = false ∧ wr.frozen? ⟨g, 1, none⟩ = false ∧ wr.frozen? ⟨g, 2, none⟩ = false ∧ wr.frozen? ⟨g, 3, none⟩ = false ∧ wr.frozen? ⟨g, 4, none⟩ = false ∧ wr.frozen? ⟨g, 5, none⟩ = false) := by
  subst hg
  have hr : Blk wr w.heap.size 62 #[.string ⟨#[]⟩, .string ⟨#[]⟩, .string ⟨#[]⟩, .int .i64 0, .slice none 0 0, .slice none 0 0] := h.r
  exact ⟨⟨hr.cell 0, hr.cell 1, hr.cell 2, hr.cell 3, hr.cell 4, hr.cell 5⟩, hr.frozen 0, hr.frozen 1, hr.frozen 2, hr.frozen 3, hr.frozen 4, hr.frozen 5⟩
/-- .. and at the end -/
theorem PSt.rz {w wr : World} {cs : Array Value} {g : Nat} (h : PSt w cs wr) (hg : w.heap.size = g) (x0 x1 x2 x3 x4 x5 : Value) :
    ((six wr g x0 x1 x2 x3 x4 x5).cell? ⟨g, 0, none⟩ = some x0 ∧ (six wr g x0 x1 x2 x3 x4 x5).cell? ⟨g, 1, none⟩ = some x1 ∧ (six wr g x0 x1 x2 x3 x4 x5).cell? ⟨g, 2, none⟩ = some x2 ∧ (six wr g x0 x1 x2 x3 x4 x5).cell? ⟨g, 3, none⟩ = some x3 ∧ (six wr g x0 x1 x2 x3 x4 x5).cell? ⟨g, 4, none⟩ = some x4 ∧ (six wr g x0 x1 x2 x3 x4 x5).cell? ⟨g, 5, none⟩ = some x5) ∧ Below w.heap.size w (six wr g x0 x1 x2 x3 x4 x5) := by
  subst hg
  have hr : Blk wr w.heap.size 62 #[.string ⟨#[]⟩, .string ⟨#[]⟩, .string ⟨#[]⟩, .int .i64 0, .slice none 0 0, .slice none 0 0] := h.r
  exact ⟨cells_six hr _ _ _ _ _ _, below_six h.be (Nat.le_refl _) _ _ _ _ _ _⟩
/-- a row of parameters of the call's own, in blocks from n on -/
def OwnP (n : Nat) (wr : World) (v : Value) (ps : List Par) : Prop := ∃ base, n ≤ base ∧ wr.ownsRow base 112 3 v ps.length (rows parC ps)
theorem OwnP.fr {n : Nat} {wr w' : World} {v : Value} {ps : List Par} (h : OwnP n wr v ps) (hf : Fr (fun k => k < n) wr w') : OwnP n w' v ps := by
  obtain ⟨base, hb, ho⟩ := h
  exact ⟨base, hb, own_fr ho hf (fun k hk q => by have := (ho.lt k hk).1; omega)⟩
theorem OwnP.on {n : Nat} {wr w' : World} {v : Value} {ps : List Par} (h : OwnP n wr v ps) (hf : Below wr.heap.size wr w') : OwnP n w' v ps := h.fr (Fr.of_below hf)
theorem OwnP.set {n : Nat} {wr : World} {v : Value} {ps : List Par} (h : OwnP n wr v ps) {g i : Nat} (hg : g < n) (x : Value) : OwnP n (wr.setCell ⟨g, i, none⟩ x) v ps := h.fr ((Fr.refl _ _).set (p := ⟨g, i, none⟩) (fun _ => hg) _)
theorem OwnP.six_ {n : Nat} {wr : World} {v : Value} {ps : List Par} (h : OwnP n wr v ps) {g : Nat} (hg : g < n) (x0 x1 x2 x3 x4 x5 : Value) : OwnP n (six wr g x0 x1 x2 x3 x4 x5) v ps := (((((h.set hg _).set hg _).set hg _).set hg _).set hg _).set hg _
theorem OwnP.nil (n : Nat) (wr : World) : OwnP n wr (.slice none 0 0) [] := ⟨n, Nat.le_refl _, by simp [rows], .inl ⟨rfl, rfl⟩⟩
theorem OwnP.prm {n : Nat} {wr : World} {v : Value} {ps : List Par} (h : OwnP n wr v ps) : PrmB wr wr.heap.size v ps := by
  obtain ⟨base, _, ho⟩ := h
  exact PrmB.of_own ho
theorem ParsePost.ok {r : Uri × Int} {w w' : World} {u : Uri} {vp vh : Value} {n : Nat} (h : r = (u, 0)) (hp : OwnP n w' vp u.params) (hh : OwnP n w' vh u.headers) (hb : Below w.heap.size w w') : ParsePost r w (.returned (.tuple #[.agg #[.string (str u.scheme), .string (str u.user), .string (str u.host), .int .i64 u.port, vp, vh], .int .i64 0])) w' := by
  subst h
  exact ⟨_, _, rfl, hp.prm, hh.prm, hb⟩
theorem head_of {L : List T} (h : 0 < L.length) : L.headD [] = L[0] := by
  cases L with
  | nil => simp at h
  | cons a r => rfl
theorem row_rd {w : World} {g : Nat} {L : List T} (h : Blk w g 9 (L.map SC1).toArray) : RdB w w.heap.size 1 L.length (some ⟨g, 0, none⟩) (L.map SC1) :=
  ⟨by simp, fun hn => ⟨g, 0, rfl, h.lt, fun j u hu => by
    rw [h.cell, List.getElem?_toArray, Nat.zero_add]; exact hu⟩⟩
theorem unesc_len : ∀ {l t : T}, unesc l = some t → t.length ≤ l.length
  | [], t, h => by unfold unesc at h; injection h with h; subst h; simp
  | [a], t, h => by
    unfold unesc at h
    split at h
    · simp only [unesc, Option.map_some, Option.some.injEq] at h; subst h; simp
    · cases h
  | [a, b], t, h => by
    unfold unesc at h
    split at h
    · cases hr : unesc [b] with
      | none => rw [hr] at h; cases h
      | some q =>
        rw [hr] at h
        simp only [Option.map_some, Option.some.injEq] at h
        subst h
        have := unesc_len hr
        simp only [List.length_cons] at *; omega
    · cases h
  | a :: b :: c :: r, t, h => by
    unfold unesc at h
    split at h
    · cases hr : unesc (b :: c :: r) with
      | none => rw [hr] at h; cases h
      | some q =>
        rw [hr] at h
        simp only [Option.map_some, Option.some.injEq] at h
        subst h
        have := unesc_len hr
        simp only [List.length_cons] at *; omega
    · simp only at h
      split at h
      · cases hr : unesc r with
        | none => rw [hr] at h; cases h
        | some q =>
          rw [hr] at h
          simp only [Option.map_some, Option.some.injEq] at h
          subst h
          have := unesc_len hr
          simp only [List.length_cons] at *; omega
      · cases h
theorem plain_len {keep l t : T} (h : plainT keep l = some t) : t.length ≤ l.length := by
  unfold plainT at h
  split at h
  · exact unesc_len h
  · cases h
theorem read_len {keep : T} : ∀ {l : List T} {ps : List Par}, readP keep l = some ps → ps.length = l.length ∧ ∀ p ∈ ps, ∃ s ∈ l, p.name.length ≤ s.length ∧ p.value.length ≤ s.length
  | [], ps, h => by
    unfold readP at h
    injection h with h
    subst h
    simp
  | s :: r, ps, h => by
    rw [readP_cons] at h
    cases h1 : plainT keep (cutT 61 s).1 with
    | none => rw [h1] at h; cases h
    | some n =>
      cases h2 : plainT keep (cutT 61 s).2.1 with
      | none => rw [h1, h2] at h; cases h
      | some v =>
        rw [h1, h2] at h
        simp only at h
        cases hr : readP keep r with
        | none => rw [hr] at h; cases h
        | some q =>
          rw [hr] at h
          simp only [Option.map_some, Option.some.injEq] at h
          subst h
          obtain ⟨i1, i2⟩ := read_len hr
          have c := cut_lens 61 s
          have l1 := plain_len h1
          have l2 := plain_len h2
          refine ⟨by simp [i1], fun p hp => ?_⟩
          rcases List.mem_cons.1 hp with e | e
          · subst e
            exact ⟨s, by simp, by show n.length ≤ _; omega, by show v.length ≤ _; omega⟩
          · obtain ⟨x, hx, a, b⟩ := i2 p e
            exact ⟨x, by simp [hx], a, b⟩
theorem hdr_len {q : T × T × Bool} {ph : List Par} (hb : q.2.1.length ≤ 100000000) (h : hdrO q = some ph) : ph.length ≤ 100000001 ∧ ∀ p ∈ ph, parS p := by
  unfold hdrO at h
  split at h
  · have hs := split_lens 38 q.2.1
    obtain ⟨h1, h2⟩ := read_len h
    refine ⟨by omega, fun p hp => ?_⟩
    obtain ⟨s, hs', a, b⟩ := h2 p hp
    have := hs.2 s hs'
    exact ⟨by omega, by omega⟩
  · injection h with h
    subst h
    simp
theorem where_len (l : T) : (whereE l).1.length ≤ l.length ∧ 0 ≤ (whereE l).2.1 ∧ (whereE l).2.1 ≤ 65535 := by
  have hlow : (low (l.take (endT false l))).length ≤ l.length := by unfold low; rw [List.length_map, List.length_take]; omega
  unfold whereE
  simp only
  split
  · simp
  · split
    · exact ⟨hlow, by simp, by simp⟩
    · cases hp : portO (l.drop (endT false l + 1)) with
      | none => simp
      | some n =>
        unfold portO at hp
        split at hp
        · injection hp with hp
          subst hp
          rename_i hh
          exact ⟨hlow, by simp, by have := hh.2.2.2; show ((valT _ : Nat) : Int) ≤ 65535; omega⟩
        · cases hp
/-- the tail of a row of texts -/
theorem tail_rd {w : World} {g : Nat} {L : List T} (h : Blk w g 9 (L.map SC1).toArray) (hL : 0 < L.length) (A : Option Addr) (hA : A = some ⟨g, 1, none⟩ ∨ L.length = 1) : RdB w w.heap.size 1 L.tail.length A (L.tail.map SC1) :=
  ⟨by simp, fun hn => by
    rcases hA with rfl | q
    · refine ⟨g, 1, rfl, h.lt, fun j u hu => ?_⟩
      rw [h.cell, List.getElem?_toArray, List.getElem?_map]
      rw [List.getElem?_map, List.getElem?_tail] at hu
      rw [Nat.add_comm]; exact hu
    · simp at hn; omega⟩
end Go.Proofs.YtpnchfigehgkgaaGreatDoor
namespace Go.Proofs.YtpnchfigehgkgaaGreatDoor
set_option linter.unusedSimpArgs false
set_option linter.unusedVariables false
open Go.RowKit
theorem user_some {l t : T} (h : userO l = some t) : plainT users l = some t ∧ t ≠ [] ∧ ¬ 64 < t.length := by
  unfold userO at h
  cases hp : plainT users l with
  | none => rw [hp] at h; cases h
  | some x =>
    rw [hp] at h
    simp only at h
    split at h
    · cases h
    · rename_i hn
      injection h with h
      subst h
      exact ⟨rfl, fun q => hn (.inl q), fun q => hn (.inr q)⟩
theorem user_some_len {l t : T} (h : userO l = some t) : t.length ≤ 64 := by have := (user_some h).2.2; omega
theorem cutV_is {s : ByteArray} {c : UInt8} {p q : T} {f : Bool} (h : cutT c s.data.toList = (p, q, f)) : cutV s c = .tuple #[.string (str p), .string (str q), .bool f] := by unfold cutV; rw [h]
set_option maxRecDepth 100000 in
set_option maxHeartbeats 8000000 in
theorem Parse_any (s : ByteArray) (w : World) (hs : s.size ≤ 100000000) : Calls Tryz.prog 29 #[.string s] w (ParsePost (parseE s.data.toList) w) := by
  have hl : s.data.toList.length = s.size := by simp
  have HP0 := Lib.hid (PSt.start w)
  obtain ⟨g, hg⟩ : ∃ g, w.heap.size = g := ⟨_, rfl⟩
  have HG := Lib.hid hg
  obtain ⟨w0, hw0⟩ : ∃ w0, (w.alloc (.cells #[.string ⟨#[]⟩, .string ⟨#[]⟩, .string ⟨#[]⟩, .int .i64 0, .slice none 0 0, .slice none 0 0] 62)).alloc (.cells #[.string ⟨#[]⟩, .string ⟨#[]⟩, .string ⟨#[]⟩, .int .i64 0, .slice none 0 0, .slice none 0 0] 62) = w0 := ⟨_, rfl⟩
  have HP0 : Hid (PSt w zeroU w0) := Lib.hid (by have q := HP0.out; unfold zeroU at q; rw [hw0] at q; exact q)
  have hcl := cut_lens 58 s.data.toList
  have HC1 : Hid (∀ W, Calls Tryz.prog 43 #[.string s, .string ⟨#[58]⟩] W fun e w' => e = .returned (cutV s 58) ∧ ∃ n, w' = W.drewN n) := Lib.hid (fun W => Cut_any s 58 W (by omega))
  have HNO := Lib.hid (fun q => parse_no (s := s.data.toList) q)
  have HYES := Lib.hid (fun q1 q2 => parse_yes (s := s.data.toList) q1 q2)
  have HCV : Hid (∀ p q f, cutT 58 s.data.toList = (p, q, f) → cutV s 58 = .tuple #[.string (str p), .string (str q), .bool f]) := Lib.hid (fun p q f h => cutV_is h)
  generalize cutT 58 s.data.toList = t at *
  obtain ⟨hd, rest, ok⟩ := t
  simp only at hcl HNO HYES
  have HCV := Lib.hid (HCV.out hd rest ok rfl)
  have HLOW : Hid (lowS (str hd) = str (low hd)) := Lib.hid rfl
  have hhd : hd.length ≤ 100000000 := by omega
  have hrl : rest.length ≤ 100000000 := by omega
  have HSC : Hid (schemeB (str (low hd)).data.toList = schemeB (low hd)) := Lib.hid rfl
  have f0 := HP0.out.u.frozen 0
  have hsz0 := HP0.out.lt
  rw [hg] at f0
  clear hcl hl
  go_enter Tryz.func29, Tryz.ntmps29
  go_wp2_with fail
  refine (HC1.out _).mono ?_
  rintro e w1 ⟨rfl, n1, rfl⟩
  rw [HCV.out]
  go_wp2_with fail
  refine (Lower_any (str hd) _ (by show hd.length ≤ _; omega)).mono ?_
  rintro e w2 ⟨rfl, hb2⟩
  rw [HLOW.out]
  have HP2 := Lib.hid ((HP0.out.drewN n1).on hb2)
  have q0 := HP2.out.u.cell 0
  have q0f := HP2.out.u.frozen 0
  rw [hg] at q0 q0f
  have HP3 := Lib.hid (HP2.out.set 0 (.string (str (low hd))))
  rw [hg] at HP3
  obtain ⟨w3, hw3⟩ : ∃ w3, w2.setCell ⟨g + 1, 0, none⟩ (.string (str (low hd))) = w3 := ⟨_, rfl⟩
  rw [hw3] at HP3
  have HP3 : Hid (PSt w #[.string (str (low hd)), .string ⟨#[]⟩, .string ⟨#[]⟩, .int .i64 0, .slice none 0 0, .slice none 0 0] w3) := HP3
  have d0 := HP3.out.u.cell 0
  rw [hg] at d0
  clear hb2 f0
  cases ok with
  | false =>
    have HX := Lib.hid (HNO.out (.inl rfl))
    have HZ := Lib.hid (HP3.out.rz hg (.string ⟨#[]⟩) (.string ⟨#[]⟩) (.string ⟨#[]⟩) (.int .i64 0) (.slice none 0 0) (.slice none 0 0))
    obtain ⟨⟨e0, e1, e2, e3, e4, e5⟩, f0, f1, f2, f3, f4, f5⟩ := HP3.out.rc hg
    go_wp2
    obtain ⟨⟨z0, z1, z2, z3, z4, z5⟩, hbz⟩ := HZ.out
    exact bodyPost_ret (v := .tuple #[.agg #[.string ⟨#[]⟩, .string ⟨#[]⟩, .string ⟨#[]⟩, .int .i64 0, .slice none 0 0, .slice none 0 0], .int .i64 30]) (by simp [results, Tryz.results29, go_sem, z0, z1, z2, z3, z4, z5]) rfl (ParsePost.err HX.out hbz)
  | true =>
    cases hsch : schemeB (low hd) with
    | false =>
      have HX := Lib.hid (HNO.out (.inr hsch))
      rw [hsch] at HSC
      clear hsch
      have HZ := Lib.hid (HP3.out.rz hg (.string ⟨#[]⟩) (.string ⟨#[]⟩) (.string ⟨#[]⟩) (.int .i64 0) (.slice none 0 0) (.slice none 0 0))
      obtain ⟨⟨e0, e1, e2, e3, e4, e5⟩, f0, f1, f2, f3, f4, f5⟩ := HP3.out.rc hg
      go_wp2_with fail
      refine (Scheme_any _ w3).mono ?_
      rintro e w' ⟨rfl, hw⟩
      subst hw
      rw [HSC.out]
      go_wp2
      obtain ⟨⟨z0, z1, z2, z3, z4, z5⟩, hbz⟩ := HZ.out
      exact bodyPost_ret (v := .tuple #[.agg #[.string ⟨#[]⟩, .string ⟨#[]⟩, .string ⟨#[]⟩, .int .i64 0, .slice none 0 0, .slice none 0 0], .int .i64 30]) (by simp [results, Tryz.results29, go_sem, z0, z1, z2, z3, z4, z5]) rfl (ParsePost.err HX.out hbz)
    | true =>
      rw [hsch] at HSC
      have HU := Lib.hid (HYES.out rfl hsch)
      clear hsch
      have HC2 : Hid (∀ W, Calls Tryz.prog 43 #[.string (str rest), .string ⟨#[64]⟩] W fun e w' => e = .returned (cutV (str rest) 64) ∧ ∃ n, w' = W.drewN n) := Lib.hid (fun W => Cut_any (str rest) 64 W (by show rest.length ≤ _; omega))
      have hcl := cut_lens 64 rest
      have HCV2 : Hid (∀ p q f, cutT 64 rest = (p, q, f) → cutV (str rest) 64 = .tuple #[.string (str p), .string (str q), .bool f]) := Lib.hid (fun p q f h => cutV_is (s := str rest) h)
      unfold userR at HU
      generalize cutT 64 rest = t2 at *
      obtain ⟨ua, ub, is⟩ := t2
      simp only at hcl HU
      have HCV2 := Lib.hid (HCV2.out ua ub is rfl)
      have hua : ua.length ≤ 100000000 := by omega
      have hub : ub.length ≤ 100000000 := by omega
      have HPL : Hid (∀ W, Calls Tryz.prog 46 #[.string (str ua), .string ⟨#[38, 61, 43, 36, 44, 59, 63, 47]⟩] W fun e w' => e = .returned (plV (plainT users ua)) ∧ Below W.heap.size W w') := Lib.hid (fun W => plain_any (str ua) ⟨#[38, 61, 43, 36, 44, 59, 63, 47]⟩ W (by show ua.length ≤ _; omega) (by show 8 ≤ _; omega))
      clear hcl
      have hcases : (is = true ∧ userO ua = none) ∨ ∃ usr R, R.length ≤ 100000000 ∧ usr.length ≤ 64 ∧ (if is = true then (userO ua).map (·, ub) else some ([], rest)) = some (usr, R) ∧ ((is = true ∧ userO ua = some usr ∧ R = ub) ∨ (is = false ∧ usr = [] ∧ R = rest)) := by
        cases is with
        | false => exact .inr ⟨[], rest, hrl, by simp, by simp, .inr ⟨rfl, rfl, rfl⟩⟩
        | true =>
          cases hu : userO ua with
          | none => exact .inl ⟨rfl, rfl⟩
          | some usr => exact .inr ⟨usr, ub, hub, user_some_len hu, by simp, .inl ⟨rfl, rfl, rfl⟩⟩
      rcases hcases with ⟨rfl, hu⟩ | ⟨usr, R, hRl, hul, hR, hway⟩
      · have HX : Hid (parseE s.data.toList = (noUri, 31)) := Lib.hid (by rw [HU.out, hu]; rfl)
        clear HU
        go_wp2_with fail
        refine (Scheme_any _ w3).mono ?_
        rintro e w' ⟨rfl, hw⟩
        subst hw
        rw [HSC.out]
        go_wp2_with fail
        refine (HC2.out _).mono ?_
        rintro e w4 ⟨rfl, n2, rfl⟩
        rw [HCV2.out]
        go_wp2_with fail
        refine (HPL.out _).mono ?_
        rintro e w5 ⟨rfl, hb5⟩
        have HP5 := Lib.hid ((HP3.out.drewN n2).on hb5)
        clear hb5
        have q1 := HP5.out.u.cell 1
        have q1f := HP5.out.u.frozen 1
        rw [hg] at q1 q1f
        cases hpl : plainT users ua with
        | none =>
          have HP6 := Lib.hid (HP5.out.set 1 (.string ⟨#[]⟩))
          rw [hg] at HP6
          obtain ⟨w6, hw6⟩ : ∃ w6, w5.setCell ⟨g + 1, 1, none⟩ (.string ⟨#[]⟩) = w6 := ⟨_, rfl⟩
          rw [hw6] at HP6
          unfold plV
          have d1 := HP6.out.u.cell 1
          rw [hg] at d1
          have HZ := Lib.hid (HP6.out.rz hg (.string ⟨#[]⟩) (.string ⟨#[]⟩) (.string ⟨#[]⟩) (.int .i64 0) (.slice none 0 0) (.slice none 0 0))
          obtain ⟨⟨e0, e1, e2, e3, e4, e5⟩, f0, f1, f2, f3, f4, f5⟩ := HP6.out.rc hg
          go_wp2
          obtain ⟨⟨z0, z1, z2, z3, z4, z5⟩, hbz⟩ := HZ.out
          exact bodyPost_ret (v := .tuple #[.agg #[.string ⟨#[]⟩, .string ⟨#[]⟩, .string ⟨#[]⟩, .int .i64 0, .slice none 0 0, .slice none 0 0], .int .i64 31]) (by simp [results, Tryz.results29, go_sem, z0, z1, z2, z3, z4, z5]) rfl (ParsePost.err HX.out hbz)
        | some t =>
          have HP6 := Lib.hid (HP5.out.set 1 (.string (str t)))
          rw [hg] at HP6
          obtain ⟨w6, hw6⟩ : ∃ w6, w5.setCell ⟨g + 1, 1, none⟩ (.string (str t)) = w6 := ⟨_, rfl⟩
          rw [hw6] at HP6
          unfold plV
          have d1 := HP6.out.u.cell 1
          rw [hg] at d1
          by_cases ht : t = []
          · subst ht
            have qe : (str []).toList.isEmpty = true := by rw [Lib.toList_data]; rfl
            have HZ := Lib.hid (HP6.out.rz hg (.string ⟨#[]⟩) (.string ⟨#[]⟩) (.string ⟨#[]⟩) (.int .i64 0) (.slice none 0 0) (.slice none 0 0))
            obtain ⟨⟨e0, e1, e2, e3, e4, e5⟩, f0, f1, f2, f3, f4, f5⟩ := HP6.out.rc hg
            go_wp2
            obtain ⟨⟨z0, z1, z2, z3, z4, z5⟩, hbz⟩ := HZ.out
            exact bodyPost_ret (v := .tuple #[.agg #[.string ⟨#[]⟩, .string ⟨#[]⟩, .string ⟨#[]⟩, .int .i64 0, .slice none 0 0, .slice none 0 0], .int .i64 31]) (by simp [results, Tryz.results29, go_sem, z0, z1, z2, z3, z4, z5]) rfl (ParsePost.err HX.out hbz)
          · by_cases ht2 : 64 < t.length
            · have qe : (str t).toList.isEmpty = false := emp_no (fun q => ht (str_inj q))
              have q64 : (64 : Int) < (str t).size := by show (64 : Int) < (t.length : Nat); omega
              have HZ := Lib.hid (HP6.out.rz hg (.string ⟨#[]⟩) (.string ⟨#[]⟩) (.string ⟨#[]⟩) (.int .i64 0) (.slice none 0 0) (.slice none 0 0))
              obtain ⟨⟨e0, e1, e2, e3, e4, e5⟩, f0, f1, f2, f3, f4, f5⟩ := HP6.out.rc hg
              go_wp2
              obtain ⟨⟨z0, z1, z2, z3, z4, z5⟩, hbz⟩ := HZ.out
              exact bodyPost_ret (v := .tuple #[.agg #[.string ⟨#[]⟩, .string ⟨#[]⟩, .string ⟨#[]⟩, .int .i64 0, .slice none 0 0, .slice none 0 0], .int .i64 31]) (by simp [results, Tryz.results29, go_sem, z0, z1, z2, z3, z4, z5]) rfl (ParsePost.err HX.out hbz)
            · exfalso
              rw [user_good hpl ht ht2] at hu
              cases hu
      · have HX : Hid (parseE s.data.toList = restE (low hd) usr R) := Lib.hid (by rw [HU.out, hR])
        clear HU hR
        go_wp2_with fail
        refine (Scheme_any _ w3).mono ?_
        rintro e w' ⟨rfl, hw⟩
        subst hw
        rw [HSC.out]
        go_wp2_with fail
        refine (HC2.out _).mono ?_
        rintro e w4 ⟨rfl, n2, rfl⟩
        rw [HCV2.out]
        have HP4 := Lib.hid (HP3.out.drewN n2)
        go_upto_if 42 with (fail)
        go_cut [6] (fun r wx => r = .string (str R) ∧ PSt w #[.string (str (low hd)), .string (str usr), .string ⟨#[]⟩, .int .i64 0, .slice none 0 0, .slice none 0 0] wx)
        case first =>
          rcases hway with ⟨rfl, hu, rfl⟩ | ⟨rfl, rfl, rfl⟩
          · go_wp2_with fail
            refine (HPL.out _).mono ?_
            rintro e w5 ⟨rfl, hb5⟩
            have HP5 := Lib.hid (HP4.out.on hb5)
            clear hb5
            have q1 := HP5.out.u.cell 1
            have q1f := HP5.out.u.frozen 1
            rw [hg] at q1 q1f
            obtain ⟨hpl, ht, ht2⟩ := user_some hu
            rw [hpl]
            have HP6 := Lib.hid (HP5.out.set 1 (.string (str usr)))
            rw [hg] at HP6
            obtain ⟨w6, hw6⟩ : ∃ w6, w5.setCell ⟨g + 1, 1, none⟩ (.string (str usr)) = w6 := ⟨_, rfl⟩
            rw [hw6] at HP6
            unfold plV
            have d1 := HP6.out.u.cell 1
            rw [hg] at d1
            have qe : (str usr).toList.isEmpty = false := emp_no (fun q => ht (str_inj q))
            have q64 : ¬ (64 : Int) < (str usr).size := by show ¬ (64 : Int) < (usr.length : Nat); omega
            go_wp2
            go_meet
            exact ⟨rfl, HP6.out⟩
          · go_wp2_with fail
            go_meet
            exact ⟨rfl, HP4.out⟩
        case rest =>
          obtain ⟨rfl, hP⟩ := hcut
          obtain ⟨w7, hw7⟩ : ∃ w7, w7 = wc := ⟨_, rfl⟩
          subst hw7
          have HP7 := Lib.hid hP
          clear hP hway d0 q0 q0f HPL HCV2 HC2 HP4 hrl hub hua
          have HC3 : Hid (∀ W, Calls Tryz.prog 43 #[.string (str R), .string ⟨#[63]⟩] W fun e w' => e = .returned (cutV (str R) 63) ∧ ∃ n, w' = W.drewN n) := Lib.hid (fun W => Cut_any (str R) 63 W (by show R.length ≤ _; omega))
          have hcl := cut_lens 63 R
          have HCV3 : Hid (∀ p q f, cutT 63 R = (p, q, f) → cutV (str R) 63 = .tuple #[.string (str p), .string (str q), .bool f]) := Lib.hid (fun p q f h => cutV_is (s := str R) h)
          rw [rest_is] at HX
          generalize cutT 63 R = t3 at *
          obtain ⟨fr, bk, ask⟩ := t3
          simp only at hcl HX
          have HCV3 := Lib.hid (HCV3.out fr bk ask rfl)
          have hfr : fr.length ≤ 100000000 := by omega
          have hbk : bk.length ≤ 100000000 := by omega
          have HSP : Hid (∀ W, Calls Tryz.prog 47 #[.string (str fr), .string ⟨#[59]⟩] W fun e w' => ∃ gg, e = .returned (.slice (some ⟨gg, 0, none⟩) (splitT 59 fr).length (splitT 59 fr).length) ∧ W.heap.size ≤ gg ∧ Blk w' gg 9 ((splitT 59 fr).map SC1).toArray ∧ Below W.heap.size W w') := Lib.hid (fun W => Split_any (str fr) 59 W (by show fr.length ≤ _; omega))
          have hL0 : 0 < (splitT 59 fr).length := List.length_pos_iff.2 (split_ne 59 _)
          have hsl := split_lens 59 fr
          generalize splitT 59 fr = L at *
          rw [head_of hL0] at HX
          have h0l : L[0].length ≤ 100000000 := by have := hsl.2 _ (List.getElem_mem hL0); omega
          have hLl : L.length ≤ 100000001 := by omega
          have HLT : Hid (∀ s ∈ L.tail, s.length ≤ 1000000000) := Lib.hid (fun s h => by have := hsl.2 s (List.mem_of_mem_tail h); omega)
          have HWH : Hid (∀ W, Calls Tryz.prog 48 #[.string (str L[0])] W fun e w' => e = .returned (whV (whereE L[0])) ∧ Below W.heap.size W w') := Lib.hid (fun W => where_any (str L[0]) W (by show L[0].length ≤ _; omega))
          have hwl := where_len L[0]
          generalize whereE L[0] = W0 at *
          obtain ⟨hst, prt, er⟩ := W0
          simp only at HX hwl
          have HRL := Lib.hid (fun ps (h : readP params L.tail = some ps) => read_len h)
          clear hcl hsl hfr hRl
          go_wp2_with fail
          refine (HC3.out _).mono ?_
          rintro e w8 ⟨rfl, n3, rfl⟩
          rw [HCV3.out]
          go_wp2_with fail
          refine (HSP.out _).mono ?_
          rintro e w9 ⟨gg, rfl, hgg, hblk, hb9⟩
          have HP9 := Lib.hid ((HP7.out.drewN n3).on hb9)
          have HBK9 := Lib.hid hblk
          have hgg2 : g + 2 ≤ gg := by have := HP7.out.lt; rw [hg] at this; exact Nat.le_trans this hgg
          have hc0 : w9.cell? ⟨gg, 0, none⟩ = some (.string (str L[0])) := by
            rw [hblk.cell, List.getElem?_toArray, List.getElem?_map, List.getElem?_eq_getElem hL0]
            rfl
          have y0 : (0 : Int) < L.length := by omega
          have y1 : (1 : Int) ≤ L.length := by omega
          clear hb9 hgg hblk
          go_wp2_with fail
          refine (HWH.out _).mono ?_
          rintro e w10 ⟨rfl, hb10⟩
          have HP10 := Lib.hid (HP9.out.on hb10)
          have HBK10 := Lib.hid (HBK9.out.fr (Fr.of_below (F := fun _ => False) hb10) (fun h => h))
          unfold whV
          have q2 := HP10.out.u.cell 2
          have q2f := HP10.out.u.frozen 2
          rw [hg] at q2 q2f
          clear hb10 hc0
          have HP11 := Lib.hid (HP10.out.set 2 (.string (str hst)))
          rw [hg] at HP11
          obtain ⟨w11, hw11⟩ : ∃ w11, w10.setCell ⟨g + 1, 2, none⟩ (.string (str hst)) = w11 := ⟨_, rfl⟩
          rw [hw11] at HP11
          have q3 := HP11.out.u.cell 3
          have q3f := HP11.out.u.frozen 3
          rw [hg] at q3 q3f
          have HP12 := Lib.hid (HP11.out.set 3 (.int .i64 prt))
          rw [hg] at HP12
          obtain ⟨w12, hw12⟩ : ∃ w12, w11.setCell ⟨g + 1, 3, none⟩ (.int .i64 prt) = w12 := ⟨_, rfl⟩
          rw [hw12] at HP12
          have HBK12 : Hid (Blk w12 gg 9 (L.map SC1).toArray) := Lib.hid (by
            rw [← hw12, ← hw11]
            exact (HBK10.out.far (p := ⟨g + 1, 2, none⟩) (by show gg ≠ g + 1; omega) _).far (p := ⟨g + 1, 3, none⟩) (by show gg ≠ g + 1; omega) _)
          have HP12 : Hid (PSt w #[.string (str (low hd)), .string (str usr), .string (str hst), .int .i64 prt, .slice none 0 0, .slice none 0 0] w12) := HP12
          by_cases her : er = 0
          · subst her
            simp only [ne_eq, not_true_eq_false, if_false] at HX
            go_upto_region 19 with (fail)
            clear q2 q2f q3 q3f
            go_cut [13, 15] (fun sl b wx => ∃ vp, b = .bool (readP params L.tail).isSome ∧ PSt w #[.string (str (low hd)), .string (str usr), .string (str hst), .int .i64 prt, vp, .slice none 0 0] wx ∧ ∀ ps, readP params L.tail = some ps → OwnP (g + 2) wx vp ps)
            case first =>
              have HRD : Hid (∀ A, (A = some ⟨gg, 1, none⟩ ∨ L.length = 1) → Calls Tryz.prog 49 #[.slice A (L.length - 1) (L.length - 1), .string ⟨#[91, 93, 47, 58, 38, 43, 36]⟩] w12 (ReadPost params L.tail w12)) := Lib.hid (fun A hA => by
                have q := read_any (l := L.tail) (keep := ⟨#[91, 93, 47, 58, 38, 43, 36]⟩) (c := L.length - 1) (Nat.le_refl _) (tail_rd HBK12.out hL0 A hA) (by simp; omega) HLT.out (by show 7 ≤ _; omega)
                rw [List.length_tail] at q
                exact q)
              have q4 := HP12.out.u.cell 4
              rw [hg] at q4
              have hlt12 := HP12.out.lt
              rw [hg] at hlt12
              have hfin : Hid (∀ w13 vv, Below w12.heap.size w12 w13 → PSt w #[.string (str (low hd)), .string (str usr), .string (str hst), .int .i64 prt, vv, .slice none 0 0] (w13.setCell ⟨g + 1, 4, none⟩ vv)) := Lib.hid (fun w13 vv hb => by have q := (HP12.out.on hb).set 4 vv; rw [hg] at q; exact q)
              have hq4 : Hid (∀ w13, Below w12.heap.size w12 w13 → w13.cell? ⟨g + 1, 4, none⟩ = some (.slice none 0 0) ∧ w13.frozen? ⟨g + 1, 4, none⟩ = false) := Lib.hid (fun w13 hb => by have q := (HP12.out.on hb).u; rw [hg] at q; exact ⟨q.cell 4, q.frozen 4⟩)
              have hL1 : L.length = 1 ∨ L.length ≠ 1 := by omega
              rcases hL1 with hL1 | hL1
              · have HRD2 : Hid (Calls Tryz.prog 49 #[.slice (some ⟨gg, 0, none⟩) 0 0, .string ⟨#[91, 93, 47, 58, 38, 43, 36]⟩] w12 (ReadPost params L.tail w12)) := Lib.hid (by have q := HRD.out (some ⟨gg, 0, none⟩) (.inr hL1); rw [hL1] at q; exact q)
                go_wp2_with fail
                refine HRD2.out.mono ?_
                rintro e w13 ⟨v, rfl, hown, hb13⟩
                have HOWN := Lib.hid hown
                have HB13 := Lib.hid hb13
                obtain ⟨q4, q4f⟩ := hq4.out w13 hb13
                clear hown hb13
                cases hrd : readP params L.tail with
                | none =>
                  unfold readV
                  go_wp2
                  go_meet
                  exact ⟨.slice none 0 0, by rw [hrd]; rfl, hfin.out w13 _ HB13.out, fun ps q => by rw [hrd] at q; cases q⟩
                | some ps =>
                  obtain ⟨A13, c13, rfl, _, _, _⟩ := RdV.of_own (HOWN.out ps hrd)
                  have HRDD := Lib.hid hrd
                  have hv : OwnP (g + 2) w13 (.slice A13 ps.length c13) ps := ⟨_, hlt12, HOWN.out ps hrd⟩
                  have HV := Lib.hid (hv.set (g := g + 1) (i := 4) (by omega) (.slice A13 ps.length c13))
                  clear hv hrd
                  unfold readV
                  go_wp2
                  go_meet
                  exact ⟨_, by rw [HRDD.out]; rfl, hfin.out w13 _ HB13.out, fun ps' q => by rw [HRDD.out] at q; injection q with q; subst q; exact HV.out⟩
              · have HRD2 := Lib.hid (HRD.out (some ⟨gg, 1, none⟩) (.inl rfl))
                go_wp2_with fail
                refine HRD2.out.mono ?_
                rintro e w13 ⟨v, rfl, hown, hb13⟩
                have HOWN := Lib.hid hown
                have HB13 := Lib.hid hb13
                obtain ⟨q4, q4f⟩ := hq4.out w13 hb13
                clear hown hb13
                cases hrd : readP params L.tail with
                | none =>
                  unfold readV
                  go_wp2
                  go_meet
                  exact ⟨.slice none 0 0, by rw [hrd]; rfl, hfin.out w13 _ HB13.out, fun ps q => by rw [hrd] at q; cases q⟩
                | some ps =>
                  obtain ⟨A13, c13, rfl, _, _, _⟩ := RdV.of_own (HOWN.out ps hrd)
                  have HRDD := Lib.hid hrd
                  have hv : OwnP (g + 2) w13 (.slice A13 ps.length c13) ps := ⟨_, hlt12, HOWN.out ps hrd⟩
                  have HV := Lib.hid (hv.set (g := g + 1) (i := 4) (by omega) (.slice A13 ps.length c13))
                  clear hv hrd
                  unfold readV
                  go_wp2
                  go_meet
                  exact ⟨_, by rw [HRDD.out]; rfl, hfin.out w13 _ HB13.out, fun ps' q => by rw [HRDD.out] at q; injection q with q; subst q; exact HV.out⟩
            case rest =>
              obtain ⟨vp, rfl, hP, hO⟩ := hcut
              obtain ⟨w14, hw14⟩ : ∃ w14, w14 = wc := ⟨_, rfl⟩
              subst hw14
              have HP14 := Lib.hid hP
              have HO14 := Lib.hid hO
              clear hP hO
              have HSP2 : Hid (∀ W, Calls Tryz.prog 47 #[.string (str bk), .string ⟨#[38]⟩] W fun e w' => ∃ gg, e = .returned (.slice (some ⟨gg, 0, none⟩) (splitT 38 bk).length (splitT 38 bk).length) ∧ W.heap.size ≤ gg ∧ Blk w' gg 9 ((splitT 38 bk).map SC1).toArray ∧ Below W.heap.size W w') := Lib.hid (fun W => Split_any (str bk) 38 W (by show bk.length ≤ _; omega))
              have hsl2 := split_lens 38 bk
              have HHO : Hid (hdrO (fr, bk, ask) = if ask then readP headers (splitT 38 bk) else some []) := Lib.hid rfl
              have HHL : Hid (∀ ph, hdrO (fr, bk, ask) = some ph → ph.length ≤ 100000001 ∧ ∀ p ∈ ph, parS p) := Lib.hid (fun ph h => hdr_len (by omega) h)
              generalize hdrO (fr, bk, ask) = HO at *
              generalize splitT 38 bk = M at *
              have hMl : M.length ≤ 100000001 := by omega
              have HMT : Hid (∀ s ∈ M, s.length ≤ 1000000000) := Lib.hid (fun s h => by have := hsl2.2 s h; omega)
              clear hsl2
              go_upto_if 93 with (fail)
              go_cut [16] (fun b wx => ∃ vh, b = .bool HO.isSome ∧ PSt w #[.string (str (low hd)), .string (str usr), .string (str hst), .int .i64 prt, vp, vh] wx ∧ (∀ ps, readP params L.tail = some ps → OwnP (g + 2) wx vp ps) ∧ (∀ ps, HO = some ps → OwnP (g + 2) wx vh ps))
              case first =>
                cases ask with
                | false =>
                  have HHO : Hid (HO = some []) := Lib.hid HHO.out
                  go_wp2
                  go_meet
                  exact ⟨.slice none 0 0, by rw [HHO.out]; rfl, HP14.out, HO14.out, fun ps q => by rw [HHO.out] at q; injection q with q; subst q; exact OwnP.nil _ _⟩
                | true =>
                  have HHO : Hid (HO = readP headers M) := Lib.hid HHO.out
                  go_wp2_with fail
                  refine (HSP2.out _).mono ?_
                  rintro e w15 ⟨g2, rfl, hg2, hblk, hb15⟩
                  have HB15 := Lib.hid hb15
                  have HRD : Hid (Calls Tryz.prog 49 #[.slice (some ⟨g2, 0, none⟩) M.length M.length, .string ⟨#[91, 93, 47, 63, 58, 43, 36]⟩] w15 (ReadPost headers M w15)) := Lib.hid (read_any (l := M) (keep := ⟨#[91, 93, 47, 63, 58, 43, 36]⟩) (c := M.length) (Nat.le_refl _) (row_rd hblk) (by omega) HMT.out (by show 7 ≤ _; omega))
                  clear hblk hb15 hg2
                  go_wp2_with fail
                  refine HRD.out.mono ?_
                  rintro e w16 ⟨v, rfl, hown, hb16⟩
                  have HOWN := Lib.hid hown
                  have HB16 := Lib.hid (HB15.out.trans (hb16.mono HB15.out.size))
                  have hlt15 : g + 2 ≤ w15.heap.size := by have a := HB15.out.size; have b := HP14.out.lt; rw [hg] at b; omega
                  have HP16 := Lib.hid (HP14.out.on HB16.out)
                  have q5 := HP16.out.u.cell 5
                  have q5f := HP16.out.u.frozen 5
                  rw [hg] at q5 q5f
                  have HS16 : Hid (∀ vv, PSt w #[.string (str (low hd)), .string (str usr), .string (str hst), .int .i64 prt, vp, vv] (w16.setCell ⟨g + 1, 5, none⟩ vv)) := Lib.hid (fun vv => by have q := HP16.out.set 5 vv; rw [hg] at q; exact q)
                  have HO16 : Hid (∀ vv ps, readP params L.tail = some ps → OwnP (g + 2) (w16.setCell ⟨g + 1, 5, none⟩ vv) vp ps) := Lib.hid (fun vv ps q => ((HO14.out ps q).on HB16.out).set (by omega) _)
                  clear hown hb16
                  cases hrd : readP headers M with
                  | none =>
                    have HRDD := Lib.hid (HHO.out.trans hrd)
                    clear hrd
                    unfold readV
                    go_wp2
                    go_meet
                    exact ⟨.slice none 0 0, by rw [HRDD.out]; rfl, HS16.out _, HO16.out _, fun ps q => by rw [HRDD.out] at q; cases q⟩
                  | some ps =>
                    obtain ⟨A16, c16, rfl, _, _, _⟩ := RdV.of_own (HOWN.out ps hrd)
                    have HRDD := Lib.hid (HHO.out.trans hrd)
                    have hv : OwnP (g + 2) w16 (.slice A16 ps.length c16) ps := ⟨_, hlt15, HOWN.out ps hrd⟩
                    have HV := Lib.hid (hv.set (g := g + 1) (i := 5) (by omega) (.slice A16 ps.length c16))
                    clear hv hrd
                    unfold readV
                    go_wp2
                    go_meet
                    exact ⟨_, by rw [HRDD.out]; rfl, HS16.out _, HO16.out _, fun ps' q => by rw [HRDD.out] at q; injection q with q; subst q; exact HV.out⟩
              case rest =>
                obtain ⟨vh, rfl, hP, hO, hO2⟩ := hcut
                obtain ⟨w17, hw17⟩ : ∃ w17, w17 = wc := ⟨_, rfl⟩
                subst hw17
                have HP17 := Lib.hid hP
                have HO17 := Lib.hid hO
                have HH17 := Lib.hid hO2
                clear hP hO hO2
                generalize readP params L.tail = RP at *
                cases RP with
                | none =>
                  have HX : Hid (parseE s.data.toList = (noUri, 34)) := Lib.hid (by rw [HX.out])
                  have HZ := Lib.hid (HP17.out.rz hg (.string ⟨#[]⟩) (.string ⟨#[]⟩) (.string ⟨#[]⟩) (.int .i64 0) (.slice none 0 0) (.slice none 0 0))
                  obtain ⟨⟨e0, e1, e2, e3, e4, e5⟩, f0, f1, f2, f3, f4, f5⟩ := HP17.out.rc hg
                  go_wp2
                  obtain ⟨⟨z0, z1, z2, z3, z4, z5⟩, hbz⟩ := HZ.out
                  exact bodyPost_ret (v := .tuple #[.agg #[.string ⟨#[]⟩, .string ⟨#[]⟩, .string ⟨#[]⟩, .int .i64 0, .slice none 0 0, .slice none 0 0], .int .i64 34]) (by simp [results, Tryz.results29, go_sem, z0, z1, z2, z3, z4, z5]) rfl (ParsePost.err HX.out hbz)
                | some ps =>
                  cases HO with
                  | none =>
                    have HX : Hid (parseE s.data.toList = (noUri, 34)) := Lib.hid (by rw [HX.out])
                    have HZ := Lib.hid (HP17.out.rz hg (.string ⟨#[]⟩) (.string ⟨#[]⟩) (.string ⟨#[]⟩) (.int .i64 0) (.slice none 0 0) (.slice none 0 0))
                    obtain ⟨⟨e0, e1, e2, e3, e4, e5⟩, f0, f1, f2, f3, f4, f5⟩ := HP17.out.rc hg
                    go_wp2
                    obtain ⟨⟨z0, z1, z2, z3, z4, z5⟩, hbz⟩ := HZ.out
                    exact bodyPost_ret (v := .tuple #[.agg #[.string ⟨#[]⟩, .string ⟨#[]⟩, .string ⟨#[]⟩, .int .i64 0, .slice none 0 0, .slice none 0 0], .int .i64 34]) (by simp [results, Tryz.results29, go_sem, z0, z1, z2, z3, z4, z5]) rfl (ParsePost.err HX.out hbz)
                  | some ph =>
                    have HX : Hid (parseE s.data.toList = finE ⟨low hd, usr, hst, prt, ps, ph⟩) := Lib.hid (by rw [HX.out])
                    have hOp := HO17.out ps rfl
                    have hOh := HH17.out ph rfl
                    have HOp := Lib.hid hOp
                    have HOh := Lib.hid hOh
                    obtain ⟨Ap, cp, rfl, hrp⟩ := hOp.prm
                    obtain ⟨Ah, ch, rfl, hrh⟩ := hOh.prm
                    have hpl := HRL.out ps rfl
                    have hhl := HHL.out ph rfl
                    have hUS : UriS ⟨low hd, usr, hst, prt, ps, ph⟩ := ⟨by show (low hd).length ≤ _; unfold low; rw [List.length_map]; omega, by show usr.length ≤ _; omega, by show hst.length ≤ _; omega, by show _ ≤ prt ∧ prt ≤ _; omega, by show ps.length ≤ _; have := hpl.1; rw [List.length_tail] at this; omega, by show ph.length ≤ _; omega, fun p hp => by
                      obtain ⟨s, hs, h1, h2⟩ := hpl.2 p hp
                      have := HLT.out s hs
                      exact ⟨by omega, by omega⟩, hhl.2⟩
                    have HCK : Hid (Calls Tryz.prog 50 #[.agg #[.string (str (low hd)), .string (str usr), .string (str hst), .int .i64 prt, .slice Ap ps.length cp, .slice Ah ph.length ch]] w17 (CheckPost ⟨low hd, usr, hst, prt, ps, ph⟩ w17)) := Lib.hid (Check_any (u := ⟨low hd, usr, hst, prt, ps, ph⟩) (Nat.le_refl _) hOp.prm hOh.prm hUS)
                    have hu17 := HP17.out.u
                    rw [hg] at hu17
                    have d0 := hu17.cell 0
                    have d1 := hu17.cell 1
                    have d2 := hu17.cell 2
                    have d3 := hu17.cell 3
                    have d4 := hu17.cell 4
                    have d5 := hu17.cell 5
                    clear hOp hOh hrp hrh hUS hu17 hpl hhl
                    go_wp2_with fail
                    refine HCK.out.mono ?_
                    rintro e w18 ⟨rfl, hb18⟩
                    have HP18 := Lib.hid (HP17.out.on hb18)
                    have HO18 := Lib.hid (HOp.out.on hb18)
                    have HH18 := Lib.hid (HOh.out.on hb18)
                    have hu18 := HP18.out.u
                    rw [hg] at hu18
                    clear d0 d1 d2 d3 d4 d5 hb18
                    by_cases hck : checkE ⟨low hd, usr, hst, prt, ps, ph⟩ = 0
                    · have HX := Lib.hid (HX.out.trans (if_pos hck))
                      rw [hck]
                      have d0 := hu18.cell 0
                      have d1 := hu18.cell 1
                      have d2 := hu18.cell 2
                      have d3 := hu18.cell 3
                      have d4 := hu18.cell 4
                      have d5 := hu18.cell 5
                      have HZ := Lib.hid (HP18.out.rz hg (.string (str (low hd))) (.string (str usr)) (.string (str hst)) (.int .i64 prt) (.slice Ap ps.length cp) (.slice Ah ph.length ch))
                      have HOF := Lib.hid (HO18.out.six_ (g := g) (by omega) (.string (str (low hd))) (.string (str usr)) (.string (str hst)) (.int .i64 prt) (.slice Ap ps.length cp) (.slice Ah ph.length ch))
                      have HHF := Lib.hid (HH18.out.six_ (g := g) (by omega) (.string (str (low hd))) (.string (str usr)) (.string (str hst)) (.int .i64 prt) (.slice Ap ps.length cp) (.slice Ah ph.length ch))
                      obtain ⟨⟨e0, e1, e2, e3, e4, e5⟩, f0, f1, f2, f3, f4, f5⟩ := HP18.out.rc hg
                      clear hu18 hck
                      go_wp2
                      obtain ⟨⟨z0, z1, z2, z3, z4, z5⟩, hbz⟩ := HZ.out
                      exact bodyPost_ret (v := .tuple #[.agg #[.string (str (low hd)), .string (str usr), .string (str hst), .int .i64 prt, .slice Ap ps.length cp, .slice Ah ph.length ch], .int .i64 0]) (by simp [results, Tryz.results29, go_sem, z0, z1, z2, z3, z4, z5]) rfl (ParsePost.ok HX.out HOF.out HHF.out hbz)
                    · have HX := Lib.hid (HX.out.trans (if_neg hck))
                      generalize checkE ⟨low hd, usr, hst, prt, ps, ph⟩ = ck at *
                      have qck : (ck != 0) = true := by simpa using hck
                      clear hck hu18
                      have HZ := Lib.hid (HP18.out.rz hg (.string ⟨#[]⟩) (.string ⟨#[]⟩) (.string ⟨#[]⟩) (.int .i64 0) (.slice none 0 0) (.slice none 0 0))
                      obtain ⟨⟨e0, e1, e2, e3, e4, e5⟩, f0, f1, f2, f3, f4, f5⟩ := HP18.out.rc hg
                      go_wp2
                      obtain ⟨⟨z0, z1, z2, z3, z4, z5⟩, hbz⟩ := HZ.out
                      exact bodyPost_ret (v := .tuple #[.agg #[.string ⟨#[]⟩, .string ⟨#[]⟩, .string ⟨#[]⟩, .int .i64 0, .slice none 0 0, .slice none 0 0], .int .i64 ck]) (by simp [results, Tryz.results29, go_sem, z0, z1, z2, z3, z4, z5]) rfl (ParsePost.err HX.out hbz)
          · have HX := Lib.hid (HX.out.trans (if_pos her))
            have qer : (er != 0) = true := by simpa using her
            clear her
            have HZ := Lib.hid (HP12.out.rz hg (.string ⟨#[]⟩) (.string ⟨#[]⟩) (.string ⟨#[]⟩) (.int .i64 0) (.slice none 0 0) (.slice none 0 0))
            obtain ⟨⟨e0, e1, e2, e3, e4, e5⟩, f0, f1, f2, f3, f4, f5⟩ := HP12.out.rc hg
            go_wp2
            obtain ⟨⟨z0, z1, z2, z3, z4, z5⟩, hbz⟩ := HZ.out
            exact bodyPost_ret (v := .tuple #[.agg #[.string ⟨#[]⟩, .string ⟨#[]⟩, .string ⟨#[]⟩, .int .i64 0, .slice none 0 0, .slice none 0 0], .int .i64 er]) (by simp [results, Tryz.results29, go_sem, z0, z1, z2, z3, z4, z5]) rfl (ParsePost.err HX.out hbz)
end Go.Proofs.YtpnchfigehgkgaaGreatDoor
namespace Go.Proofs.YtpnchfigehgkgaaGreatDoor
set_option linter.unusedSimpArgs false
set_option linter.unusedVariables false
open Go.RowKit
theorem has_cut (c : UInt8) : ∀ l : T, decide (c ∈ l) = (cutT c l).2.2
  | [] => rfl
  | x :: r => by
    have ih := has_cut c r
    unfold cutT
    by_cases h : x = c
    · rw [if_pos h]; simp [h]
    · rw [if_neg h, ← ih]
      by_cases q : c ∈ r
      · simp [q]
      · simp [q, Ne.symm h]
theorem in_cut (s : ByteArray) (c : UInt8) : inB s c = (cutT c s.data.toList).2.2 := has_cut c _
theorem PSt.uc {w wr : World} {g : Nat} (h : PSt w zeroU wr) (hg : w.heap.size = g) :
    wr.cell? ⟨g + 1, 0, none⟩ = some (.string ⟨#[]⟩) ∧ wr.cell? ⟨g + 1, 1, none⟩ = some (.string ⟨#[]⟩) ∧ wr.cell? ⟨g + 1, 2, none⟩ = some (.string ⟨#[]⟩) ∧ wr.cell? ⟨g + 1, 3, none⟩ = some (.int .i64 0) ∧ wr.cell? ⟨g + 1, 4, none⟩ = some (.slice none 0 0) ∧ wr.cell? ⟨g + 1, 5, none⟩ = some (.slice none 0 0) := by
  subst hg
  have hr : Blk wr (w.heap.size + 1) 62 #[.string ⟨#[]⟩, .string ⟨#[]⟩, .string ⟨#[]⟩, .int .i64 0, .slice none 0 0, .slice none 0 0] := h.u
  exact ⟨hr.cell 0, hr.cell 1, hr.cell 2, hr.cell 3, hr.cell 4, hr.cell 5⟩
/-- the tail of a row of texts that reads so -/
theorem tail_rdv {w : World} {L : List T} {gg off c : Nat} (h : Rd w 9 1 L.length (some ⟨gg, off, none⟩) (L.map SC1)) (hL : 0 < L.length) (A : Option Addr) (hA : A = some ⟨gg, off + 1, none⟩ ∨ L.length = 1) : RdB w w.heap.size 1 L.tail.length A (L.tail.map SC1) :=
  ⟨by simp, fun hn => by
    obtain ⟨gb, off2, e, hlt, hc⟩ := h.at_ hL
    injection e with e
    injection e with e1 e2 _
    subst e1
    subst e2
    rcases hA with rfl | q
    · refine ⟨gg, off + 1, rfl, hlt, fun j u hu => ?_⟩
      rw [show off + 1 + j = off + (j + 1) by omega]
      refine hc (j + 1) u ?_
      rw [List.getElem?_map] at hu ⊢
      rw [List.getElem?_tail] at hu
      exact hu
    · simp at hn; omega⟩
theorem Rd.rdb {w : World} {t : TypeId} {sz n : Nat} {A : Option Addr} {xs : List Value} (h : Rd w t sz n A xs) : RdB w w.heap.size sz n A xs := ⟨h.1, fun hn => by
  obtain ⟨gb, off, e, hlt, hc⟩ := h.at_ hn
  exact ⟨gb, off, e, hlt, hc⟩⟩
set_option maxRecDepth 100000 in
set_option maxHeartbeats 8000000 in
theorem rParse_any (s : ByteArray) (w : World) (hs : s.size ≤ 100000000) : Calls Tryz.prog 31 #[.string s] w (ParsePost (parseE s.data.toList) w) := by
  have hl : s.data.toList.length = s.size := by simp
  have HP0 := Lib.hid (PSt.start w)
  obtain ⟨g, hg⟩ : ∃ g, w.heap.size = g := ⟨_, rfl⟩
  have HG := Lib.hid hg
  have HW0 : Hid (∃ w0, (w.alloc (.cells #[.string ⟨#[]⟩, .string ⟨#[]⟩, .string ⟨#[]⟩, .int .i64 0, .slice none 0 0, .slice none 0 0] 62)).alloc (.cells #[.string ⟨#[]⟩, .string ⟨#[]⟩, .string ⟨#[]⟩, .int .i64 0, .slice none 0 0, .slice none 0 0] 62) = w0) := Lib.hid ⟨_, rfl⟩
  have hcl := cut_lens 58 s.data.toList
  have HC1 : Hid (∀ W, Calls Tryz.prog 53 #[.string (s), .int .u8 58] W fun e w' => e = .returned (cutV (s) 58) ∧ ∃ n, w' = W.drewN n) := Lib.hid (fun W => rCut_any (s) 58 W (by omega))
  have HNO := Lib.hid (fun q => parse_no (s := s.data.toList) q)
  have HYES := Lib.hid (fun q1 q2 => parse_yes (s := s.data.toList) q1 q2)
  have HCV : Hid (∀ p q f, cutT 58 s.data.toList = (p, q, f) → cutV s 58 = .tuple #[.string (str p), .string (str q), .bool f]) := Lib.hid (fun p q f h => cutV_is h)
  generalize cutT 58 s.data.toList = t at *
  obtain ⟨hd, rest, ok⟩ := t
  simp only at hcl HNO HYES
  have HCV := Lib.hid (HCV.out hd rest ok rfl)
  have HLOW : Hid (lowS (str hd) = str (low hd)) := Lib.hid rfl
  have hhd : hd.length ≤ 100000000 := by omega
  have hrl : rest.length ≤ 100000000 := by omega
  have HSC : Hid (schemeB (str (low hd)).data.toList = schemeB (low hd)) := Lib.hid rfl
  clear hcl hl
  go_enter Tryz.func31, Tryz.ntmps31
  go_wp2_with fail
  obtain ⟨w0, hw0⟩ := HW0.out
  rw [hw0]
  have HP0 : Hid (PSt w zeroU w0) := Lib.hid (by have q := HP0.out; unfold zeroU at q; rw [hw0] at q; exact q)
  clear hw0 HW0
  refine (HC1.out _).mono ?_
  rintro e w1 ⟨rfl, n1, rfl⟩
  rw [HCV.out]
  go_wp2_with fail
  refine (rLower_any (str hd) _ (by show hd.length ≤ _; omega)).mono ?_
  rintro e w3 ⟨rfl, hb2⟩
  rw [HLOW.out]
  have HP3 := Lib.hid ((HP0.out.drewN n1).on hb2)
  clear hb2
  cases ok with
  | false =>
    have HX := Lib.hid (HNO.out (.inl rfl))
    have HZ := Lib.hid (HP3.out.rz hg (.string ⟨#[]⟩) (.string ⟨#[]⟩) (.string ⟨#[]⟩) (.int .i64 0) (.slice none 0 0) (.slice none 0 0))
    obtain ⟨⟨e0, e1, e2, e3, e4, e5⟩, f0, f1, f2, f3, f4, f5⟩ := HP3.out.rc hg
    obtain ⟨d0, d1, d2, d3, d4, d5⟩ := HP3.out.uc hg
    go_wp2
    obtain ⟨⟨z0, z1, z2, z3, z4, z5⟩, hbz⟩ := HZ.out
    exact bodyPost_ret (v := .tuple #[.agg #[.string ⟨#[]⟩, .string ⟨#[]⟩, .string ⟨#[]⟩, .int .i64 0, .slice none 0 0, .slice none 0 0], .int .i64 30]) (by simp [results, Tryz.results31, go_sem, z0, z1, z2, z3, z4, z5]) rfl (ParsePost.err HX.out hbz)
  | true =>
    cases hsch : schemeB (low hd) with
    | false =>
      have HX := Lib.hid (HNO.out (.inr hsch))
      rw [hsch] at HSC
      clear hsch
      have HZ := Lib.hid (HP3.out.rz hg (.string ⟨#[]⟩) (.string ⟨#[]⟩) (.string ⟨#[]⟩) (.int .i64 0) (.slice none 0 0) (.slice none 0 0))
      obtain ⟨⟨e0, e1, e2, e3, e4, e5⟩, f0, f1, f2, f3, f4, f5⟩ := HP3.out.rc hg
      obtain ⟨d0, d1, d2, d3, d4, d5⟩ := HP3.out.uc hg
      go_wp2_with fail
      refine (rScheme_any _ w3).mono ?_
      rintro e w' ⟨rfl, hw⟩
      subst hw
      rw [HSC.out]
      go_wp2
      obtain ⟨⟨z0, z1, z2, z3, z4, z5⟩, hbz⟩ := HZ.out
      exact bodyPost_ret (v := .tuple #[.agg #[.string ⟨#[]⟩, .string ⟨#[]⟩, .string ⟨#[]⟩, .int .i64 0, .slice none 0 0, .slice none 0 0], .int .i64 30]) (by simp [results, Tryz.results31, go_sem, z0, z1, z2, z3, z4, z5]) rfl (ParsePost.err HX.out hbz)
    | true =>
      rw [hsch] at HSC
      have HU := Lib.hid (HYES.out rfl hsch)
      clear hsch
      have HC2 : Hid (∀ W, Calls Tryz.prog 53 #[.string (str rest), .int .u8 64] W fun e w' => e = .returned (cutV (str rest) 64) ∧ ∃ n, w' = W.drewN n) := Lib.hid (fun W => rCut_any (str rest) 64 W (by show rest.length ≤ _; omega))
      have HHAS : Hid (∀ W, Calls Tryz.prog 56 #[.string (str rest), .int .u8 64] W fun e w' => e = .returned (.bool (cutT 64 rest).2.2) ∧ W = w') := Lib.hid (fun W => (rHas_any (str rest) 64 W (by show rest.length ≤ _; omega)).mono (fun e w' h => ⟨by rw [h.1, in_cut]; rfl, h.2⟩))
      have hcl := cut_lens 64 rest
      have HCV2 : Hid (∀ p q f, cutT 64 rest = (p, q, f) → cutV (str rest) 64 = .tuple #[.string (str p), .string (str q), .bool f]) := Lib.hid (fun p q f h => cutV_is (s := str rest) h)
      unfold userR at HU
      generalize cutT 64 rest = t2 at *
      obtain ⟨ua, ub, is⟩ := t2
      simp only at hcl HU HHAS
      have HCV2 := Lib.hid (HCV2.out ua ub is rfl)
      have hua : ua.length ≤ 100000000 := by omega
      have hub : ub.length ≤ 100000000 := by omega
      have HPL : Hid (∀ W, Calls Tryz.prog 57 #[.string (str ua), .string ⟨#[38, 61, 43, 36, 44, 59, 63, 47]⟩] W fun e w' => e = .returned (plV (plainT users ua)) ∧ Below W.heap.size W w') := Lib.hid (fun W => rwritten_any (str ua) ⟨#[38, 61, 43, 36, 44, 59, 63, 47]⟩ W (by show ua.length ≤ _; omega) (by show 8 ≤ _; omega))
      clear hcl
      have hcases : (is = true ∧ userO ua = none) ∨ ∃ usr R, R.length ≤ 100000000 ∧ usr.length ≤ 64 ∧ (if is = true then (userO ua).map (·, ub) else some ([], rest)) = some (usr, R) ∧ ((is = true ∧ userO ua = some usr ∧ R = ub) ∨ (is = false ∧ usr = [] ∧ R = rest)) := by
        cases is with
        | false => exact .inr ⟨[], rest, hrl, by simp, by simp, .inr ⟨rfl, rfl, rfl⟩⟩
        | true =>
          cases hu : userO ua with
          | none => exact .inl ⟨rfl, rfl⟩
          | some usr => exact .inr ⟨usr, ub, hub, user_some_len hu, by simp, .inl ⟨rfl, rfl, rfl⟩⟩
      go_wp2_with fail
      refine (rScheme_any _ w3).mono ?_
      rintro e w' ⟨rfl, hw⟩
      subst hw
      rw [HSC.out]
      go_wp2_with fail
      refine (HHAS.out _).mono ?_
      rintro e w' ⟨rfl, hw⟩
      subst hw
      rcases hcases with ⟨rfl, hu⟩ | ⟨usr, R, hRl, hul, hR, hway⟩
      · have HX : Hid (parseE s.data.toList = (noUri, 31)) := Lib.hid (by rw [HU.out, hu]; rfl)
        clear HU
        go_wp2_with fail
        refine (HC2.out _).mono ?_
        rintro e w4 ⟨rfl, n2, rfl⟩
        rw [HCV2.out]
        go_wp2_with fail
        refine (HPL.out _).mono ?_
        rintro e w5 ⟨rfl, hb5⟩
        have HP5 := Lib.hid ((HP3.out.drewN n2).on hb5)
        clear hb5
        cases hpl : plainT users ua with
        | none =>
          unfold plV
          have HZ := Lib.hid (HP5.out.rz hg (.string ⟨#[]⟩) (.string ⟨#[]⟩) (.string ⟨#[]⟩) (.int .i64 0) (.slice none 0 0) (.slice none 0 0))
          obtain ⟨⟨e0, e1, e2, e3, e4, e5⟩, f0, f1, f2, f3, f4, f5⟩ := HP5.out.rc hg
          obtain ⟨d0, d1, d2, d3, d4, d5⟩ := HP5.out.uc hg
          go_wp2
          obtain ⟨⟨z0, z1, z2, z3, z4, z5⟩, hbz⟩ := HZ.out
          exact bodyPost_ret (v := .tuple #[.agg #[.string ⟨#[]⟩, .string ⟨#[]⟩, .string ⟨#[]⟩, .int .i64 0, .slice none 0 0, .slice none 0 0], .int .i64 31]) (by simp [results, Tryz.results31, go_sem, z0, z1, z2, z3, z4, z5]) rfl (ParsePost.err HX.out hbz)
        | some t =>
          unfold plV
          by_cases ht : t = []
          · subst ht
            have qe : (str []).toList.isEmpty = true := by rw [Lib.toList_data]; rfl
            have HZ := Lib.hid (HP5.out.rz hg (.string ⟨#[]⟩) (.string ⟨#[]⟩) (.string ⟨#[]⟩) (.int .i64 0) (.slice none 0 0) (.slice none 0 0))
            obtain ⟨⟨e0, e1, e2, e3, e4, e5⟩, f0, f1, f2, f3, f4, f5⟩ := HP5.out.rc hg
            obtain ⟨d0, d1, d2, d3, d4, d5⟩ := HP5.out.uc hg
            go_wp2
            obtain ⟨⟨z0, z1, z2, z3, z4, z5⟩, hbz⟩ := HZ.out
            exact bodyPost_ret (v := .tuple #[.agg #[.string ⟨#[]⟩, .string ⟨#[]⟩, .string ⟨#[]⟩, .int .i64 0, .slice none 0 0, .slice none 0 0], .int .i64 31]) (by simp [results, Tryz.results31, go_sem, z0, z1, z2, z3, z4, z5]) rfl (ParsePost.err HX.out hbz)
          · by_cases ht2 : 64 < t.length
            · have qe : (str t).toList.isEmpty = false := emp_no (fun q => ht (str_inj q))
              have q64 : (64 : Int) < (str t).size := by show (64 : Int) < (t.length : Nat); omega
              have HZ := Lib.hid (HP5.out.rz hg (.string ⟨#[]⟩) (.string ⟨#[]⟩) (.string ⟨#[]⟩) (.int .i64 0) (.slice none 0 0) (.slice none 0 0))
              obtain ⟨⟨e0, e1, e2, e3, e4, e5⟩, f0, f1, f2, f3, f4, f5⟩ := HP5.out.rc hg
              obtain ⟨d0, d1, d2, d3, d4, d5⟩ := HP5.out.uc hg
              go_wp2
              obtain ⟨⟨z0, z1, z2, z3, z4, z5⟩, hbz⟩ := HZ.out
              exact bodyPost_ret (v := .tuple #[.agg #[.string ⟨#[]⟩, .string ⟨#[]⟩, .string ⟨#[]⟩, .int .i64 0, .slice none 0 0, .slice none 0 0], .int .i64 31]) (by simp [results, Tryz.results31, go_sem, z0, z1, z2, z3, z4, z5]) rfl (ParsePost.err HX.out hbz)
            · exfalso
              rw [user_good hpl ht ht2] at hu
              cases hu
      · have HX : Hid (parseE s.data.toList = restE (low hd) usr R) := Lib.hid (by rw [HU.out, hR])
        clear HU hR
        go_upto_if 46 with (fail)
        go_cut [6, 9] (fun r us wx => r = .string (str R) ∧ us = .string (str usr) ∧ PSt w zeroU wx)
        case first =>
          rcases hway with ⟨rfl, hu, rfl⟩ | ⟨rfl, rfl, rfl⟩
          · go_wp2_with fail
            refine (HC2.out _).mono ?_
            rintro e w4 ⟨rfl, n2, rfl⟩
            rw [HCV2.out]
            go_wp2_with fail
            refine (HPL.out _).mono ?_
            rintro e w5 ⟨rfl, hb5⟩
            have HP5 := Lib.hid ((HP3.out.drewN n2).on hb5)
            clear hb5
            obtain ⟨hpl, ht, ht2⟩ := user_some hu
            rw [hpl]
            unfold plV
            have qe : (str usr).toList.isEmpty = false := emp_no (fun q => ht (str_inj q))
            have q64 : ¬ (64 : Int) < (str usr).size := by show ¬ (64 : Int) < (usr.length : Nat); omega
            go_wp2
            go_meet
            exact ⟨rfl, rfl, HP5.out⟩
          · go_wp2_with fail
            go_meet
            exact ⟨rfl, rfl, HP3.out⟩
        case rest =>
          obtain ⟨rfl, rfl, hP⟩ := hcut
          obtain ⟨w7, hw7⟩ : ∃ w7, w7 = wc := ⟨_, rfl⟩
          subst hw7
          have HP7 := Lib.hid hP
          clear hP hway HPL HCV2 HC2 hrl hub hua
          have HC3 : Hid (∀ W, Calls Tryz.prog 53 #[.string (str R), .int .u8 63] W fun e w' => e = .returned (cutV (str R) 63) ∧ ∃ n, w' = W.drewN n) := Lib.hid (fun W => rCut_any (str R) 63 W (by show R.length ≤ _; omega))
          have hcl := cut_lens 63 R
          have HCV3 : Hid (∀ p q f, cutT 63 R = (p, q, f) → cutV (str R) 63 = .tuple #[.string (str p), .string (str q), .bool f]) := Lib.hid (fun p q f h => cutV_is (s := str R) h)
          rw [rest_is] at HX
          generalize cutT 63 R = t3 at *
          obtain ⟨fr, bk, ask⟩ := t3
          simp only at hcl HX
          have HCV3 := Lib.hid (HCV3.out fr bk ask rfl)
          have hfr : fr.length ≤ 100000000 := by omega
          have hbk : bk.length ≤ 100000000 := by omega
          have HSP : Hid (∀ W, Calls Tryz.prog 58 #[.string (str fr), .int .u8 59] W fun e w' => ∃ v, e = .returned v ∧ w'.ownsRow W.heap.size 9 1 v (splitT 59 fr).length ((splitT 59 fr).map SC1) ∧ Below W.heap.size W w') := Lib.hid (fun W => rSplit_any (str fr) 59 W (by show fr.length ≤ _; omega))
          have hL0 : 0 < (splitT 59 fr).length := List.length_pos_iff.2 (split_ne 59 _)
          have hsl := split_lens 59 fr
          generalize splitT 59 fr = L at *
          rw [head_of hL0] at HX
          have h0l : L[0].length ≤ 100000000 := by have := hsl.2 _ (List.getElem_mem hL0); omega
          have hLl : L.length ≤ 100000001 := by omega
          have HLT : Hid (∀ s ∈ L.tail, s.length ≤ 1000000000) := Lib.hid (fun s h => by have := hsl.2 s (List.mem_of_mem_tail h); omega)
          have HWH : Hid (∀ W, Calls Tryz.prog 59 #[.string (str L[0])] W fun e w' => e = .returned (whV (whereE L[0])) ∧ Below W.heap.size W w') := Lib.hid (fun W => rWhere_any (str L[0]) W (by show L[0].length ≤ _; omega))
          have hwl := where_len L[0]
          generalize whereE L[0] = W0 at *
          obtain ⟨hst, prt, er⟩ := W0
          simp only at HX hwl
          have HRL := Lib.hid (fun ps (h : readP params L.tail = some ps) => read_len h)
          clear hcl hsl hfr hRl
          go_wp2_with fail
          refine (HC3.out _).mono ?_
          rintro e w8 ⟨rfl, n3, rfl⟩
          rw [HCV3.out]
          go_wp2_with fail
          refine (HSP.out _).mono ?_
          rintro e w9 ⟨vs, rfl, hown9, hb9⟩
          have HP9 := Lib.hid ((HP7.out.drewN n3).on hb9)
          obtain ⟨gg, cg, rfl⟩ := own_pos hown9 hL0
          obtain ⟨A9, c9, eA, hc9, hcm, hrd9⟩ := RdV.of_own hown9
          obtain ⟨rfl, rfl⟩ : A9 = some ⟨gg, 0, none⟩ ∧ c9 = cg := by injection eA with h1 h2 h3; exact ⟨h1.symm, h3.symm⟩
          have HRD9 := Lib.hid hrd9
          have hc0 : w9.cell? ⟨gg, 0, none⟩ = some (.string (str L[0])) := by
            rw [World.ownsRow.cellAt hown9 0 (by simpa using hL0), List.getElem?_map, List.getElem?_eq_getElem hL0]
            rfl
          have y0 : (0 : Int) < L.length := by omega
          have y1 : (1 : Int) ≤ L.length := by omega
          clear hb9 hown9 eA hrd9
          go_wp2_with fail
          refine (HWH.out _).mono ?_
          rintro e w12 ⟨rfl, hb10⟩
          have HP12 := Lib.hid (HP9.out.on hb10)
          have HRD12 := Lib.hid (HRD9.out.below hb10)
          unfold whV
          clear hb10 hc0
          by_cases her : er = 0
          · subst her
            simp only [ne_eq, not_true_eq_false, if_false] at HX
            go_upto_region 18 with (fail)
            go_cut [18, 22, 23] (fun sl vv b wx => ∃ vp, vp = vv ∧ b = .bool (readP params L.tail).isSome ∧ PSt w zeroU wx ∧ ∀ ps, readP params L.tail = some ps → OwnP (g + 2) wx vp ps)
            case first =>
              have hlt12 := HP12.out.lt
              rw [hg] at hlt12
              have HRD : Hid (∀ A, (A = some ⟨gg, 1, none⟩ ∨ L.length = 1) → Calls Tryz.prog 60 #[.slice A (L.length - 1) (c9 - 1), .string ⟨#[91, 93, 47, 58, 38, 43, 36]⟩] w12 (ReadPost params L.tail w12)) := Lib.hid (fun A hA => by
                have q := rparams_any (l := L.tail) (keep := ⟨#[91, 93, 47, 58, 38, 43, 36]⟩) (c := c9 - 1) (Nat.le_refl _) (tail_rdv (c := c9) HRD12.out hL0 A (by simpa using hA)) (by simp; omega) HLT.out (by show 7 ≤ _; omega)
                rw [List.length_tail] at q
                exact q)
              have hL1 : c9 = 1 ∨ c9 ≠ 1 := by omega
              have y2 : (1 : Int) ≤ c9 := by omega
              rcases hL1 with hL1 | hL1
              · have HRD2 : Hid (Calls Tryz.prog 60 #[.slice (some ⟨gg, 0, none⟩) (L.length - 1) 0, .string ⟨#[91, 93, 47, 58, 38, 43, 36]⟩] w12 (ReadPost params L.tail w12)) := Lib.hid (by have q := HRD.out (some ⟨gg, 0, none⟩) (.inr (by omega)); rw [hL1] at q; exact q)
                go_wp2_with fail
                refine HRD2.out.mono ?_
                rintro e w13 ⟨v, rfl, hown, hb13⟩
                have HOWN := Lib.hid hown
                have HB13 := Lib.hid hb13
                clear hown hb13
                cases hrd : readP params L.tail with
                | none =>
                  unfold readV
                  go_wp2
                  go_meet
                  exact ⟨.slice none 0 0, rfl, by rw [hrd]; rfl, HP12.out.on HB13.out, fun ps q => by rw [hrd] at q; cases q⟩
                | some ps =>
                  have HRDD := Lib.hid hrd
                  have HV : Hid (OwnP (g + 2) w13 v ps) := Lib.hid ⟨_, hlt12, HOWN.out ps hrd⟩
                  clear hrd
                  unfold readV
                  go_wp2
                  go_meet
                  exact ⟨v, rfl, by rw [HRDD.out]; rfl, HP12.out.on HB13.out, fun ps' q => by rw [HRDD.out] at q; injection q with q; subst q; exact HV.out⟩
              · have HRD2 := Lib.hid (HRD.out (some ⟨gg, 1, none⟩) (.inl rfl))
                go_wp2_with fail
                refine HRD2.out.mono ?_
                rintro e w13 ⟨v, rfl, hown, hb13⟩
                have HOWN := Lib.hid hown
                have HB13 := Lib.hid hb13
                clear hown hb13
                cases hrd : readP params L.tail with
                | none =>
                  unfold readV
                  go_wp2
                  go_meet
                  exact ⟨.slice none 0 0, rfl, by rw [hrd]; rfl, HP12.out.on HB13.out, fun ps q => by rw [hrd] at q; cases q⟩
                | some ps =>
                  have HRDD := Lib.hid hrd
                  have HV : Hid (OwnP (g + 2) w13 v ps) := Lib.hid ⟨_, hlt12, HOWN.out ps hrd⟩
                  clear hrd
                  unfold readV
                  go_wp2
                  go_meet
                  exact ⟨v, rfl, by rw [HRDD.out]; rfl, HP12.out.on HB13.out, fun ps' q => by rw [HRDD.out] at q; injection q with q; subst q; exact HV.out⟩
            case rest =>
              obtain ⟨vp, rfl, rfl, hP, hO⟩ := hcut
              obtain ⟨w14, hw14⟩ : ∃ w14, w14 = wc := ⟨_, rfl⟩
              subst hw14
              have HP14 := Lib.hid hP
              have HO14 := Lib.hid hO
              clear hP hO
              have HSP2 : Hid (∀ W, Calls Tryz.prog 58 #[.string (str bk), .int .u8 38] W fun e w' => ∃ v, e = .returned v ∧ w'.ownsRow W.heap.size 9 1 v (splitT 38 bk).length ((splitT 38 bk).map SC1) ∧ Below W.heap.size W w') := Lib.hid (fun W => rSplit_any (str bk) 38 W (by show bk.length ≤ _; omega))
              have hsl2 := split_lens 38 bk
              have HHO : Hid (hdrO (fr, bk, ask) = if ask then readP headers (splitT 38 bk) else some []) := Lib.hid rfl
              have HHL : Hid (∀ ph, hdrO (fr, bk, ask) = some ph → ph.length ≤ 100000001 ∧ ∀ p ∈ ph, parS p) := Lib.hid (fun ph h => hdr_len (by omega) h)
              generalize hdrO (fr, bk, ask) = HO at *
              generalize splitT 38 bk = M at *
              have hMl : M.length ≤ 100000001 := by omega
              have HMT : Hid (∀ s ∈ M, s.length ≤ 1000000000) := Lib.hid (fun s h => by have := hsl2.2 s h; omega)
              clear hsl2
              generalize readP params L.tail = RP at *
              go_upto_if 98 with (fail)
              go_cut [23, 24] (fun b hv wx => ∃ vh, vh = hv ∧ b = .bool (RP.isSome && HO.isSome) ∧ PSt w zeroU wx ∧ (∀ ps, RP = some ps → OwnP (g + 2) wx vp ps) ∧ (∀ ps, HO = some ps → OwnP (g + 2) wx vh ps))
              case first =>
                cases ask with
                | false =>
                  have HHO : Hid (HO = some []) := Lib.hid HHO.out
                  go_wp2
                  go_meet
                  exact ⟨.slice none 0 0, rfl, by rw [HHO.out]; simp, HP14.out, HO14.out, fun ps q => by rw [HHO.out] at q; injection q with q; subst q; exact OwnP.nil _ _⟩
                | true =>
                  have HHO : Hid (HO = readP headers M) := Lib.hid HHO.out
                  go_wp2_with fail
                  refine (HSP2.out _).mono ?_
                  rintro e w15 ⟨v2, rfl, hown, hb15⟩
                  have HB15 := Lib.hid hb15
                  obtain ⟨A2, c2, rfl, hc2, hcm2, hrd2⟩ := RdV.of_own hown
                  have HRD : Hid (Calls Tryz.prog 60 #[.slice A2 M.length c2, .string ⟨#[91, 93, 47, 63, 58, 43, 36]⟩] w15 (ReadPost headers M w15)) := Lib.hid (rparams_any (l := M) (keep := ⟨#[91, 93, 47, 63, 58, 43, 36]⟩) (c := c2) (Nat.le_refl _) hrd2.rdb (by omega) HMT.out (by show 7 ≤ _; omega))
                  clear hown hb15 hrd2 hc2 hcm2
                  go_wp2_with fail
                  refine HRD.out.mono ?_
                  rintro e w16 ⟨v, rfl, hown, hb16⟩
                  have HOWN := Lib.hid hown
                  have HB16 := Lib.hid (HB15.out.trans (hb16.mono HB15.out.size))
                  have hlt15 : g + 2 ≤ w15.heap.size := by have a := HB15.out.size; have b := HP14.out.lt; rw [hg] at b; omega
                  have HP16 := Lib.hid (HP14.out.on HB16.out)
                  have HO16 : Hid (∀ ps, RP = some ps → OwnP (g + 2) w16 vp ps) := Lib.hid (fun ps q => (HO14.out ps q).on HB16.out)
                  clear hown hb16
                  cases hrd : readP headers M with
                  | none =>
                    have HRDD := Lib.hid (HHO.out.trans hrd)
                    clear hrd
                    unfold readV
                    cases RP with
                    | none =>
                      go_wp2
                      go_meet
                      exact ⟨.slice none 0 0, rfl, by rw [HRDD.out]; rfl, HP16.out, HO16.out, fun ps q => by rw [HRDD.out] at q; cases q⟩
                    | some rp =>
                      go_wp2
                      go_meet
                      exact ⟨.slice none 0 0, rfl, by rw [HRDD.out]; rfl, HP16.out, HO16.out, fun ps q => by rw [HRDD.out] at q; cases q⟩
                  | some ps =>
                    have HRDD := Lib.hid (HHO.out.trans hrd)
                    have HV : Hid (OwnP (g + 2) w16 v ps) := Lib.hid ⟨_, hlt15, HOWN.out ps hrd⟩
                    clear hrd
                    unfold readV
                    cases RP with
                    | none =>
                      go_wp2
                      go_meet
                      exact ⟨v, rfl, by rw [HRDD.out]; rfl, HP16.out, HO16.out, fun ps' q => by rw [HRDD.out] at q; injection q with q; subst q; exact HV.out⟩
                    | some rp =>
                      go_wp2
                      go_meet
                      exact ⟨v, rfl, by rw [HRDD.out]; rfl, HP16.out, HO16.out, fun ps' q => by rw [HRDD.out] at q; injection q with q; subst q; exact HV.out⟩
              case rest =>
                obtain ⟨vh, rfl, rfl, hP, hO, hO2⟩ := hcut
                obtain ⟨w17, hw17⟩ : ∃ w17, w17 = wc := ⟨_, rfl⟩
                subst hw17
                have HP17 := Lib.hid hP
                have HO17 := Lib.hid hO
                have HH17 := Lib.hid hO2
                clear hP hO hO2
                cases RP with
                | none =>
                  have HX : Hid (parseE s.data.toList = (noUri, 34)) := Lib.hid (by rw [HX.out])
                  have HZ := Lib.hid (HP17.out.rz hg (.string ⟨#[]⟩) (.string ⟨#[]⟩) (.string ⟨#[]⟩) (.int .i64 0) (.slice none 0 0) (.slice none 0 0))
                  obtain ⟨⟨e0, e1, e2, e3, e4, e5⟩, f0, f1, f2, f3, f4, f5⟩ := HP17.out.rc hg
                  obtain ⟨d0, d1, d2, d3, d4, d5⟩ := HP17.out.uc hg
                  go_wp2
                  obtain ⟨⟨z0, z1, z2, z3, z4, z5⟩, hbz⟩ := HZ.out
                  exact bodyPost_ret (v := .tuple #[.agg #[.string ⟨#[]⟩, .string ⟨#[]⟩, .string ⟨#[]⟩, .int .i64 0, .slice none 0 0, .slice none 0 0], .int .i64 34]) (by simp [results, Tryz.results31, go_sem, z0, z1, z2, z3, z4, z5]) rfl (ParsePost.err HX.out hbz)
                | some ps =>
                  cases HO with
                  | none =>
                    have HX : Hid (parseE s.data.toList = (noUri, 34)) := Lib.hid (by rw [HX.out])
                    have HZ := Lib.hid (HP17.out.rz hg (.string ⟨#[]⟩) (.string ⟨#[]⟩) (.string ⟨#[]⟩) (.int .i64 0) (.slice none 0 0) (.slice none 0 0))
                    obtain ⟨⟨e0, e1, e2, e3, e4, e5⟩, f0, f1, f2, f3, f4, f5⟩ := HP17.out.rc hg
                    obtain ⟨d0, d1, d2, d3, d4, d5⟩ := HP17.out.uc hg
                    go_wp2
                    obtain ⟨⟨z0, z1, z2, z3, z4, z5⟩, hbz⟩ := HZ.out
                    exact bodyPost_ret (v := .tuple #[.agg #[.string ⟨#[]⟩, .string ⟨#[]⟩, .string ⟨#[]⟩, .int .i64 0, .slice none 0 0, .slice none 0 0], .int .i64 34]) (by simp [results, Tryz.results31, go_sem, z0, z1, z2, z3, z4, z5]) rfl (ParsePost.err HX.out hbz)
                  | some ph =>
                    have HX : Hid (parseE s.data.toList = finE ⟨low hd, usr, hst, prt, ps, ph⟩) := Lib.hid (by rw [HX.out])
                    have hOp := HO17.out ps rfl
                    have hOh := HH17.out ph rfl
                    have HOp := Lib.hid hOp
                    have HOh := Lib.hid hOh
                    obtain ⟨Ap, cp, rfl, hrp⟩ := hOp.prm
                    obtain ⟨Ah, ch, rfl, hrh⟩ := hOh.prm
                    have hpl := HRL.out ps rfl
                    have hhl := HHL.out ph rfl
                    have hUS : UriS ⟨low hd, usr, hst, prt, ps, ph⟩ := ⟨by show (low hd).length ≤ _; unfold low; rw [List.length_map]; omega, by show usr.length ≤ _; omega, by show hst.length ≤ _; omega, by show _ ≤ prt ∧ prt ≤ _; omega, by show ps.length ≤ _; have := hpl.1; rw [List.length_tail] at this; omega, by show ph.length ≤ _; omega, fun p hp => by
                      obtain ⟨s, hs, h1, h2⟩ := hpl.2 p hp
                      have := HLT.out s hs
                      exact ⟨by omega, by omega⟩, hhl.2⟩
                    have HCK : Hid (∀ W, Below w17.heap.size w17 W → Calls Tryz.prog 61 #[.agg #[.string (str (low hd)), .string (str usr), .string (str hst), .int .i64 prt, .slice Ap ps.length cp, .slice Ah ph.length ch]] W (CheckPost ⟨low hd, usr, hst, prt, ps, ph⟩ W)) := Lib.hid (fun W hb => rCheck_any (u := ⟨low hd, usr, hst, prt, ps, ph⟩) (Nat.le_refl _) (hOp.on hb).prm (hOh.on hb).prm hUS)
                    have HAL : Hid (∀ o, Below w17.heap.size w17 (w17.alloc o)) := Lib.hid (fun o => (Below.refl _ _).alloc (Nat.le_refl _) o)
                    clear hOp hOh hrp hrh hUS hpl hhl
                    go_wp2_with fail
                    have hbk := Blk.new w17 62 #[.string (str (low hd)), .string (str usr), .string (str hst), .int .i64 prt, .slice Ap ps.length cp, .slice Ah ph.length ch]
                    have hal := HAL.out (.cells #[.string (str (low hd)), .string (str usr), .string (str hst), .int .i64 prt, .slice Ap ps.length cp, .slice Ah ph.length ch] 62)
                    obtain ⟨gu, hgu⟩ : ∃ gu, w17.heap.size = gu := ⟨_, rfl⟩
                    have HGU := Lib.hid hgu
                    obtain ⟨wu, hwu⟩ : ∃ wu, w17.alloc (.cells #[.string (str (low hd)), .string (str usr), .string (str hst), .int .i64 prt, .slice Ap ps.length cp, .slice Ah ph.length ch] 62) = wu := ⟨_, rfl⟩
                    rw [hwu] at hbk hal ⊢
                    rw [hgu] at hbk ⊢
                    have HBU := Lib.hid hbk
                    have HAL2 := Lib.hid hal
                    have hszu := hal.size
                    clear hbk hal hwu HAL hgu
                    refine (HCK.out wu HAL2.out).mono ?_
                    rintro e w18 ⟨rfl, hb18⟩
                    have HB18 : Hid (Below w17.heap.size w17 w18) := Lib.hid (HAL2.out.trans (hb18.mono hszu))
                    have hbu := HBU.out.fr (Fr.of_below (F := fun _ => False) hb18) (fun h => h)
                    have HBU18 := Lib.hid hbu
                    have HP18 := Lib.hid (HP17.out.on HB18.out)
                    have HO18 := Lib.hid (HOp.out.on HB18.out)
                    have HH18 := Lib.hid (HOh.out.on HB18.out)
                    have hgr : g < gu := by have := HP17.out.lt; rw [hg, HGU.out] at this; omega
                    clear hb18 hbu
                    by_cases hck : checkE ⟨low hd, usr, hst, prt, ps, ph⟩ = 0
                    · have HX := Lib.hid (HX.out.trans (if_pos hck))
                      rw [hck]
                      have d0 := HBU18.out.cell 0
                      have d1 := HBU18.out.cell 1
                      have d2 := HBU18.out.cell 2
                      have d3 := HBU18.out.cell 3
                      have d4 := HBU18.out.cell 4
                      have d5 := HBU18.out.cell 5
                      have HZ := Lib.hid (HP18.out.rz hg (.string (str (low hd))) (.string (str usr)) (.string (str hst)) (.int .i64 prt) (.slice Ap ps.length cp) (.slice Ah ph.length ch))
                      have HOF := Lib.hid (HO18.out.six_ (g := g) (by omega) (.string (str (low hd))) (.string (str usr)) (.string (str hst)) (.int .i64 prt) (.slice Ap ps.length cp) (.slice Ah ph.length ch))
                      have HHF := Lib.hid (HH18.out.six_ (g := g) (by omega) (.string (str (low hd))) (.string (str usr)) (.string (str hst)) (.int .i64 prt) (.slice Ap ps.length cp) (.slice Ah ph.length ch))
                      obtain ⟨⟨e0, e1, e2, e3, e4, e5⟩, f0, f1, f2, f3, f4, f5⟩ := HP18.out.rc hg
                      clear hck
                      go_wp2
                      obtain ⟨⟨z0, z1, z2, z3, z4, z5⟩, hbz⟩ := HZ.out
                      exact bodyPost_ret (v := .tuple #[.agg #[.string (str (low hd)), .string (str usr), .string (str hst), .int .i64 prt, .slice Ap ps.length cp, .slice Ah ph.length ch], .int .i64 0]) (by simp [results, Tryz.results31, go_sem, z0, z1, z2, z3, z4, z5]) rfl (ParsePost.ok HX.out HOF.out HHF.out hbz)
                    · have HX := Lib.hid (HX.out.trans (if_neg hck))
                      have HCK2 := Lib.hid (HCK.out w18.drew (HB18.out.drew))
                      unfold CheckPost at HCK2
                      generalize checkE ⟨low hd, usr, hst, prt, ps, ph⟩ = ck at *
                      have qck : (ck != 0) = true := by simpa using hck
                      have HSS : Hid (∀ W, Below w17.heap.size w17 W → Below w18.heap.size w18 W → True) := Lib.hid (fun _ _ _ => trivial)
                      clear hck
                      have d0 := HBU18.out.cell 0
                      have d1 := HBU18.out.cell 1
                      have d2 := HBU18.out.cell 2
                      have d3 := HBU18.out.cell 3
                      have d4 := HBU18.out.cell 4
                      have d5 := HBU18.out.cell 5
                      obtain ⟨c0, c1, c2', c3, c4, c5⟩ := HP18.out.uc hg
                      go_wp2_with fail
                      go_region_with ((go_at_call 61; (with_reducible refine HCK2.out.mono ?_); rintro e w19 ⟨rfl, hb19⟩; have HP19 := Lib.hid ((HP18.out.drewN 1).on hb19); have HZ := Lib.hid (HP19.out.rz hg (.string ⟨#[]⟩) (.string ⟨#[]⟩) (.string ⟨#[]⟩) (.int .i64 0) (.slice none 0 0) (.slice none 0 0)); obtain ⟨⟨e0, e1, e2, e3, e4, e5⟩, f0, f1, f2, f3, f4, f5⟩ := HP19.out.rc hg; obtain ⟨k0, k1, k2, k3, k4, k5⟩ := HP19.out.uc hg))
                      all_goals
                        go_wp2
                        obtain ⟨⟨z0, z1, z2, z3, z4, z5⟩, hbz⟩ := HZ.out
                        exact bodyPost_ret (v := .tuple #[.agg #[.string ⟨#[]⟩, .string ⟨#[]⟩, .string ⟨#[]⟩, .int .i64 0, .slice none 0 0, .slice none 0 0], .int .i64 ck]) (by simp [results, Tryz.results31, go_sem, z0, z1, z2, z3, z4, z5]) rfl (ParsePost.err HX.out hbz)
          · have HX := Lib.hid (HX.out.trans (if_pos her))
            have qer : (er != 0) = true := by simpa using her
            clear her
            have HZ := Lib.hid (HP12.out.rz hg (.string ⟨#[]⟩) (.string ⟨#[]⟩) (.string ⟨#[]⟩) (.int .i64 0) (.slice none 0 0) (.slice none 0 0))
            obtain ⟨⟨e0, e1, e2, e3, e4, e5⟩, f0, f1, f2, f3, f4, f5⟩ := HP12.out.rc hg
            obtain ⟨d0, d1, d2, d3, d4, d5⟩ := HP12.out.uc hg
            go_wp2
            obtain ⟨⟨z0, z1, z2, z3, z4, z5⟩, hbz⟩ := HZ.out
            exact bodyPost_ret (v := .tuple #[.agg #[.string ⟨#[]⟩, .string ⟨#[]⟩, .string ⟨#[]⟩, .int .i64 0, .slice none 0 0, .slice none 0 0], .int .i64 er]) (by simp [results, Tryz.results31, go_sem, z0, z1, z2, z3, z4, z5]) rfl (ParsePost.err HX.out hbz)
end Go.Proofs.YtpnchfigehgkgaaGreatDoor
namespace Go.Proofs.YtpnchfigehgkgaaGreatDoor
set_option linter.unusedSimpArgs false
set_option linter.unusedVariables false
open Go.RowKit
theorem tol_eq (a b : ByteArray) : a.toList = b.toList ↔ a = b := by
  rw [ByteArray.toList_eq, ByteArray.toList_eq]
  obtain ⟨⟨x⟩⟩ := a
  obtain ⟨⟨y⟩⟩ := b
  simp
theorem equal_par (p q : Par) (W : World) : (Op.equal 112 (.agg #[.string (str p.name), .string (str p.value), .bool p.has]) (.agg #[.string (str q.name), .string (str q.value), .bool q.has])).run Tryz.prog W = .ok (decide (p = q)) W := by
  obtain ⟨a1, a2, a3⟩ := p
  obtain ⟨b1, b2, b3⟩ := q
  show (Op.equalIn (9999 + 1) 112 (.agg #[.string (str a1), .string (str a2), .bool a3]) (.agg #[.string (str b1), .string (str b2), .bool b3])).run Tryz.prog W = _
  rw [run_equalIn_struct W 9999 112 _ _ (by kernel_rfl) (by kernel_rfl)]
  have e1 : (str a1 = str b1) ↔ a1 = b1 := ⟨str_inj, fun h => by rw [h]⟩
  have e2 : (str a2 = str b2) ↔ a2 = b2 := ⟨str_inj, fun h => by rw [h]⟩
  simp only [Par.mk.injEq]
  by_cases q1 : a1 = b1 <;> by_cases q2 : a2 = b2 <;> by_cases q3 : a3 = b3 <;> simp [go_sem, tol_eq, e1, e2, q1, q2, q3]
theorem neq_par (p q : Par) (W : World) : (binOp .neq 112 (.agg #[.string (str p.name), .string (str p.value), .bool p.has]) (.agg #[.string (str q.name), .string (str q.value), .bool q.has])).run Tryz.prog W = .ok (.bool (!decide (p = q))) W := by
  obtain ⟨a1, a2, a3⟩ := p
  obtain ⟨b1, b2, b3⟩ := q
  have e1 : (str a1 = str b1) ↔ a1 = b1 := ⟨str_inj, fun h => by rw [h]⟩
  have e2 : (str a2 = str b2) ↔ a2 = b2 := ⟨str_inj, fun h => by rw [h]⟩
  simp only [Par.mk.injEq]
  by_cases q1 : a1 = b1 <;> by_cases q2 : a2 = b2 <;> by_cases q3 : a3 = b3 <;> simp [go_sem, tol_eq, e1, e2, q1, q2, q3]
def SameTo2 (a b : List Par) (j : Nat) : Prop := a.take j = b.take j
theorem lists_step {a b : List Par} {j : Nat} (h : SameTo2 a b j) (ha : j < a.length) (hb : j < b.length) (e : a[j] = b[j]) : SameTo2 a b (j + 1) := by
  unfold SameTo2 at *
  rw [List.take_succ_eq_append_getElem ha, List.take_succ_eq_append_getElem hb, h, e]
theorem lists_no {a b : List Par} {j : Nat} (ha : j < a.length) (hb : j < b.length) (e : a[j] ≠ b[j]) : decide (a = b) = false := by
  refine decide_eq_false fun h => e ?_
  subst h
  rfl
theorem lists_end {a b : List Par} {j : Nat} (h : SameTo2 a b j) (ha : j = a.length) (hl : a.length = b.length) : decide (a = b) = true := by
  unfold SameTo2 at h
  rw [List.take_of_length_le (by omega), List.take_of_length_le (by omega)] at h
  exact decide_eq_true h
theorem strv_dec (a b : T) : ((str a).toList == (str b).toList) = decide (a = b) := by
  rw [Bool.eq_iff_iff, beq_iff_eq, decide_eq_true_iff, tol_eq]
  exact ⟨str_inj, fun h => by rw [h]⟩
theorem uri_dec (u v : Uri) : decide (u = v) = (decide (u.scheme = v.scheme) && decide (u.user = v.user) && decide (u.host = v.host) && decide (u.port = v.port) && decide (u.params = v.params) && decide (u.headers = v.headers)) := by
  obtain ⟨a, b, c, d, e, f⟩ := u
  obtain ⟨a', b', c', d', e', f'⟩ := v
  rw [Bool.eq_iff_iff]
  simp [and_assoc]
end Go.Proofs.YtpnchfigehgkgaaGreatDoor
