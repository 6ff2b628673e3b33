/- Chapter 3: rosterlaw03.awake; UriHosts, UriParses. Chapter 3: rosterlaw03.UriHosts, UriParses. Chapter 3: rosterlaw03.UriPrints, UriBack. Chapter 3: rosterlaw03.UriOnce, UriSigns. Chapter 3: rosterlaw03.UriLetters. -/
import Derived.Test.YtpnchfigehgkgaaDoorGl
import Derived.Deep.RegionHeld3
namespace Go.Proofs.YtpnchfigehgkgaaDoor
set_option linter.unusedSimpArgs false
set_option linter.unusedVariables false
open Go.RowKit
def textU : Uri := ⟨[115, 105, 112], [97, 32, 98], [101, 120, 97, 109, 112, 108, 101, 46, 111, 114, 103], 5070, [⟨[108, 114], [], false⟩, ⟨[120], [49], true⟩], [⟨[121], [50], true⟩]⟩
theorem aw1 : parseE [83, 73, 80, 58, 97, 37, 50, 48, 98, 64, 69, 120, 97, 109, 112, 108, 101, 46, 111, 114, 103, 58, 53, 48, 55, 48, 59, 108, 114, 59, 120, 61, 49, 63, 121, 61, 50] = (textU, 0) := by decide +kernel
theorem aw2 : parseE [115, 105, 112, 58] = (noUri, 32) := by decide +kernel
theorem aw3 : parseE [115, 105, 112, 58, 97, 58, 98, 64, 99] = (noUri, 31) := by decide +kernel
def TruePost (w : World) (e : Ending) (w' : World) : Prop := e = .returned (.bool true) ∧ Below w.heap.size w w'
/-- a call of Parse whose answer is known -/
theorem parse_is {s : ByteArray} {r : Uri × Int} (h : parseE s.data.toList = r) (hs : s.size ≤ 100000000) (w : World) : Calls Tryd.prog 21 #[.string s] w fun e w' => ∃ Ap cp Ah ch, e = .returned (.tuple #[.agg #[.string (str r.1.scheme), .string (str r.1.user), .string (str r.1.host), .int .i64 r.1.port, .slice Ap r.1.params.length cp, .slice Ah r.1.headers.length ch], .int .i64 r.2]) ∧ RdB w' w'.heap.size 3 r.1.params.length Ap (rows parC r.1.params) ∧ RdB w' w'.heap.size 3 r.1.headers.length Ah (rows parC r.1.headers) ∧ Below w.heap.size w w' := by
  subst h
  refine (Parse_any s w hs).mono ?_
  rintro e w' ⟨vp, vh, rfl, ⟨Ap, cp, rfl, hp⟩, ⟨Ah, ch, rfl, hh⟩, hb⟩
  exact ⟨Ap, cp, Ah, ch, rfl, hp, hh, hb⟩
theorem rparse_is {s : ByteArray} {r : Uri × Int} (h : parseE s.data.toList = r) (hs : s.size ≤ 100000000) (w : World) : Calls Tryd.prog 22 #[.string s] w fun e w' => ∃ Ap cp Ah ch, e = .returned (.tuple #[.agg #[.string (str r.1.scheme), .string (str r.1.user), .string (str r.1.host), .int .i64 r.1.port, .slice Ap r.1.params.length cp, .slice Ah r.1.headers.length ch], .int .i64 r.2]) ∧ RdB w' w'.heap.size 3 r.1.params.length Ap (rows parC r.1.params) ∧ RdB w' w'.heap.size 3 r.1.headers.length Ah (rows parC r.1.headers) ∧ Below w.heap.size w w' := by
  subst h
  refine (rParse_any s w hs).mono ?_
  rintro e w' ⟨vp, vh, rfl, ⟨Ap, cp, rfl, hp⟩, ⟨Ah, ch, rfl, hh⟩, hb⟩
  exact ⟨Ap, cp, Ah, ch, rfl, hp, hh, hb⟩
set_option maxRecDepth 100000 in
set_option maxHeartbeats 4000000 in
theorem awake03 (w : World) : Calls Tryd.prog 24 #[] w (TruePost w) := by
  have H1 := Lib.hid (fun w => parse_is (s := ⟨#[83, 73, 80, 58, 97, 37, 50, 48, 98, 64, 69, 120, 97, 109, 112, 108, 101, 46, 111, 114, 103, 58, 53, 48, 55, 48, 59, 108, 114, 59, 120, 61, 49, 63, 121, 61, 50]⟩) aw1 (by show 37 ≤ _; omega) w)
  have H2 := Lib.hid (fun w => parse_is (s := ⟨#[115, 105, 112, 58]⟩) aw2 (by show 4 ≤ _; omega) w)
  have H3 := Lib.hid (fun w => parse_is (s := ⟨#[115, 105, 112, 58, 97, 58, 98, 64, 99]⟩) aw3 (by show 9 ≤ _; omega) w)
  unfold textU noUri at *
  go_enter Tryd.func24, Tryd.ntmps24
  go_wp2_with fail
  refine (H1.out _).mono ?_
  rintro e w1 ⟨Ap, cp, Ah, ch, rfl, _, _, hb1⟩
  have HB1 := Lib.hid hb1
  clear hb1
  go_wp2_with fail
  obtain ⟨w2, hw2⟩ : ∃ w2, w1.alloc (.cells #[.string (str [115, 105, 112]), .string (str [97, 32, 98]), .string (str [101, 120, 97, 109, 112, 108, 101, 46, 111, 114, 103]), .int .i64 5070, .slice Ap 2 cp, .slice Ah 1 ch] 24) = w2 := ⟨_, rfl⟩
  have hk2 : Blk w2 w1.heap.size 24 #[.string (str [115, 105, 112]), .string (str [97, 32, 98]), .string (str [101, 120, 97, 109, 112, 108, 101, 46, 111, 114, 103]), .int .i64 5070, .slice Ap 2 cp, .slice Ah 1 ch] := hw2 ▸ Blk.new w1 _ _
  have HB2 : Hid (Below w.heap.size w w2) := Lib.hid (hw2 ▸ HB1.out.alloc HB1.out.size _)
  have HK2 := Lib.hid hk2
  rw [hw2]
  clear hw2 hk2
  refine (H2.out _).mono ?_
  rintro e w3 ⟨Ap2, cp2, Ah2, ch2, rfl, _, _, hb3⟩
  have HB3 := Lib.hid (HB2.out.trans (hb3.mono HB2.out.size))
  have HK3 := Lib.hid (HK2.out.fr (Fr.of_below (F := fun _ => False) hb3) (fun h => h))
  clear hb3
  go_wp2_with fail
  have HK4 : Hid (∀ o, Blk (w3.alloc o) w1.heap.size 24 #[.string (str [115, 105, 112]), .string (str [97, 32, 98]), .string (str [101, 120, 97, 109, 112, 108, 101, 46, 111, 114, 103]), .int .i64 5070, .slice Ap 2 cp, .slice Ah 1 ch]) := Lib.hid (fun o => HK3.out.alloc o)
  have HB4 : Hid (∀ o, Below w.heap.size w (w3.alloc o)) := Lib.hid (fun o => HB3.out.alloc HB3.out.size o)
  refine (H3.out _).mono ?_
  rintro e w5 ⟨Ap3, cp3, Ah3, ch3, rfl, _, _, hb5⟩
  have hk5 := (HK4.out _).fr (Fr.of_below (F := fun _ => False) hb5) (fun h => h)
  have HB5 := Lib.hid ((HB4.out _).trans (hb5.mono (HB4.out _).size))
  obtain ⟨g1, hg1⟩ : ∃ g1, w1.heap.size = g1 := ⟨_, rfl⟩
  rw [hg1] at hk5 ⊢
  have hk6 := fun o => (hk5.alloc o)
  have hg5 : g1 < w5.heap.size := hk5.lt
  have HB6 : Hid (∀ o, Below w.heap.size w (w5.alloc o)) := Lib.hid (fun o => HB5.out.alloc HB5.out.size o)
  have c0 := hk5.cell 0
  have c1 := hk5.cell 1
  have c2 := hk5.cell 2
  have c3 := hk5.cell 3
  have c4 := hk5.cell 4
  have c5 := hk5.cell 5
  have n1 : g1 ≠ w5.heap.size := by omega
  have s1 : ((str [115, 105, 112]).toList == [115, 105, 112]) = true := by decide +kernel
  have s2 : ((str [97, 32, 98]).toList == [97, 32, 98]) = true := by decide +kernel
  have s3 : ((str [101, 120, 97, 109, 112, 108, 101, 46, 111, 114, 103]).toList == [101, 120, 97, 109, 112, 108, 101, 46, 111, 114, 103]) = true := by decide +kernel
  clear hb5 hk5 hk6 hg1
  go_wp2
  go_ret
  exact ⟨rfl, HB6.out _⟩
end Go.Proofs.YtpnchfigehgkgaaDoor
namespace Go.Proofs.YtpnchfigehgkgaaDoor
set_option linter.unusedSimpArgs false
set_option linter.unusedVariables false
open Go.RowKit
theorem uriHosts_any (s : ByteArray) (w : World) (hs : s.size ≤ 140737488351232) : Calls Tryd.prog 4 #[.string s] w (TruePost w) := by
  have HW1 := Lib.hid (fun w => Where_any s w (by omega))
  have HW2 := Lib.hid (fun w => rWhere_any s w hs)
  unfold WherePost whV at HW1 HW2
  generalize whereE s.data.toList = E at *
  obtain ⟨h, p, e0⟩ := E
  have HA := Lib.hid awake03
  have HH1 := Lib.hid (fun w => Host_any s w (by omega))
  have HH2 := Lib.hid (fun w => rHost_any s w (by omega))
  go_enter Tryd.func4, Tryd.ntmps4
  go_wp2_with fail
  refine (HW1.out _).mono ?_
  rintro e w1 ⟨rfl, hb1⟩
  have HB1 := Lib.hid hb1
  clear hb1
  go_wp2_with fail
  refine (HW2.out _).mono ?_
  rintro e w2 ⟨rfl, hb2⟩
  have HB2 := Lib.hid (HB1.out.trans (hb2.mono HB1.out.size))
  clear hb2
  have q1 : (schemeB s.data.toList == schemeB s.data.toList) = true := beq_self_eq_true _
  have q2 : (hostB s.data.toList == hostB s.data.toList) = true := beq_self_eq_true _
  go_wp2_with fail
  refine (Scheme_any s w2).mono ?_
  rintro e w' ⟨rfl, hw⟩
  subst hw
  go_wp2_with fail
  refine (rScheme_any s w2).mono ?_
  rintro e w' ⟨rfl, hw⟩
  subst hw
  go_wp2_with fail
  refine (HH1.out _).mono ?_
  rintro e w3 ⟨rfl, hb3⟩
  have HB3 := Lib.hid (HB2.out.trans (hb3.mono HB2.out.size))
  clear hb3
  go_wp2_with fail
  refine (HH2.out _).mono ?_
  rintro e w4 ⟨rfl, hb4⟩
  have HB4 := Lib.hid (HB3.out.trans (hb4.mono HB3.out.size))
  clear hb4
  go_wp2_with fail
  refine (HA.out _).mono ?_
  rintro e w5 ⟨rfl, hb5⟩
  have HB5 := Lib.hid (HB4.out.trans (hb5.mono HB4.out.size))
  clear hb5
  go_wp2
  go_ret
  exact ⟨rfl, HB5.out⟩
/-- what is parsed is small, or nothing -/
theorem parse_small (s : T) : (parseE s).1.params.length ≤ 16 ∧ (parseE s).1.headers.length ≤ 16 := by
  rcases parse_ok (s := s) (v := (parseE s).1) (e := (parseE s).2) rfl with ⟨_, h⟩ | ⟨_, h⟩
  · obtain ⟨_, _, _, _, _, h6, h7, _⟩ := check_parts h
    exact ⟨list_len h6, list_len h7⟩
  · rw [h]; exact ⟨by simp [noUri], by simp [noUri]⟩
theorem RdB.on {w w' : World} {n sz : Nat} {A : Option Addr} {xs : List Value} (h : RdB w w.heap.size sz n A xs) (hb : Below w.heap.size w w') : RdB w' w'.heap.size sz n A xs := by
  have q := h.below hb
  exact ⟨q.1, fun hn => by
    obtain ⟨gb, off, e, h1, h2⟩ := q.2 hn
    exact ⟨gb, off, e, by have := hb.size; omega, h2⟩⟩
def uriC (u : Uri) (Ap : Option Addr) (cp : Nat) (Ah : Option Addr) (ch : Nat) : Array Value := #[.string (str u.scheme), .string (str u.user), .string (str u.host), .int .i64 u.port, .slice Ap u.params.length cp, .slice Ah u.headers.length ch]
theorem UriB.of {w : World} {B : Nat} {u : Uri} {Ap Ah : Option Addr} {cp ch : Nat} (h1 : RdB w B 3 u.params.length Ap (rows parC u.params)) (h2 : RdB w B 3 u.headers.length Ah (rows parC u.headers)) : UriB w B (.agg #[.string (str u.scheme), .string (str u.user), .string (str u.host), .int .i64 u.port, .slice Ap u.params.length cp, .slice Ah u.headers.length ch]) u := ⟨_, _, rfl, ⟨_, _, rfl, h1⟩, ⟨_, _, rfl, h2⟩⟩
set_option maxRecDepth 100000 in
set_option maxHeartbeats 4000000 in
theorem uriParses_any (s : ByteArray) (w : World) (hs : s.size ≤ 100000000) : Calls Tryd.prog 3 #[.string s] w (TruePost w) := by
  have HW1 := Lib.hid (fun w => parse_is (s := s) rfl hs w)
  have HW2 := Lib.hid (fun w => rparse_is (s := s) rfl hs w)
  have hsm := parse_small s.data.toList
  generalize parseE s.data.toList = R at *
  obtain ⟨u, er⟩ := R
  simp only at HW1 HW2 hsm
  have HA := Lib.hid awake03
  go_enter Tryd.func3, Tryd.ntmps3
  go_wp2_with fail
  refine (HW1.out _).mono ?_
  rintro e w1 ⟨Ap, cp, Ah, ch, rfl, hp, hh, hb1⟩
  have HB1 := Lib.hid hb1
  have HP1 := Lib.hid hp
  have HH1 := Lib.hid hh
  clear hb1 hp hh
  go_wp2_with fail
  obtain ⟨w2, hw2⟩ : ∃ w2, w1.alloc (.cells #[.string (str u.scheme), .string (str u.user), .string (str u.host), .int .i64 u.port, .slice Ap u.params.length cp, .slice Ah u.headers.length ch] 24) = w2 := ⟨_, rfl⟩
  have hal2 : Below w1.heap.size w1 w2 := hw2 ▸ (Below.refl _ _).alloc (Nat.le_refl _) _
  have HK2 : Hid (Blk w2 w1.heap.size 24 #[.string (str u.scheme), .string (str u.user), .string (str u.host), .int .i64 u.port, .slice Ap u.params.length cp, .slice Ah u.headers.length ch]) := Lib.hid (hw2 ▸ Blk.new w1 _ _)
  have HB2 : Hid (Below w.heap.size w w2) := Lib.hid (HB1.out.trans (hal2.mono HB1.out.size))
  have HP2 := Lib.hid (RdB.on HP1.out hal2)
  have HH2 := Lib.hid (RdB.on HH1.out hal2)
  rw [hw2]
  clear hw2 hal2
  refine (HW2.out _).mono ?_
  rintro e w3 ⟨Ap2, cp2, Ah2, ch2, rfl, hp, hh, hb3⟩
  have HB3 := Lib.hid (HB2.out.trans (hb3.mono HB2.out.size))
  have HP3 := Lib.hid (RdB.on HP2.out hb3)
  have HH3 := Lib.hid (RdB.on HH2.out hb3)
  have HK3 := Lib.hid (HK2.out.fr (Fr.of_below (F := fun _ => False) hb3) (fun h => h))
  have HQ3 := Lib.hid hp
  have HR3 := Lib.hid hh
  clear hb3 hp hh
  have hal4 : Hid (∀ o, Below w3.heap.size w3 (w3.alloc o)) := Lib.hid (fun o => (Below.refl _ _).alloc (Nat.le_refl _) o)
  have hk4 := fun o => HK3.out.alloc o
  obtain ⟨g1, hg1⟩ : ∃ g1, w1.heap.size = g1 := ⟨_, rfl⟩
  rw [hg1] at hk4 ⊢
  have hlt3 : g1 < w3.heap.size := by rw [← hg1]; exact HK3.out.lt
  have n1 : g1 ≠ w3.heap.size := by omega
  have c0 := fun o => (hk4 o).cell 0
  have c1 := fun o => (hk4 o).cell 1
  have c2 := fun o => (hk4 o).cell 2
  have c3 := fun o => (hk4 o).cell 3
  have c4 := fun o => (hk4 o).cell 4
  have c5 := fun o => (hk4 o).cell 5
  clear hk4 hg1
  go_wp2_with fail
  obtain ⟨w4, hw4⟩ : ∃ w4, w3.alloc (.cells #[.string (str u.scheme), .string (str u.user), .string (str u.host), .int .i64 u.port, .slice Ap2 u.params.length cp2, .slice Ah2 u.headers.length ch2] 24) = w4 := ⟨_, rfl⟩
  have hal : Below w3.heap.size w3 w4 := hw4 ▸ hal4.out _
  rw [hw4]
  refine (Same_uri (u := u) (v := u) (Nat.le_refl _) (UriB.of (RdB.on HP3.out hal) (RdB.on HH3.out hal)) (UriB.of (RdB.on HQ3.out hal) (RdB.on HR3.out hal)) (by omega) (by omega) (by omega) (by omega)).mono ?_
  rintro e w5 ⟨rfl, hb5⟩
  rw [decide_eq_true (rfl : u = u)]
  have HB5 := Lib.hid ((HB3.out.trans (hal.mono HB3.out.size)).trans (hb5.mono (Nat.le_trans HB3.out.size hal.size)))
  clear hal hw4 hb5 c0 c1 c2 c3 c4 c5
  go_wp2_with fail
  refine (HA.out _).mono ?_
  rintro e w6 ⟨rfl, hb6⟩
  have HB6 := Lib.hid (HB5.out.trans (hb6.mono HB5.out.size))
  clear hb6
  go_wp2
  go_ret
  exact ⟨rfl, HB6.out⟩
end Go.Proofs.YtpnchfigehgkgaaDoor
namespace Go.Proofs.YtpnchfigehgkgaaDoor
set_option linter.unusedSimpArgs false
set_option linter.unusedVariables false
open Go.RowKit
theorem thenB {a b c : World} (h : Below a.heap.size a b) (k : Below b.heap.size b c) : Below a.heap.size a c := h.trans (k.mono h.size)
theorem printV_form (u : Uri) : ∃ S E, printV u = .tuple #[.string S, .int .i64 E] ∧ (checkE u = 0 → S = str (printT u) ∧ E = 0) ∧ (checkE u ≠ 0 → S = ⟨#[]⟩ ∧ E = checkE u) := by
  by_cases h : checkE u = 0
  · exact ⟨_, _, printV_ok h, fun _ => ⟨rfl, rfl⟩, fun q => absurd h q⟩
  · exact ⟨_, _, printV_no h, fun q => absurd q h, fun _ => ⟨rfl, rfl⟩⟩
/-- a law's argument that is a URI, boxed: what its cells hold from there on -/
theorem uri_box {u : Uri} {Ap Ah : Option Addr} {cp ch : Nat} {w w0 : World} (hw0 : w.alloc (.cells #[.string (str u.scheme), .string (str u.user), .string (str u.host), .int .i64 u.port, .slice Ap u.params.length cp, .slice Ah u.headers.length ch] 24) = w0) :
    Below w.heap.size w w0 ∧ ∀ W, Below w0.heap.size w0 W → W.cell? ⟨w.heap.size, 0, none⟩ = some (.string (str u.scheme)) ∧ W.cell? ⟨w.heap.size, 1, none⟩ = some (.string (str u.user)) ∧ W.cell? ⟨w.heap.size, 2, none⟩ = some (.string (str u.host)) ∧ W.cell? ⟨w.heap.size, 3, none⟩ = some (.int .i64 u.port) ∧ W.cell? ⟨w.heap.size, 4, none⟩ = some (.slice Ap u.params.length cp) ∧ W.cell? ⟨w.heap.size, 5, none⟩ = some (.slice Ah u.headers.length ch) := by
  subst hw0
  refine ⟨(Below.refl _ _).alloc (Nat.le_refl _) _, fun W h => ?_⟩
  have hk := (Blk.new w 24 #[.string (str u.scheme), .string (str u.user), .string (str u.host), .int .i64 u.port, .slice Ap u.params.length cp, .slice Ah u.headers.length ch]).fr (Fr.of_below (F := fun _ => False) h) (fun h => h)
  exact ⟨hk.cell 0, hk.cell 1, hk.cell 2, hk.cell 3, hk.cell 4, hk.cell 5⟩
set_option maxRecDepth 100000 in
set_option maxHeartbeats 4000000 in
theorem uriPrints_any {u : Uri} {vp vh : Value} {w : World} (hp : PrmB w w.heap.size vp u.params) (hh : PrmB w w.heap.size vh u.headers) (hs : UriS u) : Calls Tryd.prog 9 #[uriV u vp vh] w (TruePost w) := by
  obtain ⟨Ap, cp, rfl, hp⟩ := hp
  obtain ⟨Ah, ch, rfl, hh⟩ := hh
  unfold uriV
  obtain ⟨w0, hw0⟩ : ∃ w0, w.alloc (.cells #[.string (str u.scheme), .string (str u.user), .string (str u.host), .int .i64 u.port, .slice Ap u.params.length cp, .slice Ah u.headers.length ch] 24) = w0 := ⟨_, rfl⟩
  obtain ⟨hb0, hc⟩ := uri_box hw0
  have HB0 := Lib.hid hb0
  have HC := Lib.hid hc
  have HP : Hid (∀ W, Below w0.heap.size w0 W → PrmB W w.heap.size (.slice Ap u.params.length cp) u.params) := Lib.hid (fun W h => ⟨Ap, cp, rfl, (hp.below hb0).below (h.mono hb0.size)⟩)
  have HH : Hid (∀ W, Below w0.heap.size w0 W → PrmB W w.heap.size (.slice Ah u.headers.length ch) u.headers) := Lib.hid (fun W h => ⟨Ah, ch, rfl, (hh.below hb0).below (h.mono hb0.size)⟩)
  have HSZ : Hid (∀ W, Below w0.heap.size w0 W → w.heap.size ≤ W.heap.size) := Lib.hid (fun W h => Nat.le_trans hb0.size h.size)
  obtain ⟨S, E, hV, _⟩ := printV_form u
  have HPR : Hid (∀ W, Below w0.heap.size w0 W → Calls Tryd.prog 35 #[.agg #[.string (str u.scheme), .string (str u.user), .string (str u.host), .int .i64 u.port, .slice Ap u.params.length cp, .slice Ah u.headers.length ch]] W (fun e w' => e = .returned (.tuple #[.string S, .int .i64 E]) ∧ Below W.heap.size W w')) := Lib.hid (fun W h => by
    have q := Print_any (u := u) (HSZ.out W h) (HP.out W h) (HH.out W h) hs
    unfold PrintPost at q
    rw [hV] at q
    exact q)
  have HRP : Hid (∀ W, Below w0.heap.size w0 W → Calls Tryd.prog 39 #[.agg #[.string (str u.scheme), .string (str u.user), .string (str u.host), .int .i64 u.port, .slice Ap u.params.length cp, .slice Ah u.headers.length ch]] W (fun e w' => e = .returned (.tuple #[.string S, .int .i64 E]) ∧ Below W.heap.size W w')) := Lib.hid (fun W h => by
    have q := rPrint_any (u := u) (HSZ.out W h) (HP.out W h) (HH.out W h) hs
    unfold PrintPost at q
    rw [hV] at q
    exact q)
  have HCK : Hid (∀ W, Below w0.heap.size w0 W → Calls Tryd.prog 32 #[.agg #[.string (str u.scheme), .string (str u.user), .string (str u.host), .int .i64 u.port, .slice Ap u.params.length cp, .slice Ah u.headers.length ch]] W (fun e w' => e = .returned (.int .i64 (checkE u)) ∧ Below W.heap.size W w')) := Lib.hid (fun W h => Check_any (u := u) (HSZ.out W h) (HP.out W h) (HH.out W h) hs)
  have HRC : Hid (∀ W, Below w0.heap.size w0 W → Calls Tryd.prog 40 #[.agg #[.string (str u.scheme), .string (str u.user), .string (str u.host), .int .i64 u.port, .slice Ap u.params.length cp, .slice Ah u.headers.length ch]] W (fun e w' => e = .returned (.int .i64 (checkE u)) ∧ Below W.heap.size W w')) := Lib.hid (fun W h => rCheck_any (u := u) (HSZ.out W h) (HP.out W h) (HH.out W h) hs)
  have HA := Lib.hid awake03
  generalize checkE u = K at *
  clear hp hh hb0 hV HP HH hc
  obtain ⟨c0, c1, c2, c3, c4, c5⟩ := HC.out w0 (Below.refl _ _)
  go_enter Tryd.func9, Tryd.ntmps9
  go_wp2_with fail
  refine (HPR.out w0 (Below.refl _ _)).mono ?_
  rintro e w1 ⟨rfl, hb1⟩
  have HB1 := Lib.hid hb1
  clear c0 c1 c2 c3 c4 c5
  obtain ⟨c0, c1, c2, c3, c4, c5⟩ := HC.out w1 hb1
  clear hb1
  go_wp2_with fail
  refine (HRP.out w1 HB1.out).mono ?_
  rintro e w2 ⟨rfl, hb2⟩
  have HB2 := Lib.hid (thenB HB1.out hb2)
  clear c0 c1 c2 c3 c4 c5 hb2
  go_wp2_with fail
  go_region_held3 (fun w' => w'.cell? ⟨w.heap.size, 0, none⟩ = some (.string (str u.scheme)) ∧ w'.cell? ⟨w.heap.size, 1, none⟩ = some (.string (str u.user)) ∧ w'.cell? ⟨w.heap.size, 2, none⟩ = some (.string (str u.host)) ∧ w'.cell? ⟨w.heap.size, 3, none⟩ = some (.int .i64 u.port) ∧ w'.cell? ⟨w.heap.size, 4, none⟩ = some (.slice Ap u.params.length cp) ∧ w'.cell? ⟨w.heap.size, 5, none⟩ = some (.slice Ah u.headers.length ch))
    (first | exact HC.out _ HB2.out | exact HC.out _ HB2.out.drew | exact HC.out _ HX.out)
    (first | (go_at_call 32; first | ((with_reducible refine (HCK.out _ HX.out).mono ?_); rintro e w3 ⟨rfl, hb3⟩; have HX := Lib.hid (thenB HX.out hb3); clear hb3) | ((with_reducible refine (HCK.out _ HB2.out.drew).mono ?_); rintro e w3 ⟨rfl, hb3⟩; have HX := Lib.hid (thenB HB2.out.drew hb3); clear hb3)) | (go_at_call 40; first | ((with_reducible refine (HRC.out _ HX.out).mono ?_); rintro e w3 ⟨rfl, hb3⟩; have HX := Lib.hid (thenB HX.out hb3); clear hb3) | ((with_reducible refine (HRC.out _ HB2.out.drew).mono ?_); rintro e w3 ⟨rfl, hb3⟩; have HX := Lib.hid (thenB HB2.out.drew hb3); clear hb3)) | (go_at_call 24; (with_reducible refine (HA.out _).mono ?_); rintro e w4 ⟨rfl, hb4⟩; have HX := Lib.hid (thenB HX.out hb4); clear hb4))
  all_goals
    go_wp2
    go_ret
    exact ⟨rfl, thenB HB0.out HX.out⟩
set_option maxRecDepth 100000 in
set_option maxHeartbeats 4000000 in
theorem uriBack_any {u : Uri} {vp vh : Value} {w : World} (hp : PrmB w w.heap.size vp u.params) (hh : PrmB w w.heap.size vh u.headers) (hs : UriS u) : Calls Tryd.prog 10 #[uriV u vp vh] w (TruePost w) := by
  obtain ⟨Ap, cp, rfl, hp⟩ := hp
  obtain ⟨Ah, ch, rfl, hh⟩ := hh
  unfold uriV
  obtain ⟨w0, hw0⟩ : ∃ w0, w.alloc (.cells #[.string (str u.scheme), .string (str u.user), .string (str u.host), .int .i64 u.port, .slice Ap u.params.length cp, .slice Ah u.headers.length ch] 24) = w0 := ⟨_, rfl⟩
  obtain ⟨hb0, hc⟩ := uri_box hw0
  have HB0 := Lib.hid hb0
  have HC := Lib.hid hc
  have HPB : Hid (∀ W, Below w0.heap.size w0 W → RdB W w.heap.size 3 u.params.length Ap (rows parC u.params)) := Lib.hid (fun W h => (hp.below hb0).below (h.mono hb0.size))
  have HHB : Hid (∀ W, Below w0.heap.size w0 W → RdB W w.heap.size 3 u.headers.length Ah (rows parC u.headers)) := Lib.hid (fun W h => (hh.below hb0).below (h.mono hb0.size))
  have HP : Hid (∀ W, Below w0.heap.size w0 W → PrmB W w.heap.size (.slice Ap u.params.length cp) u.params) := Lib.hid (fun W h => ⟨Ap, cp, rfl, HPB.out W h⟩)
  have HH : Hid (∀ W, Below w0.heap.size w0 W → PrmB W w.heap.size (.slice Ah u.headers.length ch) u.headers) := Lib.hid (fun W h => ⟨Ah, ch, rfl, HHB.out W h⟩)
  have HSZ : Hid (∀ W, Below w0.heap.size w0 W → w.heap.size ≤ W.heap.size) := Lib.hid (fun W h => Nat.le_trans hb0.size h.size)
  obtain ⟨S, E, hV, hVok, hVno⟩ := printV_form u
  have HPR : Hid (∀ W, Below w0.heap.size w0 W → Calls Tryd.prog 35 #[.agg #[.string (str u.scheme), .string (str u.user), .string (str u.host), .int .i64 u.port, .slice Ap u.params.length cp, .slice Ah u.headers.length ch]] W (fun e w' => e = .returned (.tuple #[.string S, .int .i64 E]) ∧ Below W.heap.size W w')) := Lib.hid (fun W h => by
    have q := Print_any (u := u) (HSZ.out W h) (HP.out W h) (HH.out W h) hs
    unfold PrintPost at q
    rw [hV] at q
    exact q)
  have HA := Lib.hid awake03
  have HSL := Lib.hid hs
  obtain ⟨c0, c1, c2, c3, c4, c5⟩ := HC.out w0 (Below.refl _ _)
  clear hp hh hb0 hV HP HH hc hs
  by_cases hck : checkE u = 0
  · obtain ⟨rfl, rfl⟩ := hVok hck
    have HW := Lib.hid (fun w => parse_is (s := str (printT u)) (parse_print hck) (by have := print_len hck; show (printT u).length ≤ _; omega) w)
    have hll : u.params.length ≤ 16 ∧ u.headers.length ≤ 16 := by
      obtain ⟨_, _, _, _, _, h6, h7, _⟩ := check_parts hck
      exact ⟨list_len h6, list_len h7⟩
    simp only at HW
    clear hVok hVno hck
    go_enter Tryd.func10, Tryd.ntmps10
    go_wp2_with fail
    refine (HPR.out w0 (Below.refl _ _)).mono ?_
    rintro e w1 ⟨rfl, hb1⟩
    have HB1 := Lib.hid hb1
    clear c0 c1 c2 c3 c4 c5 hb1
    go_wp2_with fail
    refine (HW.out _).mono ?_
    rintro e w3 ⟨Ap2, cp2, Ah2, ch2, rfl, hp2, hh2, hb3⟩
    have HB3 := Lib.hid (thenB HB1.out hb3)
    have HQ3 := Lib.hid hp2
    have HR3 := Lib.hid hh2
    clear hb3 hp2 hh2
    have HAL : Hid (∀ o, Below w0.heap.size w0 (w3.alloc o)) := Lib.hid (fun o => HB3.out.alloc HB3.out.size o)
    have HALr : Hid (∀ o, Below w3.heap.size w3 (w3.alloc o)) := Lib.hid (fun o => (Below.refl _ _).alloc (Nat.le_refl _) o)
    have hcc := fun o => HC.out _ (HAL.out o)
    have c0 := fun o => (hcc o).1
    have c1 := fun o => (hcc o).2.1
    have c2 := fun o => (hcc o).2.2.1
    have c3 := fun o => (hcc o).2.2.2.1
    have c4 := fun o => (hcc o).2.2.2.2.1
    have c5 := fun o => (hcc o).2.2.2.2.2
    clear hcc
    go_wp2_with fail
    obtain ⟨w4, hw4⟩ : ∃ w4, w3.alloc (.cells #[.string (str u.scheme), .string (str u.user), .string (str u.host), .int .i64 u.port, .slice Ap2 u.params.length cp2, .slice Ah2 u.headers.length ch2] 24) = w4 := ⟨_, rfl⟩
    have hal : Below w3.heap.size w3 w4 := hw4 ▸ HALr.out _
    have hal0 : Below w0.heap.size w0 w4 := hw4 ▸ HAL.out _
    rw [hw4]
    have hup : ∀ {n : Nat} {A : Option Addr} {xs : List Value}, RdB w4 w.heap.size 3 n A xs → RdB w4 w4.heap.size 3 n A xs := fun h => ⟨h.1, fun hn => by
      obtain ⟨gb, off, e, h1, h2⟩ := h.2 hn
      exact ⟨gb, off, e, by have := HSZ.out w4 hal0; omega, h2⟩⟩
    refine (Same_uri (u := u) (v := u) (Nat.le_refl _) (UriB.of (hup (HPB.out w4 hal0)) (hup (HHB.out w4 hal0))) (UriB.of (RdB.on HQ3.out hal) (RdB.on HR3.out hal)) (by omega) (by omega) (by omega) (by omega)).mono ?_
    rintro e w5 ⟨rfl, hb5⟩
    rw [decide_eq_true (rfl : u = u)]
    have HB5 := Lib.hid (thenB hal0 hb5)
    clear hal hal0 hw4 hb5 c0 c1 c2 c3 c4 c5
    go_wp2_with fail
    refine (HA.out _).mono ?_
    rintro e w6 ⟨rfl, hb6⟩
    have HB6 := Lib.hid (thenB HB0.out (thenB HB5.out hb6))
    clear hb6
    go_wp2
    go_ret
    exact ⟨rfl, HB6.out⟩
  · obtain ⟨rfl, rfl⟩ := hVno hck
    have qck : (checkE u != 0) = true := by simpa using hck
    clear hVok hVno hck
    go_enter Tryd.func10, Tryd.ntmps10
    go_wp2_with fail
    refine (HPR.out w0 (Below.refl _ _)).mono ?_
    rintro e w1 ⟨rfl, hb1⟩
    have HB1 := Lib.hid hb1
    clear c0 c1 c2 c3 c4 c5 hb1
    go_wp2_with fail
    refine (HA.out _).mono ?_
    rintro e w6 ⟨rfl, hb6⟩
    have HB6 := Lib.hid (thenB HB0.out (thenB HB1.out hb6))
    clear hb6
    go_wp2
    go_ret
    exact ⟨rfl, HB6.out⟩
end Go.Proofs.YtpnchfigehgkgaaDoor
namespace Go.Proofs.YtpnchfigehgkgaaDoor
set_option linter.unusedSimpArgs false
set_option linter.unusedVariables false
open Go.RowKit
theorem uriS_ok {u : Uri} (h : checkE u = 0) : UriS u := by
  obtain ⟨h1, h2, h3, h4, h5, h6, h7, _⟩ := check_parts h
  have a := scheme_len h1
  have b := host_len h3
  have c := list_len h6
  have d := list_len h7
  have e : ∀ p, parOk p = true → parS p := fun p h => by
    unfold parOk at h
    simp only [Bool.and_eq_true, decide_eq_true_eq] at h
    exact ⟨by have := h.1.1.2; omega, by have := h.1.2; omega⟩
  exact ⟨by omega, by omega, by omega, by omega, by omega, by omega, fun p hp => e p (list_ok h6 p hp), fun p hp => e p (list_ok h7 p hp)⟩
set_option maxRecDepth 100000 in
set_option maxHeartbeats 4000000 in
theorem uriOnce_any (s : ByteArray) (w : World) (hs : s.size ≤ 100000000) : Calls Tryd.prog 11 #[.string s] w (TruePost w) := by
  have HA := Lib.hid awake03
  rcases parse_ok (s := s.data.toList) (v := (parseE s.data.toList).1) (e := (parseE s.data.toList).2) rfl with ⟨he, hck⟩ | ⟨he, hno⟩
  · have hr : parseE s.data.toList = ((parseE s.data.toList).1, 0) := by rw [← he]
    generalize (parseE s.data.toList).1 = u at *
    have HW1 := Lib.hid (fun w => parse_is (s := s) hr hs w)
    have HW2 := Lib.hid (fun w => parse_is (s := str (printT u)) (parse_print hck) (by have := print_len hck; show (printT u).length ≤ _; omega) w)
    simp only at HW1 HW2
    have HS := Lib.hid (uriS_ok hck)
    have hll : u.params.length ≤ 16 ∧ u.headers.length ≤ 16 := by
      obtain ⟨_, _, _, _, _, h6, h7, _⟩ := check_parts hck
      exact ⟨list_len h6, list_len h7⟩
    have HPR : Hid (∀ (W : World) Ap cp Ah ch, RdB W W.heap.size 3 u.params.length Ap (rows parC u.params) → RdB W W.heap.size 3 u.headers.length Ah (rows parC u.headers) → Calls Tryd.prog 35 #[.agg #[.string (str u.scheme), .string (str u.user), .string (str u.host), .int .i64 u.port, .slice Ap u.params.length cp, .slice Ah u.headers.length ch]] W (fun e w' => e = .returned (.tuple #[.string (str (printT u)), .int .i64 0]) ∧ Below W.heap.size W w')) := Lib.hid (fun W Ap cp Ah ch h1 h2 => by
      have q := Print_any (u := u) (vp := .slice Ap u.params.length cp) (vh := .slice Ah u.headers.length ch) (Nat.le_refl _) ⟨Ap, cp, rfl, h1⟩ ⟨Ah, ch, rfl, h2⟩ HS.out
      unfold PrintPost at q
      rw [printV_ok hck] at q
      exact q)
    have HCK : Hid (∀ (W : World) Ap cp Ah ch, RdB W W.heap.size 3 u.params.length Ap (rows parC u.params) → RdB W W.heap.size 3 u.headers.length Ah (rows parC u.headers) → Calls Tryd.prog 32 #[.agg #[.string (str u.scheme), .string (str u.user), .string (str u.host), .int .i64 u.port, .slice Ap u.params.length cp, .slice Ah u.headers.length ch]] W (fun e w' => e = .returned (.int .i64 0) ∧ Below W.heap.size W w')) := Lib.hid (fun W Ap cp Ah ch h1 h2 => by
      have q := Check_any (u := u) (vp := .slice Ap u.params.length cp) (vh := .slice Ah u.headers.length ch) (Nat.le_refl _) ⟨Ap, cp, rfl, h1⟩ ⟨Ah, ch, rfl, h2⟩ HS.out
      unfold CheckPost at q
      rw [hck] at q
      exact q)
    clear hr he hck
    generalize hpt : printT u = PT at *
    clear hpt
    go_enter Tryd.func11, Tryd.ntmps11
    go_wp2_with fail
    refine (HW1.out _).mono ?_
    rintro e w1 ⟨Ap, cp, Ah, ch, rfl, hp, hh, hb1⟩
    have HB1 := Lib.hid hb1
    have HP1 := Lib.hid hp
    have HH1 := Lib.hid hh
    clear hb1 hp hh
    go_wp2_with fail
    obtain ⟨w2, hw2⟩ : ∃ w2, w1.alloc (.cells #[.string (str u.scheme), .string (str u.user), .string (str u.host), .int .i64 u.port, .slice Ap u.params.length cp, .slice Ah u.headers.length ch] 24) = w2 := ⟨_, rfl⟩
    obtain ⟨hb2, hc⟩ := uri_box hw2
    have HB2 := Lib.hid (thenB HB1.out hb2)
    have HC := Lib.hid hc
    have HP2 := Lib.hid (RdB.on HP1.out hb2)
    have HH2 := Lib.hid (RdB.on HH1.out hb2)
    obtain ⟨g1, hg1⟩ : ∃ g1, w1.heap.size = g1 := ⟨_, rfl⟩
    have hg2 : g1 < w2.heap.size := by rw [← hw2, ← hg1]; simp
    rw [hg1] at HC
    rw [hw2, hg1]
    clear hw2 hb2 hc hg1
    refine (HPR.out w2 Ap cp Ah ch HP2.out HH2.out).mono ?_
    rintro e w3 ⟨rfl, hb3⟩
    have HR3 := Lib.hid hb3
    have HB3 := Lib.hid (thenB HB2.out hb3)
    have HP3 := Lib.hid (RdB.on HP2.out hb3)
    have HH3 := Lib.hid (RdB.on HH2.out hb3)
    clear hb3
    go_wp2_with fail
    refine (HW2.out _).mono ?_
    rintro e w4 ⟨Ap2, cp2, Ah2, ch2, rfl, hp2, hh2, hb4⟩
    have HR4 := Lib.hid (thenB HR3.out hb4)
    have HB4 := Lib.hid (thenB HB3.out hb4)
    have HP4 := Lib.hid (RdB.on HP3.out hb4)
    have HH4 := Lib.hid (RdB.on HH3.out hb4)
    have HQ4 := Lib.hid hp2
    have HS4 := Lib.hid hh2
    clear hb4 hp2 hh2
    go_wp2_with fail
    obtain ⟨w5, hw5⟩ : ∃ w5, w4.alloc (.cells #[.string (str u.scheme), .string (str u.user), .string (str u.host), .int .i64 u.port, .slice Ap2 u.params.length cp2, .slice Ah2 u.headers.length ch2] 24) = w5 := ⟨_, rfl⟩
    obtain ⟨hb5, hc5⟩ := uri_box hw5
    have HC5 := Lib.hid hc5
    have HR5 := Lib.hid (thenB HR4.out hb5)
    have HB5 := Lib.hid (thenB HB4.out hb5)
    have HP5 := Lib.hid (RdB.on HP4.out hb5)
    have HH5 := Lib.hid (RdB.on HH4.out hb5)
    have HQ5 := Lib.hid (RdB.on HQ4.out hb5)
    have HS5 := Lib.hid (RdB.on HS4.out hb5)
    obtain ⟨g2, hg3⟩ : ∃ g2, w4.heap.size = g2 := ⟨_, rfl⟩
    rw [hg3] at HC5
    rw [hw5, hg3]
    clear hw5 hb5 hc5 hg3
    refine (HPR.out w5 Ap2 cp2 Ah2 ch2 HQ5.out HS5.out).mono ?_
    rintro e w6 ⟨rfl, hb6⟩
    have HR6 := Lib.hid (thenB HR5.out hb6)
    have HB6 := Lib.hid (thenB HB5.out hb6)
    have HP6 := Lib.hid (RdB.on HP5.out hb6)
    have HH6 := Lib.hid (RdB.on HH5.out hb6)
    have HQ6 := Lib.hid (RdB.on HQ5.out hb6)
    have HS6 := Lib.hid (RdB.on HS5.out hb6)
    obtain ⟨c0, c1, c2, c3, c4, c5⟩ := HC.out w6 HR6.out
    obtain ⟨d0, d1, d2, d3, d4, d5⟩ := HC5.out w6 hb6
    clear hb6
    go_wp2_with fail
    refine (Same_uri (u := u) (v := u) (Nat.le_refl _) (UriB.of HP6.out HH6.out) (UriB.of HQ6.out HS6.out) (by omega) (by omega) (by omega) (by omega)).mono ?_
    rintro e w7 ⟨rfl, hb7⟩
    rw [decide_eq_true (rfl : u = u)]
    have HB7 := Lib.hid (thenB HB6.out hb7)
    have HP7 := Lib.hid (RdB.on HP6.out hb7)
    have HH7 := Lib.hid (RdB.on HH6.out hb7)
    have hr7 := thenB HR6.out hb7
    clear c0 c1 c2 c3 c4 c5 d0 d1 d2 d3 d4 d5 hb7
    obtain ⟨c0, c1, c2, c3, c4, c5⟩ := HC.out w7 hr7
    clear hr7
    go_wp2_with fail
    refine (HCK.out w7 Ap cp Ah ch HP7.out HH7.out).mono ?_
    rintro e w8 ⟨rfl, hb8⟩
    have HB8 := Lib.hid (thenB HB7.out hb8)
    clear c0 c1 c2 c3 c4 c5 hb8
    go_wp2_with fail
    refine (HA.out _).mono ?_
    rintro e w9 ⟨rfl, hb9⟩
    have HB9 := Lib.hid (thenB HB8.out hb9)
    clear hb9
    go_wp2
    go_ret
    exact ⟨rfl, HB9.out⟩
  · have hr : parseE s.data.toList = (noUri, (parseE s.data.toList).2) := by rw [← hno]
    generalize (parseE s.data.toList).2 = er at *
    have HW1 := Lib.hid (fun w => parse_is (s := s) hr hs w)
    unfold noUri at HW1
    simp only at HW1
    have qer : (er != 0) = true := by simpa using he
    have qe : (str []).toList.isEmpty = true := by rw [Lib.toList_data]; rfl
    clear hr he hno
    go_enter Tryd.func11, Tryd.ntmps11
    go_wp2_with fail
    refine (HW1.out _).mono ?_
    rintro e w1 ⟨Ap, cp, Ah, ch, rfl, hp, hh, hb1⟩
    have HB1 : Hid (∀ o, Below w.heap.size w (w1.alloc o)) := Lib.hid (fun o => hb1.alloc hb1.size o)
    clear hb1 hp hh
    go_wp2_with fail
    refine (HA.out _).mono ?_
    rintro e w9 ⟨rfl, hb9⟩
    have HB9 := Lib.hid (thenB (HB1.out _) hb9)
    clear hb9
    go_wp2
    go_ret
    exact ⟨rfl, HB9.out⟩
theorem leq32 (c : UInt8) (h : goodB c = true) : ¬ ((c.toNat : Int) ≤ 32) ∧ ¬ ((127 : Int) ≤ c.toNat) ∧ c ∉ bads := by
  unfold goodB at h
  simp only [Bool.and_eq_true, decide_eq_true_eq] at h
  obtain ⟨⟨h1, h2⟩, h3⟩ := h
  have a : (32 : UInt8).toNat < c.toNat := h1
  have b : c.toNat < (127 : UInt8).toNat := h2
  have e1 : (32 : UInt8).toNat = 32 := rfl
  have e2 : (127 : UInt8).toNat = 127 := rfl
  exact ⟨by omega, by omega, h3⟩
set_option maxRecDepth 100000 in
set_option maxHeartbeats 4000000 in
theorem uriSigns_any {u : Uri} {vp vh : Value} {w : World} (hp : PrmB w w.heap.size vp u.params) (hh : PrmB w w.heap.size vh u.headers) (hs : UriS u) : Calls Tryd.prog 13 #[uriV u vp vh] w (TruePost w) := by
  obtain ⟨Ap, cp, rfl, hp⟩ := hp
  obtain ⟨Ah, ch, rfl, hh⟩ := hh
  unfold uriV
  obtain ⟨w0, hw0⟩ : ∃ w0, w.alloc (.cells #[.string (str u.scheme), .string (str u.user), .string (str u.host), .int .i64 u.port, .slice Ap u.params.length cp, .slice Ah u.headers.length ch] 24) = w0 := ⟨_, rfl⟩
  obtain ⟨hb0, hc⟩ := uri_box hw0
  have HB0 := Lib.hid hb0
  obtain ⟨S, E, hV, hVok, hVno⟩ := printV_form u
  have HPR : Hid (Calls Tryd.prog 35 #[.agg #[.string (str u.scheme), .string (str u.user), .string (str u.host), .int .i64 u.port, .slice Ap u.params.length cp, .slice Ah u.headers.length ch]] w0 (fun e w' => e = .returned (.tuple #[.string S, .int .i64 E]) ∧ Below w0.heap.size w0 w')) := Lib.hid (by
    have q := Print_any (u := u) (vp := .slice Ap u.params.length cp) (vh := .slice Ah u.headers.length ch) hb0.size ⟨Ap, cp, rfl, hp.below hb0⟩ ⟨Ah, ch, rfl, hh.below hb0⟩ hs
    unfold PrintPost at q
    rw [hV] at q
    exact q)
  have HA := Lib.hid awake03
  obtain ⟨c0, c1, c2, c3, c4, c5⟩ := hc w0 (Below.refl _ _)
  clear hp hh hb0 hV hc hs
  by_cases hck : checkE u = 0
  · obtain ⟨rfl, rfl⟩ := hVok hck
    have hgood := print_good hck
    have h44 := print_no44 hck
    have hlen := print_len hck
    clear hVok hVno hck
    generalize printT u = PT at *
    have HG := Lib.hid hgood
    have HCUT : Hid (∀ W, Calls Tryd.prog 41 #[.string (str PT), .int .u8 64] W fun e w' => e = .returned (.tuple #[.string (str (cutT 64 PT).1), .string (str (cutT 64 PT).2.1), .bool (cutT 64 PT).2.2]) ∧ ∃ n, w' = W.drewN n) := Lib.hid (fun W => rCut_any (str PT) 64 W (by show PT.length ≤ _; omega))
    have hcl := cut_lens 64 PT
    generalize cutT 64 PT = t at *
    obtain ⟨a, bh, is⟩ := t
    simp only at h44 HCUT hcl
    have HIN : Hid (∀ X : T, (44 : UInt8) ∉ X → inB (str X) 44 = false) := Lib.hid (fun X h => decide_eq_false h)
    have hsz : (str PT).size = PT.length := rfl
    clear hgood
    go_enter Tryd.func13, Tryd.ntmps13
    go_wp2_with fail
    refine HPR.out.mono ?_
    rintro e w1 ⟨rfl, hb1⟩
    have HB1 := Lib.hid (thenB HB0.out hb1)
    clear c0 c1 c2 c3 c4 c5 hb1
    go_wp2_with fail
    refine (HCUT.out _).mono ?_
    rintro e w2 ⟨rfl, n, rfl⟩
    have HB2 := Lib.hid (below_drewN HB1.out n)
    have hXb : ∃ X : T, (44 : UInt8) ∉ X ∧ X.length ≤ PT.length ∧ X = if is then bh else PT := by
      cases is with
      | true => exact ⟨bh, by simpa using h44, by omega, rfl⟩
      | false => exact ⟨PT, by simpa using h44, by omega, rfl⟩
    obtain ⟨X, hX, hXl, hXe⟩ := hXb
    have HH : Hid (∀ W, Calls Tryd.prog 42 #[.string (str X), .int .u8 44] W fun e w' => e = .returned (.bool false) ∧ W = w') := Lib.hid (fun W => (rHas_any (str X) 44 W (by show X.length ≤ _; omega)).mono (fun e w' h => ⟨by rw [h.1, HIN.out X hX], h.2⟩))
    have HBD : Hid (∀ (c : UInt8), c ∉ bads → ∀ W, Calls Tryd.prog 42 #[.string ⟨#[34, 60, 62, 92, 123, 125, 124, 94]⟩, .int .u8 (c.toNat : Int)] W fun e w' => e = .returned (.bool false) ∧ W = w') := Lib.hid (fun c hc W => (rHas_any ⟨#[34, 60, 62, 92, 123, 125, 124, 94]⟩ c W (by show 8 ≤ _; omega)).mono (fun e w' h => ⟨by rw [h.1]; unfold inB; rw [decide_eq_false (show c ∉ (⟨#[34, 60, 62, 92, 123, 125, 124, 94]⟩ : ByteArray).data.toList from hc)], h.2⟩))
    clear h44 hX hcl
    go_upto_if 24 with (fail)
    go_cut [6] (fun b wx => b = .string (str X) ∧ wx = w1.drewN n)
    case first =>
      cases is with
      | true =>
        have e : X = bh := hXe
        subst e
        go_wp2_with fail
        go_meet
        exact ⟨rfl, rfl⟩
      | false =>
        have e : X = PT := hXe
        subst e
        go_wp2_with fail
        go_meet
        exact ⟨rfl, rfl⟩
    case rest =>
      obtain ⟨rfl, rfl⟩ := hcut
      clear hXe
      go_wp2_with fail
      go_loopw [8] (fun i wr => ∃ j : Nat, j ≤ PT.length ∧ i = .int .i64 j ∧ wr = w1.drewN n) (fun i _ => PT.length - (intOf i).toNat)
      case atStart => exact ⟨0, by omega, rfl, rfl⟩
      case round =>
        obtain ⟨j, hj, rfl, rfl⟩ := hrel
        by_cases hlt : j < PT.length
        · have x0 : (0 : Int) ≤ j := by omega
          have x1 : (j : Int) < (str PT).size := by rw [hsz]; omega
          have x2 : (j : Int) < PT.length := by omega
          have hjs : j < (str PT).size := by rw [hsz]; omega
          have hg : goodB ((str PT)[j]) = true := HG.out _ (by show PT[j] ∈ PT; exact List.getElem_mem hlt)
          obtain ⟨l1, l2, l3⟩ := leq32 _ hg
          have HB' := Lib.hid (HBD.out _ l3)
          clear hg l3
          go_wp2_with fail
          refine (HB'.out _).mono ?_
          rintro e w' ⟨rfl, hw⟩
          subst hw
          go_wp2
          go_roundw
          case rel => exact ⟨j + 1, by omega, by go_num, by first | trivial | rfl⟩
          case measure => simp [intOf] <;> omega
        · have x1 : ¬ (j : Int) < (str PT).size := by rw [hsz]; omega
          have x2 : ¬ (j : Int) < PT.length := by omega
          go_wp2_with fail
          refine (HH.out _).mono ?_
          rintro e w' ⟨rfl, hw⟩
          subst hw
          go_wp2_with fail
          refine (HA.out _).mono ?_
          rintro e w6 ⟨rfl, hb6⟩
          have HB6 := Lib.hid (thenB HB2.out hb6)
          clear hb6
          go_wp2
          go_ret
          exact ⟨rfl, HB6.out⟩
  · obtain ⟨rfl, rfl⟩ := hVno hck
    have qck : (checkE u != 0) = true := by simpa using hck
    clear hVok hVno hck
    go_enter Tryd.func13, Tryd.ntmps13
    go_wp2_with fail
    refine HPR.out.mono ?_
    rintro e w1 ⟨rfl, hb1⟩
    have HB1 := Lib.hid (thenB HB0.out hb1)
    clear c0 c1 c2 c3 c4 c5 hb1
    go_wp2_with fail
    refine (HA.out _).mono ?_
    rintro e w6 ⟨rfl, hb6⟩
    have HB6 := Lib.hid (thenB HB1.out hb6)
    clear hb6
    go_wp2
    go_ret
    exact ⟨rfl, HB6.out⟩
end Go.Proofs.YtpnchfigehgkgaaDoor
namespace Go.Proofs.YtpnchfigehgkgaaDoor
set_option linter.unusedSimpArgs false
set_option linter.unusedVariables false
open Go.RowKit
def bareUU (u : Uri) : Uri := ⟨u.scheme, [], u.host, u.port, [], []⟩
theorem uriS_bare {u : Uri} (h : UriS u) : UriS (bareUU u) := ⟨h.scheme, by simp [bareUU], h.host, h.port, by simp [bareUU], by simp [bareUU], by simp [bareUU], by simp [bareUU]⟩
/-- whether the letter at a place is to be a capital -/
def upB (up : Nat) (j : Nat) : Bool := bits .and .u64 ((up : Int) / 2 ^ (j % 64)) 1 == 1
def upAt (f : Nat → Bool) (l : T) (k j : Nat) : UInt8 := if j < k then up1 (f j) (l.getD j 0) else l.getD j 0
structure LetRel (f : Nat → Bool) (l : T) (w : World) (g k : Nat) (wr : World) : Prop where
  cell : ∀ j, j < l.length → wr.cell? ⟨g, j, none⟩ = some (.int .u8 ((upAt f l k j).toNat : Int))
  fz : ∀ j, j < l.length → wr.frozen? ⟨g, j, none⟩ = false
  be : Below w.heap.size w wr
  ge : w.heap.size ≤ g
theorem LetRel.same {f : Nat → Bool} {l : T} {w wr : World} {g k : Nat} (H : LetRel f l w g k wr) (hk : k < l.length) (he : up1 (f k) l[k] = l[k]) : LetRel f l w g (k + 1) wr :=
  ⟨fun j hj => by
    rw [H.cell j hj]
    unfold upAt
    by_cases e : j = k
    · subst e
      rw [if_neg (by omega), if_pos (by omega)]
      simp [List.getD, hk, he]
    · by_cases q : j < k
      · rw [if_pos q, if_pos (by omega)]
      · rw [if_neg q, if_neg (by omega)], H.fz, H.be, H.ge⟩
theorem LetRel.step {f : Nat → Bool} {l : T} {w wr : World} {g k : Nat} (H : LetRel f l w g k wr) (hk : k < l.length) {x : Int} (hx : x = ((up1 (f k) l[k]).toNat : Int)) : LetRel f l w g (k + 1) (wr.setCell ⟨g, k, none⟩ (.int .u8 x)) where
  cell := fun j hj => by
    have hc := H.cell j hj
    subst hx
    by_cases e : j = k
    · subst e
      have h1 : upAt f l (j + 1) j = up1 (f j) l[j] := by
        unfold upAt
        rw [if_pos (by omega)]
        simp [List.getD, hj]
      rw [h1]
      exact World.cell?_setCell_same' _ _ _ (by rw [hc]; rfl)
    · refine (World.cell?_setCell_other (w := wr) (a := ⟨g, k, none⟩) (b := ⟨g, j, none⟩) (v := _) (by intro q; injection q with _ q _; exact e q.symm)).trans ?_
      rw [hc]
      unfold upAt
      by_cases q : j < k
      · rw [if_pos q, if_pos (by omega)]
      · rw [if_neg q, if_neg (by omega)]
  fz := fun j hj => by rw [World.frozen?_setCell]; exact H.fz j hj
  be := H.be.setCell H.ge _
  ge := H.ge
theorem upT_at (f : Nat → Bool) : ∀ (l : T) (i j : Nat), (upT f i l)[j]? = (l[j]?).map (up1 (f (i + j)))
  | [], _, _ => by simp [upT]
  | c :: r, i, 0 => by simp [upT]
  | c :: r, i, j + 1 => by
    show (upT f (i + 1) r)[j]? = _
    rw [upT_at f r (i + 1) j, List.getElem?_cons_succ, show i + 1 + j = i + (j + 1) by omega]
theorem up_sub {c : UInt8} (h : 97 ≤ c ∧ c ≤ 122) : (((c.toNat : Int) - 97) % 256 + 65) % 256 = ((up1 true c).toNat : Int) := by
  have := all_u8 (p := fun c => decide (97 ≤ c ∧ c ≤ 122 → (((c.toNat : Int) - 97) % 256 + 65) % 256 = ((up1 true c).toNat : Int))) (by decide +kernel) c
  exact of_decide_eq_true this h
set_option maxRecDepth 100000 in
set_option maxHeartbeats 4000000 in
theorem uriLetters_any {u : Uri} {vp vh : Value} {w : World} (hp : PrmB w w.heap.size vp u.params) (hh : PrmB w w.heap.size vh u.headers) (hs : UriS u) (up : Nat) (hup : up < 18446744073709551616) : Calls Tryd.prog 12 #[uriV u vp vh, .int .u64 (up : Int)] w (TruePost w) := by
  obtain ⟨Ap, cp, rfl, hp⟩ := hp
  obtain ⟨Ah, ch, rfl, hh⟩ := hh
  unfold uriV
  have hbox := Blk.new w 24 #[.string (str u.scheme), .string (str u.user), .string (str u.host), .int .i64 u.port, .slice Ap u.params.length cp, .slice Ah u.headers.length ch]
  have HA := Lib.hid awake03
  have HPR : Hid (∀ W, Calls Tryd.prog 35 #[.agg #[.string (str u.scheme), .string ⟨#[]⟩, .string (str u.host), .int .i64 u.port, .slice none 0 0, .slice none 0 0]] W (fun e w' => e = .returned (printV (bareUU u)) ∧ Below W.heap.size W w')) := Lib.hid (fun W => Print_any (u := bareUU u) (vp := .slice none 0 0) (vh := .slice none 0 0) (Nat.le_refl _) (PrmB.nil _ _) (PrmB.nil _ _) (uriS_bare hs))
  obtain ⟨S, E, hV, hVok, hVno⟩ := printV_form (bareUU u)
  rw [hV] at HPR
  clear hp hh hs hV
  obtain ⟨w0, hw0⟩ : ∃ w0, w.alloc (.cells #[.string (str u.scheme), .string ⟨#[]⟩, .string (str u.host), .int .i64 u.port, .slice none 0 0, .slice none 0 0] 24) = w0 := ⟨_, rfl⟩
  have HW0 := Lib.hid hw0
  obtain ⟨hb0, hc⟩ := uri_box (u := bareUU u) (Ap := none) (Ah := none) (cp := 0) (ch := 0) hw0
  have HB0 := Lib.hid hb0
  have HC := Lib.hid hc
  clear hw0 hb0 hc hbox
  by_cases hck : checkE (bareUU u) = 0
  · obtain ⟨rfl, rfl⟩ := hVok hck
    have hPU : Hid (parseE (upT (upB up) 0 (printT (bareUU u))) = (bareUU u, 0)) := Lib.hid (parse_up hck rfl rfl rfl _)
    have hlen := print_len hck
    clear hVok hVno hck
    generalize hPT : printT (bareUU u) = PT at *
    clear hPT
    have hul := up_len (upB up) PT 0
    have HW := Lib.hid (fun w => parse_is (s := str (upT (upB up) 0 PT)) hPU.out (by show (upT (upB up) 0 PT).length ≤ _; omega) w)
    unfold bareUU at HW HC
    simp only at HW
    have hsz : (str PT).size = PT.length := rfl
    go_enter Tryd.func12, Tryd.ntmps12
    go_wp2_with fail
    rw [HW0.out]
    refine (HPR.out w0).mono ?_
    rintro e w1 ⟨rfl, hb1⟩
    have HB1 := Lib.hid hb1
    clear hb1
    have hcv := Lib.run_convert_string_bytes (P := Tryd.prog) w1 9 49 5 (str PT) Tryd.underlying9 Tryd.underlying49 Tryd.underlying5
    have h0 : LetRel (upB up) PT w1 w1.heap.size 0 (Lib.bytesWorld w1 5 (str PT)) := by
      refine ⟨fun j hj => ?_, fun j hj => ?_, ⟨rfl, rfl, rfl, by rw [Lib.bytesWorld_size]; omega, fun k hk => Lib.bytesWorld_at_old w1 _ _ k hk⟩, Nat.le_refl _⟩
      · rw [Lib.bytesWorld_cell w1 _ (str PT) j hj]; rfl
      · simp only [World.frozen?, Lib.bytesWorld_at_new]
        have : (str PT).size ≤ (Lib.bytesCells w1 5 (str PT)).size := by unfold Lib.bytesCells; simp
        simp
        omega
    generalize Lib.bytesWorld w1 5 (str PT) = W1 at *
    generalize grownCap w1 (str PT).size 0 5 = cap at *
    have H0 := Lib.hid h0
    clear h0
    obtain ⟨g, hg⟩ : ∃ g, w1.heap.size = g := ⟨_, rfl⟩
    rw [hg] at hcv H0
    clear hg
    go_wp2_with fail
    go_loopw [8] (fun i wr => ∃ k : Nat, k ≤ PT.length ∧ i = .int .i64 k ∧ LetRel (upB up) PT w1 g k wr) (fun i _ => PT.length - (intOf i).toNat)
    case atStart => exact ⟨0, by omega, rfl, H0.out⟩
    case round =>
      obtain ⟨k, hk, rfl, hR⟩ := hrel
      have HR := Lib.hid hR
      by_cases hlt : k < PT.length
      · have c1 : wr.cell? ⟨g, k, none⟩ = some (.int .u8 (PT[k].toNat : Int)) := by
          rw [hR.cell k hlt]
          unfold upAt
          rw [if_neg (by omega)]
          simp [List.getD, hlt]
        have f1 := hR.fz k hlt
        have HST := Lib.hid (fun (x : Int) hx => hR.step hlt (x := x) hx)
        have HSM := Lib.hid (fun hx => hR.same hlt hx)
        have x0 : (0 : Int) ≤ k := by omega
        have x1 : (k : Int) < (str PT).size := by rw [hsz]; omega
        have x2 : (k : Int) < PT.length := by omega
        clear hR
        have u97 : (97 : UInt8).toNat = 97 := rfl
        have u122 : (122 : UInt8).toNat = 122 := rfl
        by_cases h97 : (97 : Int) ≤ PT[k].toNat
        · by_cases h122 : (PT[k].toNat : Int) ≤ 122
          · have HC97 : Hid (97 ≤ PT[k] ∧ PT[k] ≤ 122) := Lib.hid ⟨UInt8.le_iff_toNat_le.2 (by rw [u97]; omega), UInt8.le_iff_toNat_le.2 (by rw [u122]; omega)⟩
            cases hb : (bits .and .u64 ((up : Int) / 2 ^ (k % 64)) 1 == 1) with
            | true =>
              have hbu : upB up k = true := hb
              have HX := Lib.hid (HST.out ((PT[k].toNat : Int) - 97 + 65) (by rw [hbu, ← up_sub HC97.out]; omega))
              go_wp2
              go_roundw
              case rel => exact ⟨k + 1, by omega, by go_num, HX.out⟩
              case measure => simp [intOf] <;> omega
            | false =>
              have hbu : upB up k = false := hb
              have HX := Lib.hid (HSM.out (by rw [hbu]; rfl))
              go_wp2
              go_roundw
              case rel => exact ⟨k + 1, by omega, by go_num, HX.out⟩
              case measure => simp [intOf] <;> omega
          · have HX := Lib.hid (HSM.out (by unfold up1; rw [if_neg]; rintro ⟨_, _, q⟩; have q' : PT[k].toNat ≤ (122 : UInt8).toNat := q; omega))
            go_wp2
            go_roundw
            case rel => exact ⟨k + 1, by omega, by go_num, HX.out⟩
            case measure => simp [intOf] <;> omega
        · have HX := Lib.hid (HSM.out (by unfold up1; rw [if_neg]; rintro ⟨_, q, _⟩; have q' : (97 : UInt8).toNat ≤ PT[k].toNat := q; omega))
          go_wp2
          go_roundw
          case rel => exact ⟨k + 1, by omega, by go_num, HX.out⟩
          case measure => simp [intOf] <;> omega
      · obtain rfl : k = PT.length := by omega
        have hbk := run_convert_bytes_back (P := Tryd.prog) wr 49 9 5 ⟨g, 0, none⟩ cap (upT (upB up) 0 PT) Tryd.underlying49 Tryd.underlying5 Tryd.underlying9 (fun j hj => by
          have hj' : j < PT.length := by omega
          have e : (⟨g, 0, none⟩ : Addr).add j = ⟨g, j, none⟩ := by unfold Addr.add; split <;> simp_all
          rw [e, hR.cell j hj']
          unfold upAt
          rw [if_pos hj']
          have q := upT_at (upB up) PT 0 j
          rw [List.getElem?_eq_getElem hj', List.getElem?_eq_getElem hj, Nat.zero_add] at q
          simp only [Option.map_some, Option.some.injEq] at q
          simp [List.getD, hj', q, hj])
        rw [hul] at hbk
        have HB := Lib.hid (thenB HB1.out (hR.be))
        have hzz : wr.heap.size = wr.heap.size := rfl
        clear hR
        go_wp2_with fail
        refine (HW.out wr).mono ?_
        rintro e w3 ⟨Ap2, cp2, Ah2, ch2, rfl, hp2, hh2, hb3⟩
        have HB3 := Lib.hid (thenB HB.out hb3)
        have HQ3 := Lib.hid hp2
        have HR3 := Lib.hid hh2
        clear hb3 hp2 hh2 hbk
        have HAL : Hid (∀ o, Below w0.heap.size w0 (w3.alloc o)) := Lib.hid (fun o => HB3.out.alloc HB3.out.size o)
        have HALr : Hid (∀ o, Below w3.heap.size w3 (w3.alloc o)) := Lib.hid (fun o => (Below.refl _ _).alloc (Nat.le_refl _) o)
        have hcc := fun o => HC.out _ (HAL.out o)
        have c0 := fun o => (hcc o).1
        have c1 := fun o => (hcc o).2.1
        have c2 := fun o => (hcc o).2.2.1
        have c3 := fun o => (hcc o).2.2.2.1
        have c4 := fun o => (hcc o).2.2.2.2.1
        have c5 := fun o => (hcc o).2.2.2.2.2
        clear hcc
        go_wp2_with fail
        obtain ⟨w4, hw4⟩ : ∃ w4, w3.alloc (.cells #[.string (str u.scheme), .string (str []), .string (str u.host), .int .i64 u.port, .slice Ap2 0 cp2, .slice Ah2 0 ch2] 24) = w4 := ⟨_, rfl⟩
        have hal : Below w3.heap.size w3 w4 := hw4 ▸ HALr.out _
        have hal0 : Below w0.heap.size w0 w4 := hw4 ▸ HAL.out _
        rw [hw4]
        have hsame := Same_uri (u := bareUU u) (v := bareUU u) (Nat.le_refl _) (UriB.of (Ap := none) (Ah := none) (cp := 0) (ch := 0) ⟨rfl, fun h => absurd h (by simp [bareUU])⟩ ⟨rfl, fun h => absurd h (by simp [bareUU])⟩) (UriB.of (w := w4) (Ap := Ap2) (Ah := Ah2) (cp := cp2) (ch := ch2) ⟨rfl, fun h => absurd h (by simp [bareUU])⟩ ⟨rfl, fun h => absurd h (by simp [bareUU])⟩) (by simp [bareUU]) (by simp [bareUU]) (by simp [bareUU]) (by simp [bareUU])
        refine hsame.mono ?_
        rintro e w5 ⟨rfl, hb5⟩
        rw [decide_eq_true (rfl : bareUU u = bareUU u)]
        have HB5 := Lib.hid (thenB HB0.out (thenB hal0 hb5))
        clear hal hal0 hw4 hb5 c0 c1 c2 c3 c4 c5 hsame
        go_wp2_with fail
        refine (HA.out _).mono ?_
        rintro e w6 ⟨rfl, hb6⟩
        have HB6 := Lib.hid (thenB HB5.out hb6)
        clear hb6
        go_wp2
        go_ret
        exact ⟨rfl, HB6.out⟩
  · obtain ⟨rfl, rfl⟩ := hVno hck
    have qck : (checkE (bareUU u) != 0) = true := by simpa using hck
    clear hVok hVno hck
    go_enter Tryd.func12, Tryd.ntmps12
    go_wp2_with fail
    rw [HW0.out]
    refine (HPR.out w0).mono ?_
    rintro e w1 ⟨rfl, hb1⟩
    have HB1 := Lib.hid (thenB HB0.out hb1)
    clear hb1
    go_wp2_with fail
    refine (HA.out _).mono ?_
    rintro e w6 ⟨rfl, hb6⟩
    have HB6 := Lib.hid (thenB HB1.out hb6)
    clear hb6
    go_wp2
    go_ret
    exact ⟨rfl, HB6.out⟩
end Go.Proofs.YtpnchfigehgkgaaDoor
