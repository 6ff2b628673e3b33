/- container/heap over the wheel's heap: Fix, Pop, Push, Remove. -/
import Derived.Test.YtgfoobgkpnknmaaW3
namespace Go.Proofs.Ytgfoobgkpnknmaa
open Go.RowKit
theorem e130i : ElemInfo Try.prog 130 1 8 (.pointer none) := ElemInfo.mk' (by kernel_rfl)
theorem hlen_any (A : Option Addr) (n c : Nat) (w : World) : Calls Try.prog 119 #[.slice A n c] w fun e w' => e = .returned (.int .i64 n) ∧ w = w' := by
  go_enter Try.func119, Try.ntmps119
  go_wp2
  go_ret
  exact ⟨rfl, rfl⟩
theorem Hp.form0 {w : World} {p bm : Nat} {hv : Value} {xs : List X} (H : Hp w p bm hv xs) : ∃ A cap, hv = .slice A xs.length cap := by
  rcases H.row.2 with ⟨e, h0⟩ | ⟨gb, cap, cur, e, _⟩
  · exact ⟨none, 0, by rw [e, h0]⟩
  · exact ⟨_, _, e⟩
theorem hlen {w : World} {p bm : Nat} {hv : Value} {xs : List X} (H : Hp w p bm hv xs) : Calls Try.prog 119 #[hv] w fun e w' => e = .returned (.int .i64 xs.length) ∧ w = w' := by
  obtain ⟨A, cap, e⟩ := H.form0
  rw [e]
  exact hlen_any A _ cap w

set_option maxHeartbeats 1000000 in
theorem fix_any (p bm i : Nat) (hv : Value) (xs : List X) (w : World) (H : Hp w p bm hv xs) (hi : i < xs.length) (hmax : xs.length ≤ 100000) (hu : dnI xs xs.length i i) :
    Calls Try.prog 58 #[.iface 135 (.pointer (some ⟨p, 0, none⟩)), .int .i64 i] w (UpPost p bm hv xs xs.length w) := by
  have hm1 := fun (k : Nat) (hk : 0 < k) (W : World) => run_method_val mLen Try.underlying135 Try.underlying60 ⟨p, 0, none⟩ k hk W
  have hc0 := H.top.cell 0
  have HU := Lib.hid hu
  clear hu
  go_enter Try.func58, Try.ntmps58
  go_wp2_with fail
  refine (hlen H).mono ?_
  rintro e w1 ⟨rfl, rfl⟩
  go_wp2_with fail
  refine (down_any p bm xs.length i hv xs _ H (Nat.le_refl _) hi hmax HU.out).mono ?_
  rintro e w1 ⟨b, ys, rfl, hp, h1, h2, ht, H1, hf⟩
  have HT := Lib.hid ht
  clear ht
  cases b
  · have H2 := Lib.hid (h2 rfl)
    clear h1 h2
    go_wp2_with fail
    refine (up_any p bm xs.length i hv ys _ H1 (by rw [hp.length_eq]; exact Nat.le_refl _) hi (by rw [hp.length_eq]; exact hmax) H2.out).mono ?_
    rintro e w2 ⟨rfl, zs, hp2, hh, ht2, H3, hf2⟩
    have HT2 := Lib.hid ht2
    clear ht2
    go_wp2
    go_end0
    exact ⟨rfl, zs, hp2.trans hp, hh, fun k hk => (HT2.out k hk).trans (HT.out k hk), H3, hf.trans hf2 fun k _ q => q.perm hp k⟩
  · have HH := Lib.hid (h1 rfl)
    clear h1 h2
    go_wp2
    go_end0
    exact ⟨rfl, ys, hp, HH.out, HT.out, H1, hf⟩

theorem take_own {w : World} {gb cap n : Nat} {e : TypeId} {xs : List Value} (h : w.ownsRow 0 e 1 (.slice (some ⟨gb, 0, none⟩) (n + 1) cap) (n + 1) xs) : w.ownsRow 0 e 1 (.slice (some ⟨gb, 0, none⟩) n cap) n (xs.take n) := by
  have hl := h.1
  rcases h.2 with ⟨e, _⟩ | ⟨g', cap', cur, e, h1, h2, h3, h4, h5, h6⟩
  · cases e
  · simp only [Value.slice.injEq, Option.some.injEq, Addr.mk.injEq, and_true, true_and] at e
    obtain ⟨rfl, rfl⟩ := e
    refine ⟨by rw [List.length_take]; omega, .inr ⟨gb, cap, cur, rfl, h1, h2, by omega, h4, h5, ?_⟩⟩
    rw [← h6, List.take_take]
    congr 1
    omega
def PopPost (p bm : Nat) (hv : Value) (xs : List X) (n : Nat) (w : World) (e : Ending) (w' : World) : Prop :=
  e = .returned (.iface 130 (.pointer (some ⟨(g xs n).1, 0, none⟩))) ∧ ∃ hv', hv'.ownBlock = hv.ownBlock ∧ Hp w' p bm hv' (xs.take n) ∧ Fr (fun k => k = p) w w'
set_option maxHeartbeats 1000000 in
theorem pop_any (p bm n : Nat) (hv : Value) (xs : List X) (w : World) (H : Hp w p bm hv xs) (hn : xs.length = n + 1) (hmax : xs.length ≤ 100000) :
    Calls Try.prog 122 #[.pointer (some ⟨p, 0, none⟩)] w (PopPost p bm hv xs n w) := by
  obtain ⟨gb, cap, e, hcap, hlen⟩ := H.form (by omega)
  have hc := H.top.cell 0
  have hfz := H.top.frozen 0
  have hr := H.rowcell e (i := n) (by omega)
  have hmc : cap ≤ 9223372036854775807 := by unfold maxLen at hcap; omega
  have HP : ∀ w' : World, w'.Alike (w.setCell ⟨p, 0, none⟩ (.slice (some ⟨gb, 0, none⟩) n cap)) → w'.tape = w.tape → ∃ hv', hv'.ownBlock = hv.ownBlock ∧ Hp w' p bm hv' (xs.take n) ∧ Fr (fun k => k = p) w w' := by
    intro w' ha ht
    have hlt : (xs.take n).length = n := by rw [List.length_take]; omega
    have hfr : Fr (fun k => k = p) w w' := Fr.alike ((Fr.refl (fun k => k = p) w).set (p := ⟨p, 0, none⟩) (fun _ => rfl) _) ha ht
    refine ⟨.slice (some ⟨gb, 0, none⟩) n cap, by rw [e]; rfl, ⟨?_, ?_, ?_, ?_⟩, hfr⟩
    · exact Blk.alike (H.top.set_ 0 _) ha
    · have h1 := H.row
      rw [e, hn] at h1
      have h2 := take_own h1
      rw [hlt, List.map_take]
      exact own_fr h2 hfr fun k hk hkp => by
        subst hkp
        exact own_blk_ne H.row H.top (by decide) (by rw [e]; exact hk)
    · intro i x hx
      have hx' : xs[i]? = some x := by
        rw [List.getElem?_take] at hx
        split at hx
        · exact hx
        · cases hx
      exact (H.its i x hx').fr hfr fun e => (H.its i x hx').ne_ H.top (by decide) e
    · rw [List.map_take]
      exact List.Nodup.sublist (List.take_sublist _ _) H.nd
  have HPP := Lib.hid HP
  clear HP
  have hlen1 : (xs.length : Int) = n + 1 := by omega
  subst e
  rw [hn] at hc
  have hnc : (n : Int) ≤ cap := by omega
  have hc0 : ¬ cap = 0 := by omega
  have hw : IntKind.i64.wrap (n : Int) = n := IntWalk.i64_in _ (by omega)
  have HN := Lib.hid hn
  clear hn hlen1
  have hn0 : (0 : Int) ≤ n := by omega
  have hn1 : (n : Int) < n + 1 := by omega
  go_enter Try.func122, Try.ntmps122
  go_wp2
  go_quiet (fail)
  go_wp2
  go_region
  go_wp2
  go_ret
  exact ⟨rfl, HPP.out _ ⟨rfl, rfl, rfl⟩ rfl⟩

theorem own_some {w : World} {base : Nat} {e : TypeId} {n : Nat} {v : Value} {xs : List Value} (h : w.ownsRow base e 1 v n xs) (hn : 0 < n) : ∃ gb cap, v = .slice (some ⟨gb, 0, none⟩) n cap := by
  rcases h.2 with ⟨_, h0⟩ | ⟨gb, cap, cur, e, _⟩
  · omega
  · exact ⟨gb, cap, e⟩
def PushPost (p bm : Nat) (hv : Value) (xs : List X) (b : Nat) (tm : TM) (w : World) (e : Ending) (w' : World) : Prop :=
  e = .returned (.tuple #[]) ∧ ∃ hv', (hv'.ownBlock = hv.ownBlock ∨ ∃ gb, hv'.ownBlock = some gb ∧ w.heap.size ≤ gb) ∧ Hp w' p bm hv' (xs ++ [(b, tm)]) ∧ Fr (fun k => k = p ∨ Foot hv xs k ∨ k = b) w w'
set_option maxHeartbeats 1000000 in
theorem push_any (p bm b : Nat) (hv : Value) (xs : List X) (tm : TM) (i0 : Value) (w : World) (H : Hp w p bm hv xs) (hmax : xs.length ≤ 100000)
    (hb : Blk w b 133 #[.int .i64 tm.1, .int .i64 tm.2, i0]) (hnew : b ∉ xs.map (·.1)) :
    Calls Try.prog 123 #[.pointer (some ⟨p, 0, none⟩), .iface 130 (.pointer (some ⟨b, 0, none⟩))] w (PushPost p bm hv xs b tm w) := by
  obtain ⟨A, cap, e⟩ := H.form0
  have hc := H.top.cell 0
  have hfz := H.top.frozen 0
  have hbc := hb.cell 2
  have hbf := hb.frozen 2
  have hpb : p ≠ b := H.top.ne_ hb (by decide)
  have hown := own_fr H.row ((Fr.refl (fun k => k = b) w).set (p := ⟨b, 2, none⟩) (fun _ => rfl) (.int .i64 xs.length)) (fun k hk hkb => by subst hkb; exact own_blk_ne H.row hb (by decide) hk)
  have hta := fun (v : Value) (W : World) => run_typeAssert_same (P := Try.prog) (x := 20) Try.underlying130 v W
  have HK : Hid (∀ (u : World) (row : Option Nat), (w.setCell ⟨b, 2, none⟩ (.int .i64 xs.length)).grownBy u row → row = hv.ownBlock → Blk u p 63 #[hv, .map (some bm)]) := Lib.hid (fun u row hg hr => by
    have h1 := H.top.far (p := ⟨b, 2, none⟩) hpb (.int .i64 xs.length)
    exact (hg.block p h1.lt (fun e => own_blk_ne H.row H.top (by decide) (by rw [← hr, ← e]))).trans h1)
  have HQ : Hid (∀ (u : World) (v1 : Value) (gb1 cap1 : Nat), u.ownsRow 0 130 1 v1 (xs.length + 1) ((xs.map fun x => ptr x.1) ++ [ptr b]) → (w.setCell ⟨b, 2, none⟩ (.int .i64 xs.length)).grownBy u hv.ownBlock →
      (v1.ownBlock = hv.ownBlock ∨ ∃ gg, v1.ownBlock = some gg ∧ (w.setCell ⟨b, 2, none⟩ (.int .i64 xs.length)).heap.size ≤ gg) → v1 = .slice (some ⟨gb1, 0, none⟩) (xs.length + 1) cap1 →
      ∃ hv', (hv'.ownBlock = hv.ownBlock ∨ ∃ gb, hv'.ownBlock = some gb ∧ w.heap.size ≤ gb) ∧ Hp (u.setCell ⟨p, 0, none⟩ (.slice (some ⟨gb1, 0, none⟩) (xs.length + 1) cap1)) p bm hv' (xs ++ [(b, tm)]) ∧ Fr (fun k => k = p ∨ Foot hv xs k ∨ k = b) w (u.setCell ⟨p, 0, none⟩ (.slice (some ⟨gb1, 0, none⟩) (xs.length + 1) cap1))) := Lib.hid (by
    intro u v1 gb1 cap1 ho hg hat hv1
    have hfr1 : Fr (fun k => k = p ∨ Foot hv xs k ∨ k = b) w u := ((Fr.refl _ w).set (p := ⟨b, 2, none⟩) (fun _ => .inr (.inr rfl)) (.int .i64 xs.length)).trans (Fr.of_grown (F := fun k => hv.ownBlock = some k) hg (fun k hk => hk)) (fun k _ e => .inr (.inl (.inl e)))
    have hpu := HK.out u _ hg rfl
    have hfr2 : Fr (fun k => k = p ∨ Foot hv xs k ∨ k = b) w (u.setCell ⟨p, 0, none⟩ (.slice (some ⟨gb1, 0, none⟩) (xs.length + 1) cap1)) := hfr1.set (p := ⟨p, 0, none⟩) (fun _ => .inl rfl) _
    have hset : Fr (fun k => k = p) u (u.setCell ⟨p, 0, none⟩ (.slice (some ⟨gb1, 0, none⟩) (xs.length + 1) cap1)) := (Fr.refl (fun k => k = p) u).set (p := ⟨p, 0, none⟩) (fun _ => rfl) _
    refine ⟨v1, ?_, ⟨?_, ?_, ?_, ?_⟩, hfr2⟩
    · rcases hat with e | ⟨gg, e1, e2⟩
      · exact .inl e
      · exact .inr ⟨gg, e1, by simpa [World.setCell] using e2⟩
    · rw [hv1]; exact hpu.set_ 0 _
    · have := own_fr ho hset (fun k hk hkp => by subst hkp; exact own_blk_ne ho hpu (by decide) hk)
      simpa using this
    · intro i x hx
      have hnp : ∀ {k : Nat} {cs : Array Value}, Blk u k 133 cs → ¬ (k = p) := fun h e => by subst e; exact (h.ne_ hpu (by decide)) rfl
      rcases Nat.lt_trichotomy i xs.length with hi | hi | hi
      · rw [List.getElem?_append_left hi] at hx
        have hbx : b ≠ x.1 := fun e => hnew (List.mem_map.2 ⟨x, List.mem_of_getElem? hx, e.symm⟩)
        have h1 := (H.its i x hx).far (p := ⟨b, 2, none⟩) hbx.symm (.int .i64 xs.length)
        have h2 : Blk u x.1 133 #[.int .i64 x.2.1, .int .i64 x.2.2, .int .i64 i] := (hg.block x.1 h1.lt (fun e => own_blk_ne H.row (H.its i x hx) (by decide) e.symm)).trans h1
        exact h2.fr hset (hnp h2)
      · subst hi
        simp at hx
        subst hx
        have h1 := hb.set_ 2 (.int .i64 xs.length)
        have h2 : Blk u b 133 _ := (hg.block b h1.lt (fun e => own_blk_ne H.row hb (by decide) e.symm)).trans h1
        exact h2.fr hset (hnp h2)
      · rw [List.getElem?_eq_none (by simp; omega)] at hx
        cases hx
    · rw [List.map_append]
      exact List.nodup_append.2 ⟨H.nd, by simp, fun a ha c hc => by simp at hc; subst hc; exact fun e => hnew (e ▸ ha)⟩)
  clear H
  subst e
  go_enter Try.func123, Try.ntmps123
  go_wp2_with (at_builtin; go_must (refine wpList_app1' rfl (.tmp 17) (.tmp 19) 60 rfl 0 130 1 8 _ Try.underlying60 e130i rfl (by omega) _ _ _ rfl hown [_] _ rfl (by simp) rfl (by simp [Value.oneCell']) (by unfold maxLen; omega) (by omega) (by simp) ?_); intro v1 w1 hown1 hb1 hg1 hat1; have hv1 := own_some hown1 (by omega); have hc1 := (HK.out _ _ hg1 rfl).cell 0; have hf1 := (HK.out _ _ hg1 rfl).frozen 0; obtain ⟨gb1, cap1, hv1⟩ := hv1; rw [hv1])
  go_end0
  exact ⟨rfl, HQ.out w1 v1 gb1 cap1 hown1 hg1 hat1 hv1⟩
end Go.Proofs.Ytgfoobgkpnknmaa
