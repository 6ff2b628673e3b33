/- The wheel as an object: Set. -/
import Derived.Test.YtgfoobgkpnknmaaW7
namespace Go.Proofs.Ytgfoobgkpnknmaa
set_option linter.unusedSimpArgs false
set_option linter.unusedVariables false
open Go.RowKit
def SetPost (p : Nat) (l : List TM) (id at_ : Int) (F : Nat → Prop) (w : World) (e : Ending) (w' : World) : Prop :=
  e = .returned (.int .i64 (rSetE l id at_)) ∧ ∃ F', Wh w' p (rSetL l id at_) F' ∧ Fr F w w' ∧ Ext F F' w
theorem g_set {xs : List X} {i : Nat} (y : X) {k : Nat} (hki : k ≠ i) : g (xs.set i y) k = g xs k := by
  simp only [g, List.getD_eq_getElem?_getD, List.getElem?_set, if_neg (Ne.symm hki)]
/-- an item's tick is changed -/
theorem hp_change {w : World} {p bm : Nat} {hv : Value} {xs : List X} {i : Nat} {x : X} (H : Hp w p bm hv xs) (hx : xs[i]? = some x) (at_ : Int) :
    Hp (w.setCell ⟨x.1, 0, none⟩ (.int .i64 at_)) p bm hv (xs.set i (x.1, at_, x.2.2)) := by
  have hb := H.its i x hx
  have hi : i < xs.length := (List.getElem?_eq_some_iff.1 hx).1
  have hmap : (xs.set i (x.1, at_, x.2.2)).map (·.1) = xs.map (·.1) := by
    rw [List.map_set]
    apply List.ext_getElem?
    intro k
    rw [List.getElem?_set]
    by_cases hk : i = k
    · subst hk
      rw [if_pos rfl, List.getElem?_map, hx]
      simp [hi]
    · rw [if_neg hk]
  have hfr : Fr (fun k => k = x.1) w (w.setCell ⟨x.1, 0, none⟩ (.int .i64 at_)) := (Fr.refl (fun k => k = x.1) w).set (p := ⟨x.1, 0, none⟩) (fun _ => rfl) _
  refine ⟨H.top.far (p := ⟨x.1, 0, none⟩) (H.top.ne_ hb (by decide)) _, ?_, fun k y hy => ?_, by rw [hmap]; exact H.nd⟩
  · have := own_fr H.row hfr (fun k hk e => by subst e; exact own_blk_ne H.row hb (by decide) hk)
    rw [List.length_set]
    have e : (xs.set i (x.1, at_, x.2.2)).map (fun x => ptr x.1) = xs.map (fun x => ptr x.1) := by
      have := congrArg (List.map ptr) hmap
      simpa [List.map_map, Function.comp_def] using this
    rw [e]; exact this
  · rw [List.getElem?_set] at hy
    by_cases hk : i = k
    · subst hk
      rw [if_pos rfl, if_pos hi] at hy
      injection hy with hy
      subst hy
      exact hb.set_ 0 _
    · rw [if_neg hk] at hy
      have hne : y.1 ≠ x.1 := by
        have h1 := H.ne (i := k) (j := i) (List.getElem?_eq_some_iff.1 hy).1 hi (Ne.symm hk)
        rw [g_at (List.getElem?_eq_some_iff.1 hy).1, g_at hi, (List.getElem?_eq_some_iff.1 hy).2, (List.getElem?_eq_some_iff.1 hx).2] at h1
        exact h1
      exact (H.its k y hy).far (p := ⟨x.1, 0, none⟩) hne _
theorem setE_in {l : List TM} {id at_ : Int} (hn : (l.map (·.2)).Nodup) (h : id ∈ l.map (·.2)) (h0 : 0 ≤ id) (h1 : 0 ≤ at_) (h2 : at_ ≤ 1099511627776) : rSetE l id at_ = 0 := by
  obtain ⟨t, ht, rfl⟩ := List.mem_map.1 h
  have := stop_len_in hn ht
  unfold rSetE
  rw [if_neg (by omega), if_neg (by omega)]
theorem setE_new {l : List TM} {id at_ : Int} (h : id ∉ l.map (·.2)) (h0 : 0 ≤ id) (h1 : 0 ≤ at_) (h2 : at_ ≤ 1099511627776) (hl : l.length < 4096) : rSetE l id at_ = 0 := by
  unfold rSetE
  rw [if_neg (by omega), if_neg (by omega)]
theorem setE_full {l : List TM} {id at_ : Int} (h : id ∉ l.map (·.2)) (h0 : 0 ≤ id) (h1 : 0 ≤ at_) (h2 : at_ ≤ 1099511627776) (hl : 4096 ≤ l.length) : rSetE l id at_ = 5 := by
  unfold rSetE
  rw [if_neg (by omega), if_pos ⟨by rw [stop_none h], hl⟩]
theorem setE_arg {l : List TM} {id at_ : Int} (h : id < 0 ∨ at_ < 0 ∨ 1099511627776 < at_) : rSetE l id at_ = 1 := by unfold rSetE; rw [if_pos h]
theorem setPost_same {w : World} {p : Nat} {l : List TM} {id at_ n : Int} {F : Nat → Prop} (H : Wh w p l F) (h : rSetE l id at_ = n) (hn : n ≠ 0) : SetPost p l id at_ F w (.returned (.int .i64 n)) w := by
  refine ⟨by rw [h], F, ?_, Fr.refl _ _, fun k hk => .inl hk⟩
  unfold rSetL
  rw [if_neg (by omega)]; exact H
theorem set_end_in {w w2 : World} {p bm : Nat} {l : List TM} {F : Nat → Prop} {hv : Value} {xs ys : List X} {kvs : List (Int × Value)} {i : Nat} {x : X} {at_ : Int}
    (H : WhI w p l F bm hv xs kvs) (hx : xs[i]? = some x) (h0 : 0 ≤ x.2.2) (h1 : 0 ≤ at_) (h2 : at_ ≤ 1099511627776) (hp : ys.Perm (xs.set i (x.1, at_, x.2.2))) (hh : heap ys (xs.set i (x.1, at_, x.2.2)).length)
    (H2 : Hp w2 p bm hv ys) (hf : Fr (Foot hv (xs.set i (x.1, at_, x.2.2))) (w.setCell ⟨x.1, 0, none⟩ (.int .i64 at_)) w2) : SetPost p l x.2.2 at_ F w (.returned (.int .i64 0)) w2 := by
  have hxl := H.get_l hx
  have hi : i < xs.length := (List.getElem?_eq_some_iff.1 hx).1
  have hE := setE_in (id := x.2.2) H.nd (List.mem_map.2 ⟨_, hxl, rfl⟩) h0 h1 h2
  have hsp := set_perm xs i (x.1, at_, x.2.2) hi
  have hap := at_perm xs i x hx
  have hmem : x.1 ∈ xs.map (·.1) := List.mem_map.2 ⟨x, List.mem_of_getElem? hx, rfl⟩
  have hmap : (ys.map (·.1)).Perm (xs.map (·.1)) := by
    have e1 := ((hp.trans hsp).map (·.1))
    have e2 := (hap.map (·.1))
    exact e1.trans e2.symm
  have hsub : ∀ k, Foot hv ys k → Foot hv xs k := fun k hk => hk.elim .inl fun hk => .inr (hmap.mem_iff.1 hk)
  have hsub' : ∀ k, Foot hv (xs.set i (x.1, at_, x.2.2)) k → Foot hv xs k := fun k hk => hk.elim .inl fun hk => .inr (hmap.mem_iff.1 ((hp.map (·.1)).mem_iff.2 hk))
  have hfr : Fr (Foot hv xs) w w2 := ((Fr.refl (Foot hv xs) w).set (p := ⟨x.1, 0, none⟩) (fun _ => .inr hmem) (.int .i64 at_)).trans hf fun k _ q => hsub' k q
  have hFF : ∀ k, Foot hv xs k → F k := fun k hk => (H.ff k).2 (.inr (.inr hk))
  refine ⟨by rw [hE], WF p bm hv ys, ⟨bm, hv, ys, kvs, ⟨H2, ?_, H.mp.fr hfr H.bmf, ?_, ?_, ?_, ?_, ?_, fun k => Iff.rfl⟩⟩, hfr.mono fun k _ q => hFF k q, ?_⟩
  · have := hp.length_eq; rw [this]; exact hh
  · have e1 := ((hp.trans hsp).map fun x => (x.2.2, ptr x.1))
    have e2 := (hap.map fun x => (x.2.2, ptr x.1))
    exact H.kp.trans (e2.trans e1.symm)
  · have e1 := ((hp.trans hsp).map (·.2))
    have e2 := (hap.map (·.2))
    have e3 := (stop_perm H.nd hxl).trans (H.lp.trans e2)
    unfold rSetL
    rw [if_pos hE]
    exact (ins_perm _ _).trans (((List.Perm.cons_inv e3).cons (at_, x.2.2)).trans e1.symm)
  · unfold rSetL; rw [if_pos hE]; exact ins_nodup H.nd
  · unfold rSetL; rw [if_pos hE]; exact ins_sorted _ _ (stop_sorted H.so _) stop_ne
  · unfold rSetL; rw [if_pos hE, ins_len, stop_len_in H.nd hxl]; exact H.le
  · intro k hk
    rcases hk with e | e | e
    · exact .inl ((H.ff k).2 (.inl e))
    · exact .inl ((H.ff k).2 (.inr (.inl e)))
    · exact .inl (hFF k (hsub k e))
theorem set_end_new {w w1 w2 : World} {p bm : Nat} {l : List TM} {F : Nat → Prop} {hv hv' : Value} {xs ys : List X} {kvs : List (Int × Value)} {id at_ : Int} {b : Nat}
    (H : WhI w p l F bm hv xs kvs) (hn : id ∉ l.map (·.2)) (hg : mget id kvs = none) (h0 : 0 ≤ id) (h1 : 0 ≤ at_) (h2 : at_ ≤ 1099511627776) (hl : l.length < 4096) (hb : w.heap.size ≤ b)
    (hf1 : Fr (fun k => k = bm) w w1) (hm : MapIs w1 bm intKey (mput id (ptr b) kvs)) (hs : b < w1.heap.size)
    (hat : hv'.ownBlock = hv.ownBlock ∨ ∃ gb, hv'.ownBlock = some gb ∧ w1.heap.size ≤ gb) (hp : ys.Perm (xs ++ [(b, at_, id)])) (hh : heap ys (xs.length + 1)) (H2 : Hp w2 p bm hv' ys)
    (hf : Fr (fun k => k = p ∨ Foot hv xs k ∨ k = b) w1 w2) : SetPost p l id at_ F w (.returned (.int .i64 0)) w2 := by
  have hE := setE_new hn h0 h1 h2 hl
  have hws := hf1.size
  have hFF : ∀ k, Foot hv xs k → F k := fun k hk => (H.ff k).2 (.inr (.inr hk))
  have hperm : ys.Perm ((b, at_, id) :: xs) := hp.trans List.perm_append_comm
  have hbm : ¬ (bm = p ∨ Foot hv xs bm ∨ bm = b) := by
    rintro (e | e | e)
    · exact H.bmp e
    · exact H.bmf e
    · have := H.mp.lt; omega
  have hsub : ∀ k, Foot hv' ys k → Foot hv xs k ∨ w.heap.size ≤ k := fun k hk => by
    rcases hk with hk | hk
    · rcases hat with e | ⟨gb, e1, e2⟩
      · exact .inl (.inl (e ▸ hk))
      · rw [hk] at e1; injection e1 with e1; exact .inr (by omega)
    · have := ((hperm.map (·.1)).mem_iff).1 hk
      rw [List.map_cons, List.mem_cons] at this
      rcases this with e | e
      · exact .inr (by rw [e]; exact hb)
      · exact .inl (.inr e)
  have hfr : Fr F w w2 := (hf1.mono fun k _ e => (H.ff k).2 (.inr (.inl e))).trans hf fun k hk q => by
    rcases q with e | e | e
    · exact (H.ff k).2 (.inl e)
    · exact hFF k e
    · omega
  refine ⟨by rw [hE], WF p bm hv' ys, ⟨bm, hv', ys, mput id (ptr b) kvs, ⟨H2, ?_, hm.fr hf hbm, ?_, ?_, ?_, ?_, ?_, fun k => Iff.rfl⟩⟩, hfr, ?_⟩
  · have := hp.length_eq; rw [this]; simpa using hh
  · rw [mput_new _ (mget_none' hg)]
    have e1 := hperm.map fun x => (x.2.2, ptr x.1)
    have e2 : (kvs ++ [(id, ptr b)]).Perm ((id, ptr b) :: kvs) := List.perm_append_comm
    exact e2.trans ((H.kp.cons _).trans e1.symm)
  · unfold rSetL
    rw [if_pos hE, stop_none hn]
    have e1 := hperm.map (·.2)
    exact (ins_perm _ _).trans ((H.lp.cons _).trans e1.symm)
  · unfold rSetL; rw [if_pos hE]; exact ins_nodup H.nd
  · unfold rSetL; rw [if_pos hE]; exact ins_sorted _ _ (stop_sorted H.so _) stop_ne
  · unfold rSetL; rw [if_pos hE, ins_len, stop_none hn]; omega
  · intro k hk
    rcases hk with e | e | e
    · exact .inl ((H.ff k).2 (.inl e))
    · exact .inl ((H.ff k).2 (.inr (.inl e)))
    · exact (hsub k e).imp (hFF k) (fun q => q)
set_option maxRecDepth 100000 in
set_option maxHeartbeats 1000000 in
theorem set_any {w : World} {p : Nat} {l : List TM} {F : Nat → Prop} (H : Wh w p l F) (id at_ : Int) :
    Calls Try.prog 25 #[.pointer (some ⟨p, 0, none⟩), .int .i64 id, .int .i64 at_] w (SetPost p l id at_ F w) := by
  by_cases hA : id < 0 ∨ at_ < 0 ∨ 1099511627776 < at_
  · have HP := Lib.hid (setPost_same H (setE_arg hA) (by omega))
    obtain ⟨bm, hv, xs, kvs, H⟩ := H
    have hm := Lib.hid (made_any H.hp.top)
    clear H
    rcases hA with hA | hA | hA
    all_goals
      go_enter Try.func25, Try.ntmps25
      go_wp2_with (go_at_call 57; refine (hm.out).mono ?_; rintro e w' ⟨rfl, rfl⟩)
      all_goals
        go_ret
        exact HP.out
  have h0 : 0 ≤ id := by omega
  have h1 : 0 ≤ at_ := by omega
  have h2 : at_ ≤ 1099511627776 := by omega
  clear hA
  obtain ⟨bm, hv, xs, kvs, H⟩ := H
  have hm := Lib.hid (made_any H.hp.top)
  have hc := H.hp.top.cell 1
  have hlk := H.mp.lookup (T := 61) (E := 130) (intLaw Try.underlying3) Try.underlying61 (zitem w) id true
  rcases H.get id with ⟨hg, hn⟩ | ⟨i, x, hx, rfl, hg⟩
  · have hlk' : (Instr.lookup 61 (.map (some bm)) (.int .i64 id) true).run Try.prog w = .ok (.tuple #[.pointer none, .bool false]) w := by rw [hg] at hlk; exact hlk
    obtain ⟨A, cap, e⟩ := H.hp.form0
    have hc0 := H.hp.top.cell 0
    have hlen := H.len
    by_cases hl : 4096 ≤ l.length
    · have HP := Lib.hid (setPost_same ⟨bm, hv, xs, kvs, H⟩ (setE_full hn h0 h1 h2 hl) (by omega))
      have hx4 : 4096 ≤ xs.length := by omega
      subst e
      clear hlk H hg hn hlen
      go_enter Try.func25, Try.ntmps25
      go_wp2_with (go_at_call 57; refine (hm.out).mono ?_; rintro e w' ⟨rfl, rfl⟩)
      go_ret
      exact HP.out
    · have hx4 : xs.length < 4096 := by omega
      have HE := Lib.hid e
      have H1 := Lib.hid H
      have HG := Lib.hid hg
      have HN := Lib.hid hn
      have HLE := Lib.hid hlen
      have hpt := H.hp.top
      subst e
      clear hlk H hg hn hlen
      go_enter Try.func25, Try.ntmps25
      go_wp2_with fail
      refine (hm.out).mono ?_
      rintro e w' ⟨rfl, rfl⟩
      have hbm := H1.out.mp.fr ((Fr.refl (fun _ => False) w).alloc (.cells #[.int .i64 at_, .int .i64 id, .int .i64 0] 133)) (fun h => h)
      have hc1 := (hpt.alloc (.cells #[.int .i64 at_, .int .i64 id, .int .i64 0] 133)).cell 1
      obtain ⟨w2, hup, hm2, hf2⟩ := hbm.update (T := 61) (E := 130) (intLaw Try.underlying3) Try.underlying61 id (ptr w.heap.size)
      have hup' : (Instr.mapUpdate 61 (.map (some bm)) (.int .i64 id) (.pointer (some ⟨w.heap.size, 0, none⟩))).run Try.prog (w.alloc (.cells #[.int .i64 at_, .int .i64 id, .int .i64 0] 133)) = .ok () w2 := hup
      have hf02 : Fr (fun k => k = bm) w w2 := ((Fr.refl (fun _ => False) w).alloc (.cells #[.int .i64 at_, .int .i64 id, .int .i64 0] 133) |>.mono fun _ _ q => q.elim).trans hf2 fun _ _ q => q
      have hp2 := Lib.hid (H1.out.hp.fr hf02 (fun e => H1.out.bmp e.symm) (fun k hk e => H1.out.bmf (e ▸ hk)))
      have hnb : ¬ (w.heap.size = bm) := fun e => by have := H1.out.mp.lt; omega
      have hb2 := Lib.hid ((Blk.new w 133 #[.int .i64 at_, .int .i64 id, .int .i64 0]).fr hf2 hnb)
      have hnew : Hid (w.heap.size ∉ xs.map (·.1)) := Lib.hid (fun hk => by
        have := H1.out.lt ((H1.out.ff _).2 (.inr (.inr (.inr hk)))); omega)
      have HF := Lib.hid hf02
      have HM2 := Lib.hid hm2
      clear hup hm2 hf2 hf02 hbm hnb
      go_wp2_with fail
      refine (hpush_any p bm w.heap.size _ xs (at_, id) _ w2 hp2.out (by omega) H1.out.hh hb2.out hnew.out).mono ?_
      rintro e w3 ⟨rfl, hv', ys, hat, hp, hh, H2, hf⟩
      have HX := Lib.hid (set_end_new H1.out HN.out HG.out h0 h1 h2 (by omega) (Nat.le_refl _) HF.out HM2.out hb2.out.lt hat hp hh H2 hf)
      clear hat hp hh H2 hf
      go_wp2
      go_ret
      exact HX.out
  · have hlk' : (Instr.lookup 61 (.map (some bm)) (.int .i64 x.2.2) true).run Try.prog w = .ok (.tuple #[.pointer (some ⟨x.1, 0, none⟩), .bool true]) w := by rw [hg] at hlk; exact hlk
    have hb := H.hp.its i x hx
    have hci := hb.cell 0
    have hfi := hb.frozen 0
    have hci2 : (w.setCell ⟨x.1, 0, none⟩ (.int .i64 at_)).cell? ⟨x.1, 2, none⟩ = some (.int .i64 i) := (hb.set_ 0 (.int .i64 at_)).cell 2
    have hi : i < xs.length := (List.getElem?_eq_some_iff.1 hx).1
    have hlen := H.len
    have hle := H.le
    have hmax : xs.length ≤ 50000 := by omega
    have hHp := hp_change H.hp hx at_
    have hdn := heap_change (ys := xs.set i (x.1, at_, x.2.2)) H.hh hi (fun k _ hk => g_set _ hk)
    have HFX := Lib.hid (fix_any p bm i hv (xs.set i (x.1, at_, x.2.2)) ((w.setCell ⟨x.1, 0, none⟩ (.int .i64 at_)).drew) (hHp.drewN 1) (by rw [List.length_set]; exact hi) (by rw [List.length_set]; omega) (by rw [List.length_set]; exact hdn))
    have H1 := Lib.hid H
    have HX := Lib.hid hx
    clear hlk H hg hx hlen hle hmax hHp hdn hb
    go_enter Try.func25, Try.ntmps25
    go_wp2_with fail
    refine (hm.out).mono ?_
    rintro e w' ⟨rfl, rfl⟩
    go_wp2_with fail
    generalize hu : w.setCell ⟨x.1, 0, none⟩ (.int .i64 at_) = u at *
    have HU := Lib.hid hu
    clear hu
    go_still_tail 8, (by kernel_rfl)
    go_wp2_with fail
    refine (HFX.out).mono ?_
    rintro e w3 ⟨rfl, ys, hp, hh, _, H2, hf⟩
    have HE := Lib.hid (set_end_in H1.out HX.out h0 h1 h2 hp hh H2 (HU.out ▸ ⟨hf.os, hf.tape, hf.output, hf.size, hf.block⟩))
    clear hp hh H2 hf
    go_wp2
    go_ret
    exact HE.out
end Go.Proofs.Ytgfoobgkpnknmaa
