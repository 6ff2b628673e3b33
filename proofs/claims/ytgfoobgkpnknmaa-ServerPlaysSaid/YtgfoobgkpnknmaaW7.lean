/- The wheel as an object: When, Next, Stop. -/
import Derived.Test.YtgfoobgkpnknmaaW6
import Derived.Test.YtgfoobgkpnknmaaH2
namespace Go.Proofs.Ytgfoobgkpnknmaa
open Go.RowKit
theorem when_any {w : World} {p : Nat} {l : List TM} {F : Nat → Prop} (H : Wh w p l F) (id : Int) :
    Calls Try.prog 28 #[.pointer (some ⟨p, 0, none⟩), .int .i64 id] w fun e w' => e = .returned (.tuple #[.int .i64 (rWhen l id).1, .bool (rWhen l id).2]) ∧ w = w' := by
  obtain ⟨bm, hv, xs, kvs, H⟩ := H
  have hc := H.hp.top.cell 1
  have hlk := H.mp.lookup (T := 61) (E := 130) (intLaw Try.underlying3) Try.underlying61 (zitem w) id true
  rcases H.get id with ⟨hg, hn⟩ | ⟨i, x, hx, rfl, hg⟩
  · have HW := Lib.hid (when_none hn)
    have hlk' : (Instr.lookup 61 (.map (some bm)) (.int .i64 id) true).run Try.prog w = .ok (.tuple #[.pointer none, .bool false]) w := by rw [hg] at hlk; exact hlk
    have hm := made_any H.hp.top
    clear hlk hg hn H
    have hm := Lib.hid hm
    go_enter Try.func28, Try.ntmps28
    go_wp2_with fail
    refine (hm.out).mono ?_
    rintro e w' ⟨rfl, rfl⟩
    go_wp2
    go_ret2
    exact ⟨ret_pair (by rw [HW.out]) (by rw [HW.out]), rfl⟩
  · have HW := Lib.hid (when_some H.nd (H.get_l hx))
    have hlk' : (Instr.lookup 61 (.map (some bm)) (.int .i64 x.2.2) true).run Try.prog w = .ok (.tuple #[.pointer (some ⟨x.1, 0, none⟩), .bool true]) w := by rw [hg] at hlk; exact hlk
    have hm := Lib.hid (made_any H.hp.top)
    have hci := (H.hp.its i x hx).cell 0
    clear hlk hg H hx
    go_enter Try.func28, Try.ntmps28
    go_wp2_with fail
    refine (hm.out).mono ?_
    rintro e w' ⟨rfl, rfl⟩
    go_wp2
    go_ret2
    exact ⟨ret_pair (by rw [HW.out]) (by rw [HW.out]), rfl⟩

def NextPost (l : List TM) (w : World) (e : Ending) (w' : World) : Prop :=
  e = .returned (.tuple #[.agg #[.int .i64 (rTop l).1, .int .i64 (rTop l).2], .bool (!l.isEmpty)]) ∧ Below w.heap.size w w'
set_option maxHeartbeats 400000 in
theorem next_any {w : World} {p : Nat} {l : List TM} {F : Nat → Prop} (H : Wh w p l F) :
    Calls Try.prog 35 #[.pointer (some ⟨p, 0, none⟩)] w (NextPost l w) := by
  obtain ⟨bm, hv, xs, kvs, H⟩ := H
  have hlen := H.len
  have hp := H.hp.top.lt
  cases l with
  | nil =>
    obtain ⟨A, cap, e⟩ := H.hp.form0
    rw [hlen] at e
    subst e
    have hm := Lib.hid (made_any (H.hp.top.alloc (.cells #[.int .i64 0, .int .i64 0] 36)))
    have hc := (H.hp.top.alloc (.cells #[.int .i64 0, .int .i64 0] 36)).cell 0
    clear H hlen
    go_enter Try.func35, Try.ntmps35
    go_wp2_with fail
    refine (hm.out).mono ?_
    rintro e w' ⟨rfl, rfl⟩
    go_wp2
    exact bodyPost_ret (v := .tuple #[.agg #[.int .i64 0, .int .i64 0], .bool false]) (by simp [results, Try.results35, go_sem]) rfl
      ⟨rfl, by repeat (first | exact Below.refl _ _ | refine Below.setCell ?_ (by simp) _ | refine Below.alloc ?_ (by simp) _)⟩
  | cons t r =>
    have hx0 : 0 < xs.length := by rw [hlen]; simp
    have hi0 := H.hp.it hx0
    obtain ⟨r', hr⟩ := top_of H.so (H.get_l (i := 0) (x := g xs 0) (by rw [g_at hx0]; exact List.getElem?_eq_getElem hx0)) (fun s hs => by
      obtain ⟨y, hy, rfl⟩ := List.mem_map.1 (H.lp.mem_iff.1 hs)
      obtain ⟨j, hj⟩ := List.getElem?_of_mem hy
      have hjl := (List.getElem?_eq_some_iff.1 hj).1
      have e : g xs j = y := by rw [g_at hjl]; exact (List.getElem?_eq_some_iff.1 hj).2
      have := heap_top H.hh j hjl
      rw [e] at this
      exact this)
    obtain ⟨rfl, rfl⟩ : t = (g xs 0).2 ∧ r = r' := by injection hr with h1 h2; exact ⟨h1, h2⟩
    obtain ⟨gb, cap, e, hcap, hle⟩ := H.hp.form hx0
    have hrc := H.hp.rowcell e hx0
    have hgl := (H.hp.row.lt gb (by rw [e]; rfl)).2
    have hc := (H.hp.top.alloc (.cells #[.int .i64 0, .int .i64 0] 36)).cell 0
    have hrc' : (w.alloc (.cells #[.int .i64 0, .int .i64 0] 36)).cell? ⟨gb, 0, none⟩ = some (.pointer (some ⟨(g xs 0).1, 0, none⟩)) := by rw [World.cell?_alloc_lt _ _ _ hgl]; exact hrc
    have hc0 := (hi0.alloc (.cells #[.int .i64 0, .int .i64 0] 36)).cell 0
    have hc1 := (hi0.alloc (.cells #[.int .i64 0, .int .i64 0] 36)).cell 1
    have hm := Lib.hid (made_any (H.hp.top.alloc (.cells #[.int .i64 0, .int .i64 0] 36)))
    have hne : ((xs.length : Int) == 0) = false := by rw [beq_eq_false_iff_ne]; omega
    have hxi : (0 : Int) < xs.length := by omega
    subst e
    clear H hlen hr hi0 hrc hcap hle
    generalize ha : (g xs 0).2.1 = a at *
    have HA := Lib.hid ha
    generalize hd : (g xs 0).2.2 = d at *
    have HD := Lib.hid hd
    clear ha hd
    generalize xs.length = n at *
    go_enter Try.func35, Try.ntmps35
    go_wp2_with fail
    refine (hm.out).mono ?_
    rintro e w' ⟨rfl, rfl⟩
    go_wp2
    exact bodyPost_ret (v := .tuple #[.agg #[.int .i64 a, .int .i64 d], .bool true]) (by simp [results, Try.results35, go_sem]) rfl
      ⟨by show _ = Ending.returned (.tuple #[.agg #[.int .i64 (g xs 0).2.1, .int .i64 (g xs 0).2.2], .bool true]); rw [HA.out, HD.out], by repeat (first | exact Below.refl _ _ | refine Below.setCell ?_ (by simp) _ | refine Below.alloc ?_ (by simp) _)⟩

def StopPost (p : Nat) (l : List TM) (id : Int) (F : Nat → Prop) (w : World) (e : Ending) (w' : World) : Prop :=
  e = .returned (.bool (decide (id ∈ l.map (·.2)))) ∧ ∃ F', Wh w' p (rStop l id) F' ∧ Fr F w w' ∧ ∀ k, F' k → F k
theorem stop_end {w w1 w2 : World} {p bm : Nat} {l : List TM} {F : Nat → Prop} {hv hv' : Value} {xs ys : List X} {kvs : List (Int × Value)} {i : Nat} {x : X}
    (H : WhI w p l F bm hv xs kvs) (hx : xs[i]? = some x) (hg : mget x.2.2 kvs = some (ptr x.1)) (ho : hv'.ownBlock = hv.ownBlock) (hp : (ys ++ [g xs i]).Perm xs) (hh : heap ys ys.length) (H1 : Hp w1 p bm hv' ys) (hf : Fr (fun k => k = p ∨ Foot hv xs k) w w1)
    (hm : MapIs w2 bm intKey (mdel x.2.2 kvs)) (hf2 : Fr (fun k => k = bm) w1 w2) : ∃ F', Wh w2 p (rStop l x.2.2) F' ∧ Fr F w w2 ∧ ∀ k, F' k → F k := by
  have hgx : g xs i = x := by have := List.getElem?_eq_some_iff.1 hx; rw [g_at this.1]; exact this.2
  rw [hgx] at hp
  have hsub : ∀ k, Foot hv' ys k → Foot hv xs k := fun k hk => by
    rcases hk with hk | hk
    · exact .inl (ho ▸ hk)
    · exact .inr (((hp.map (·.1)).mem_iff).1 (by rw [List.map_append]; exact List.mem_append_left _ hk))
  have hxl := H.get_l hx
  have hp' : xs.Perm (x :: ys) := hp.symm.trans (List.perm_append_comm)
  refine ⟨WF p bm hv' ys, ⟨bm, hv', ys, mdel x.2.2 kvs, ⟨H1.fr hf2 (fun e => H.bmp e.symm) (fun k hk e => H.bmf (e ▸ hsub k hk)), hh, hm, ?_, ?_, stop_nodup H.nd _, stop_sorted H.so _, ?_, fun k => Iff.rfl⟩⟩, ?_, ?_⟩
  · have h1 := (mdel_perm hg).trans (H.kp.trans (hp'.map fun x => (x.2.2, ptr x.1)))
    exact List.Perm.cons_inv h1
  · have h1 := (stop_perm H.nd hxl).trans (H.lp.trans (hp'.map (·.2)))
    exact List.Perm.cons_inv h1
  · have := stop_len_in H.nd hxl; have := H.le; omega
  · exact (hf.mono fun k _ q => (H.ff k).2 (q.elim (fun e => .inl e) fun e => .inr (.inr e))).trans hf2 fun k _ e => (H.ff k).2 (.inr (.inl e))
  · intro k hk
    rcases hk with e | e | e
    · exact (H.ff k).2 (.inl e)
    · exact (H.ff k).2 (.inr (.inl e))
    · exact (H.ff k).2 (.inr (.inr (hsub k e)))
set_option maxRecDepth 100000 in
set_option maxHeartbeats 1000000 in
theorem stop_any {w : World} {p : Nat} {l : List TM} {F : Nat → Prop} (H : Wh w p l F) (id : Int) :
    Calls Try.prog 26 #[.pointer (some ⟨p, 0, none⟩), .int .i64 id] w (StopPost p l id F w) := by
  obtain ⟨bm, hv, xs, kvs, H⟩ := H
  have hc := H.hp.top.cell 1
  have hlk := H.mp.lookup (T := 61) (E := 130) (intLaw Try.underlying3) Try.underlying61 (zitem w) id true
  have hm := Lib.hid (made_any H.hp.top)
  rcases H.get id with ⟨hg, hn⟩ | ⟨i, x, hx, rfl, hg⟩
  · have hlk' : (Instr.lookup 61 (.map (some bm)) (.int .i64 id) true).run Try.prog w = .ok (.tuple #[.pointer none, .bool false]) w := by rw [hg] at hlk; exact hlk
    have HP : Hid (StopPost p l id F w (.returned (.bool false)) w) := Lib.hid ⟨by simp [hn], F, by rw [stop_none hn]; exact ⟨bm, hv, xs, kvs, H⟩, Fr.refl _ _, fun _ h => h⟩
    clear hlk hg hn H
    go_enter Try.func26, Try.ntmps26
    go_wp2_with fail
    refine (hm.out).mono ?_
    rintro e w' ⟨rfl, rfl⟩
    go_wp2
    go_ret
    exact HP.out
  · have hlk' : (Instr.lookup 61 (.map (some bm)) (.int .i64 x.2.2) true).run Try.prog w = .ok (.tuple #[.pointer (some ⟨x.1, 0, none⟩), .bool true]) w := by rw [hg] at hlk; exact hlk
    have hxi : i < xs.length := (List.getElem?_eq_some_iff.1 hx).1
    have hci := (H.hp.its i x hx).cell 2
    have hmax : xs.length ≤ 50000 := by have := H.len; have := H.le; omega
    obtain ⟨n, hn⟩ : ∃ n, xs.length = n + 1 := ⟨xs.length - 1, by omega⟩
    have HR := Lib.hid (hrem_any p bm i n hv xs w.drew (H.drewN 1).hp hn (by omega) hmax H.hh)
    have HM := Lib.hid H
    have HX := Lib.hid hx
    have HG := Lib.hid hg
    have HN := Lib.hid hn
    clear hlk hg H hx hn hmax
    go_enter Try.func26, Try.ntmps26
    go_wp2_with fail
    refine (hm.out).mono ?_
    rintro e w' ⟨rfl, rfl⟩
    go_wp2_with fail
    go_still_tail 8, (by kernel_rfl)
    go_wp2_with fail
    refine (HR.out).mono ?_
    rintro e w1 ⟨rfl, hv', ys, ho, hp, hh, H1, hf⟩
    have hc1 := H1.top.cell 1
    have hyl : ys.length = n := by have h1 := hp.length_eq; have h2 := HN.out; simp at h1; omega
    rw [← hyl] at hh
    have hfw : Fr (fun k => k = p ∨ Foot hv xs k) w w1 := ⟨hf.os, hf.tape, hf.output, hf.size, hf.block⟩
    obtain ⟨w2, hdel, hm2, hf2⟩ := (HM.out.mp.fr hfw (fun e => e.elim HM.out.bmp HM.out.bmf)).delete (intLaw Try.underlying3) Try.underlying61 x.2.2 3 0
    have hdel' : (Builtin.delete_ #[61, 3] 0 #[.map (some bm), .int .i64 x.2.2]).run Try.prog w1 = .ok (.tuple #[]) w2 := hdel
    have HE := Lib.hid (stop_end HM.out HX.out HG.out ho hp hh H1 hfw hm2 hf2)
    have HT := Lib.hid (show decide (x.2.2 ∈ l.map (·.2)) = true from decide_eq_true (List.mem_map.2 ⟨_, HM.out.get_l HX.out, rfl⟩))
    clear hdel hyl ho hp hh H1 hf hfw hm2 hf2
    go_wp2
    go_ret
    exact ⟨ret_bool HT.out.symm, HE.out⟩
end Go.Proofs.Ytgfoobgkpnknmaa
