/- The wheel as an object: Due. -/
import Derived.Test.YtgfoobgkpnknmaaW8
import Derived.Deep.LoopGhost
namespace Go.Proofs.Ytgfoobgkpnknmaa
set_option linter.unusedSimpArgs false
set_option linter.unusedVariables false
open Go.RowKit
theorem e36i : ElemInfo Try.prog 36 2 16 (.agg #[.int .i64 0, .int .i64 0]) := ElemInfo.mk' (by kernel_rfl)
def tcells (l : List TM) : List Value := l.flatMap fun t => [.int .i64 t.1, .int .i64 t.2]
theorem tcells_snoc (l : List TM) (t : TM) : tcells (l ++ [t]) = tcells l ++ [.int .i64 t.1, .int .i64 t.2] := by simp [tcells]
theorem tcells_len (l : List TM) : (tcells l).length = l.length * 2 := by
  induction l with
  | nil => rfl
  | cons t r ih => simp [tcells] at ih ⊢; omega
def DuePost (p : Nat) (l : List TM) (now : Int) (F : Nat → Prop) (w : World) (e : Ending) (w' : World) : Prop :=
  ∃ v F', e = .returned v ∧ w'.ownsRow w.heap.size 36 2 v (rDueA l now).length (tcells (rDueA l now)) ∧ Wh w' p (rDueB l now) F' ∧ Fr F w w' ∧ ∀ k, F' k → F k
def DueRel (p : Nat) (l : List TM) (now : Int) (F : Nat → Prop) (w : World) (gk : Nat) (v t ok : Value) (wr : World) : Prop :=
  ∃ (j : Nat) (tb : Nat) (F' : Nat → Prop), j + gk = l.length ∧ (∀ s ∈ l.take j, s.1 ≤ now) ∧ t = .pointer (some ⟨tb, 0, none⟩) ∧ ok = .bool (!(l.drop j).isEmpty) ∧ Blk wr tb 36 #[.int .i64 (rTop (l.drop j)).1, .int .i64 (rTop (l.drop j)).2] ∧
    w.heap.size ≤ tb ∧ v.ownBlock ≠ some tb ∧ wr.ownsRow w.heap.size 36 2 v j (tcells (l.take j)) ∧ Wh wr p (l.drop j) F' ∧ Fr F w wr ∧ ∀ k, F' k → F k
theorem due_split {l : List TM} {j : Nat} {now : Int} (hj : j ≤ l.length) (h : ∀ s ∈ l.take j, s.1 ≤ now) (he : ∀ t r, l.drop j = t :: r → now < t.1) : rDueA l now = l.take j ∧ rDueB l now = l.drop j := by
  unfold rDueA rDueB
  have e : l = l.take j ++ l.drop j := (List.take_append_drop j l).symm
  have hd : (l.drop j).takeWhile (fun t => decide (t.1 ≤ now)) = [] ∧ (l.drop j).dropWhile (fun t => decide (t.1 ≤ now)) = l.drop j := by
    cases hq : l.drop j with
    | nil => simp
    | cons t r =>
      have := he t r hq
      simp [show ¬ (t.1 ≤ now) by omega]
  have h1 : ∀ s ∈ l.take j, decide (s.1 ≤ now) = true := fun s hs => decide_eq_true (h s hs)
  constructor
  · conv => lhs; rw [e]
    rw [List.takeWhile_append_of_pos h1, hd.1, List.append_nil]
  · conv => lhs; rw [e]
    rw [List.dropWhile_append_of_pos h1, hd.2]
theorem top_drop {l : List TM} {j k : Nat} (h : j + (k + 1) = l.length) : ∃ t r, l.drop j = t :: r ∧ l.drop (j + 1) = r ∧ l.take (j + 1) = l.take j ++ [t] ∧ t ∈ l := by
  have hj : j < l.length := by omega
  exact ⟨l[j], l.drop (j + 1), List.drop_eq_getElem_cons hj, rfl, List.take_succ_eq_append_getElem hj, List.getElem_mem hj⟩
set_option maxRecDepth 100000 in
set_option maxHeartbeats 2000000 in
theorem due_any {w : World} {p : Nat} {l : List TM} {F : Nat → Prop} (H : Wh w p l F) (now : Int) :
    Calls Try.prog 22 #[.pointer (some ⟨p, 0, none⟩), .int .i64 now] w (DuePost p l now F w) := by
  have hFw := Lib.hid fun k (hk : F k) => H.lt hk
  have hle : l.length ≤ 4096 := by obtain ⟨_, _, _, _, H⟩ := H; exact H.le
  have hn := Lib.hid (next_any H)
  have HW := Lib.hid H
  clear H
  go_enter Try.func22, Try.ntmps22
  go_wp2_with fail
  refine (hn.out).mono ?_
  rintro e w1 ⟨rfl, hb1⟩
  go_wp2_with fail
  have hst : DueRel p l now F w l.length (.slice none 0 0) (.pointer (some ⟨w1.heap.size, 0, none⟩)) (.bool (!l.isEmpty)) (w1.alloc (.cells #[.int .i64 (rTop l).1, .int .i64 (rTop l).2] 36)) :=
    ⟨0, w1.heap.size, F, by omega, by simp, rfl, rfl, Blk.new _ _ _, hb1.size, by simp [Value.ownBlock], ⟨rfl, .inl ⟨rfl, rfl⟩⟩, (HW.out.below hb1).fr ((Fr.refl (fun _ => False) _).alloc _) (fun _ _ h => h), (Fr.of_below hb1).alloc _, fun _ h => h⟩
  have HST := Lib.hid hst
  clear hst
  go_loopg [5, 6, 7] l.length (fun k v t ok wr => DueRel p l now F w k v t ok wr)
  case atStart => exact HST.out
  case round =>
    obtain ⟨j, tb, F', hj, hall, rfl, rfl, hblk, hwt, hnt, hown, hwh, hf, hsub⟩ := hrel
    have hws := hf.size
    rcases gk with _ | k
    · have he : l.drop j = [] := List.drop_eq_nil_of_le (by omega)
      have HS := Lib.hid (due_split (now := now) (by omega) hall (fun t r q => by rw [he] at q; cases q))
      have HP : Hid (DuePost p l now F w (.returned u5) wr) := Lib.hid ⟨u5, F', rfl, by
        rw [HS.out.1, List.length_take, Nat.min_eq_left (by omega)]; exact hown, by rw [HS.out.2]; exact hwh, hf, hsub⟩
      rw [he]
      clear hblk hown hwh hf hall hnt
      go_wp2
      go_ret
      exact HP.out
    · obtain ⟨t, r, hd, hd', htk, htl⟩ := top_drop hj
      rw [hd] at hblk hwh
      rw [hd]
      have hnd : (((t :: r).map (·.2))).Nodup := by obtain ⟨_, _, _, _, H⟩ := hwh; exact H.nd
      have hsr := stop_head hnd
      by_cases hle : t.1 ≤ now
      · have hc0 := hblk.cell 0
        have hc1 := hblk.cell 1
        have htt : (rTop (t :: r)).1 ≤ now := hle
        have hoB := Lib.hid hown
        have hBK := Lib.hid hblk
        have hWH := Lib.hid hwh
        have HF := Lib.hid hf
        have hj4 : j ≤ 4096 := by omega
        have hrt : rTop (t :: r) = t := rfl
        have hnFb : Hid (¬ F' tb) := Lib.hid (fun q => by have := hFw.out _ (hsub _ q); omega)
        have hKB : Hid (∀ w1 : World, wr.grownBy w1 u5.ownBlock → Blk w1 tb 36 #[.int .i64 t.1, .int .i64 t.2]) := Lib.hid (fun w1 hg => (hg.block tb hBK.out.lt (fun e => hnt e.symm)).trans hBK.out)
        have hKW : Hid (∀ w1 : World, wr.grownBy w1 u5.ownBlock → Wh w1 p (t :: r) F') := Lib.hid (fun w1 hg => hWH.out.fr (Fr.of_grown (F := fun k => u5.ownBlock = some k) hg (fun k h => h)) (fun k hk e => by
          have h1 := hFw.out _ (hsub _ hk); have h2 := (hoB.out.lt k e).1; omega))
        clear hblk hwh hf hown
        go_wp2_with (at_builtin; go_must (refine wpList_app1' rfl (.tmp 25) (.tmp 27) 26 rfl w.heap.size 36 2 16 _ Try.underlying26 e36i rfl (by omega) _ _ _ rfl hoB.out [_, _] _ rfl (by simp) rfl (by simp [Value.oneCell']) (by unfold maxLen; omega) (by omega) (by omega) ?_); intro v1 w1 hown1 hb1 hg1 hat1; have hc1 := (hKB.out _ hg1).cell 1)
        refine (stop_any (hKW.out _ hg1) t.2).mono ?_
        rintro e w2 ⟨rfl, F2, hW2, hf2, hs2⟩
        rw [hsr] at hW2
        have hB2 := (hKB.out _ hg1).fr hf2 hnFb.out
        have hc20 := hB2.cell 0
        have hc21 := hB2.cell 1
        have hW3 := hW2.fr ((Fr.refl (fun _ => False) _).alloc (.cells #[.int .i64 t.1, .int .i64 t.2] 36)) (fun _ _ h => h)
        have hn3 := Lib.hid (next_any hW3)
        have hB3 := Lib.hid (Blk.new w2 36 #[.int .i64 t.1, .int .i64 t.2])
        have HW3 := Lib.hid hW3
        have HH := Lib.hid hb1
        have HO1 := Lib.hid hown1
        have HF2 := Lib.hid hf2
        clear hB2 hW2 hW3 hb1 hf2 hown1
        go_wp2_with fail
        refine (hn3.out).mono ?_
        rintro e w4 ⟨rfl, hb4⟩
        have hB4 := hB3.out.fr (Fr.of_below (F := fun _ => False) hb4) (fun h => h)
        have hc40 := hB4.cell 0
        have hc41 := hB4.cell 1
        have hf40 := hB4.frozen 0
        have hf41 := hB4.frozen 1
        have HB4 := Lib.hid hb4
        have HBB := Lib.hid hB4
        clear hb4 hB4
        go_wp2
        go_roundg k
        case measure => omega
        case rel =>
          have s1 := HH.out.size
          have s2 := HF2.out.size
          have s4 := HB4.out.size
          simp at s4
          have hlt1 : ∀ k, v1.ownBlock = some k → w.heap.size ≤ k ∧ k < w1.heap.size := fun k hk => HO1.out.lt k hk
          have hsu : ∀ k, F2 k → k < w.heap.size := fun k hk => hFw.out k (hsub k (hs2 k hk))
          have fs : Fr (fun k => k = w2.heap.size) w4 ((w4.setCell ⟨w2.heap.size, 0, none⟩ (.int .i64 (rTop r).1)).setCell ⟨w2.heap.size, 1, none⟩ (.int .i64 (rTop r).2)) :=
            ((Fr.refl (fun k => k = w2.heap.size) w4).set (p := ⟨w2.heap.size, 0, none⟩) (fun _ => rfl) _).set (p := ⟨w2.heap.size, 1, none⟩) (fun _ => rfl) _
          have f4 : Fr (fun k => k = w2.heap.size) (w2.alloc (.cells #[.int .i64 t.1, .int .i64 t.2] 36)) _ := (Fr.of_below HB4.out).trans fs (fun _ _ q => q)
          have f2 : Fr (fun k => k = w2.heap.size) w2 _ := ((Fr.refl (fun _ => False) w2).alloc (.cells #[.int .i64 t.1, .int .i64 t.2] 36) |>.mono fun _ _ q => q.elim).trans f4 (fun _ _ q => q)
          have f1 : Fr (fun k => F' k ∨ k = w2.heap.size) w1 _ := (HF2.out.mono fun _ _ q => Or.inl q).trans f2 (fun _ _ q => Or.inr q)
          have f0 : Fr (fun k => u5.ownBlock = some k ∨ F' k ∨ k = w2.heap.size) wr _ := (Fr.of_grown hg1 (fun k e => Or.inl e)).trans f1 (fun _ _ q => Or.inr q)
          refine ⟨j + 1, w2.heap.size, F2, by omega, ?_, rfl, ?_, ?_, by omega, ?_, ?_, ?_, ?_, fun k hk => hsub k (hs2 k hk)⟩
          · rw [htk]
            intro s hs
            rcases List.mem_append.1 hs with h | h
            · exact hall s h
            · simp at h; subst h; exact hle
          · rw [hd']
          · rw [hd']; exact (HBB.out.set_ 0 _).set_ 1 _
          · intro e; have := (hlt1 _ e).2; omega
          · rw [htk, tcells_snoc]
            refine own_fr (by simpa using HO1.out) f1 (fun k hk q => ?_)
            have h1 := hlt1 k hk
            rcases q with q | q
            · have := hFw.out k (hsub k q); omega
            · omega
          · rw [hd']
            exact (HW3.out.below HB4.out).fr fs (fun k hk e => by have := hsu k hk; omega)
          · refine HF.out.trans f0 (fun k hk q => ?_)
            rcases q with q | q | q
            · have := (hoB.out.lt k q).1; omega
            · exact hsub k q
            · omega
      · have HS := Lib.hid (due_split (now := now) (by omega) hall (fun t' r' q => by rw [hd] at q; injection q with q1 q2; subst q1; omega))
        have HP : Hid (DuePost p l now F w (.returned u5) wr) := Lib.hid ⟨u5, F', rfl, by
          rw [HS.out.1, List.length_take, Nat.min_eq_left (by omega)]; exact hown, by rw [HS.out.2, hd]; exact hwh, hf, hsub⟩
        have hc0 := hblk.cell 0
        have htt : now < (rTop (t :: r)).1 := by show now < t.1; omega
        clear hblk hown hwh hf hall hnt hd hd' htk hsr hnd
        go_wp2
        go_ret
        exact HP.out
end Go.Proofs.Ytgfoobgkpnknmaa
