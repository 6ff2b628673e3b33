/- The client's table as an object: what it keeps; New, made, Len, Live. -/
import Derived.Test.YtgfoobgkpnknmaaW9
import Derived.Test.YtgfoobgkpnknmaaC1
import Derived.Test.YtgfoobgkpnknmaaN
import Derived.Test.YtgfoobgkpnknmaaA1
namespace Go.Proofs.Ytgfoobgkpnknmaa
set_option linter.unusedSimpArgs false
set_option linter.unusedVariables false
open Go.RowKit
abbrev XC := Nat × CC
def ccell (c : CC) : Array Value := #[.string c.br, .int .i64 c.bg, .int .i64 c.tm, .string c.to, .string c.bs, .bool (decide (0 ≤ c.rest))]
def CF (p bn bc : Nat) (xs : List XC) (FW : Nat → Prop) (k : Nat) : Prop := k = p ∨ k = bn ∨ k = bc ∨ k ∈ xs.map (·.1) ∨ FW k
/-- block p is a table of the transactions xs, whose wheel keeps l; its memory is F -/
structure ClI (w : World) (p : Nat) (most last : Int) (xs : List XC) (l : List TM) (F : Nat → Prop) (bn bc pw : Nat) (kn : List (ByteArray × Value)) (kc : List (Int × Value)) (FW : Nat → Prop) : Prop where
  top : Blk w p 99 #[.int .i64 most, .int .i64 last, .map (some bn), .map (some bc), .pointer (some ⟨pw, 0, none⟩)]
  nm : MapIs w bn strKey kn
  cm : MapIs w bc intKey kc
  wh : Wh w pw l FW
  its : ∀ (i : Nat) (x : XC), xs[i]? = some x → Blk w x.1 143 (ccell x.2)
  nd : (xs.map (·.1)).Nodup
  pn : kn.Perm (xs.map fun x => (x.2.br, .int .i64 x.2.id))
  pc : kc.Perm (xs.map fun x => (x.2.id, ptr x.1))
  dn : bn ≠ bc
  fn : ¬ FW bn
  fc : ¬ FW bc
  ff : ∀ k, F k ↔ CF p bn bc xs FW k
def Cl (w : World) (p : Nat) (most last : Int) (cs : List CC) (F : Nat → Prop) : Prop := ∃ xs l bn bc pw kn kc FW, xs.map (·.2) = cs ∧ ClI w p most last xs l F bn bc pw kn kc FW ∧ ClP most last cs l
section
variable {w w' : World} {p bn bc pw : Nat} {most last : Int} {xs : List XC} {l : List TM} {F FW G : Nat → Prop} {kn : List (ByteArray × Value)} {kc : List (Int × Value)}
theorem ClI.fwp (H : ClI w p most last xs l F bn bc pw kn kc FW) : ¬ FW p := H.wh.notT H.top (by decide) (by decide) (by decide)
theorem ClI.fwx (H : ClI w p most last xs l F bn bc pw kn kc FW) {x : XC} (hx : x ∈ xs) : ¬ FW x.1 := by
  obtain ⟨i, hi⟩ := List.getElem?_of_mem hx
  exact H.wh.notT (H.its i x hi) (by decide) (by decide) (by decide)
theorem ClI.fr (H : ClI w p most last xs l F bn bc pw kn kc FW) (hf : Fr G w w') (hd : ∀ k, F k → ¬ G k) : ClI w' p most last xs l F bn bc pw kn kc FW := by
  have h : ∀ k, CF p bn bc xs FW k → ¬ G k := fun k hk => hd k ((H.ff k).2 hk)
  exact ⟨H.top.fr hf (h p (.inl rfl)), H.nm.fr hf (h bn (.inr (.inl rfl))), H.cm.fr hf (h bc (.inr (.inr (.inl rfl)))), H.wh.fr hf (fun k hk => h k (.inr (.inr (.inr (.inr hk))))),
    fun i x hx => (H.its i x hx).fr hf (h x.1 (.inr (.inr (.inr (.inl (List.mem_map.2 ⟨x, List.mem_of_getElem? hx, rfl⟩)))))), H.nd, H.pn, H.pc, H.dn, H.fn, H.fc, H.ff⟩
theorem Cl.fr {cs : List CC} (H : Cl w p most last cs F) (hf : Fr G w w') (hd : ∀ k, F k → ¬ G k) : Cl w' p most last cs F := by
  obtain ⟨xs, l, bn, bc, pw, kn, kc, FW, e, H, P⟩ := H
  exact ⟨xs, l, bn, bc, pw, kn, kc, FW, e, H.fr hf hd, P⟩
theorem Cl.below {cs : List CC} (H : Cl w p most last cs F) (hb : Below w.heap.size w w') : Cl w' p most last cs F := H.fr (Fr.of_below (F := fun _ => False) hb) (fun _ _ h => h)
theorem ClI.lt (H : ClI w p most last xs l F bn bc pw kn kc FW) {k : Nat} (hk : F k) : k < w.heap.size := by
  rcases (H.ff k).1 hk with rfl | rfl | rfl | hk | hk
  · exact H.top.lt
  · exact H.nm.lt
  · exact H.cm.lt
  · obtain ⟨x, hx, rfl⟩ := List.mem_map.1 hk
    obtain ⟨i, hi⟩ := List.getElem?_of_mem hx
    exact (H.its i x hi).lt
  · exact H.wh.lt hk
theorem Cl.lt {cs : List CC} (H : Cl w p most last cs F) {k : Nat} (hk : F k) : k < w.heap.size := by
  obtain ⟨xs, l, bn, bc, pw, kn, kc, FW, e, H, P⟩ := H
  exact H.lt hk
theorem Cl.notT {cs : List CC} (H : Cl w p most last cs F) {b : Nat} {ds : Array Value} {T : TypeId} {fr : Nat × Nat} (hb : w.heap[b]? = some (.cells ds T fr)) (h1 : T ≠ 63) (h2 : T ≠ 133) (h3 : T ≠ 130) (h4 : T ≠ 99) (h5 : T ≠ 143) : ¬ F b := by
  intro hF
  obtain ⟨xs, l, bn, bc, pw, kn, kc, FW, e, H, P⟩ := H
  rcases (H.ff b).1 hF with rfl | rfl | rfl | hk | hk
  · have := H.top; unfold Blk at this; rw [hb] at this; injection this with this; injection this with _ q; exact h4 q
  · obtain ⟨es, c, h, _⟩ := H.nm; rw [hb] at h; cases h
  · obtain ⟨es, c, h, _⟩ := H.cm; rw [hb] at h; cases h
  · obtain ⟨x, hx, rfl⟩ := List.mem_map.1 hk
    obtain ⟨i, hi⟩ := List.getElem?_of_mem hx
    have := H.its i x hi
    unfold Blk at this; rw [hb] at this; injection this with this; injection this with _ q; exact h5 q
  · exact H.wh.notT hb h1 h2 h3 hk
theorem ClI.keyn (H : ClI w p most last xs l F bn bc pw kn kc FW) (hb : ((xs.map (·.2)).map (·.br)).Nodup) : (kn.map (·.1)).Nodup := by
  have h := H.pn.map (·.1)
  rw [List.map_map] at h hb
  exact (h.nodup_iff).2 hb
theorem ClI.keyc (H : ClI w p most last xs l F bn bc pw kn kc FW) (hb : ((xs.map (·.2)).map (·.id)).Nodup) : (kc.map (·.1)).Nodup := by
  have h := H.pc.map (·.1)
  rw [List.map_map] at h hb
  exact (h.nodup_iff).2 hb
theorem ClI.getn (H : ClI w p most last xs l F bn bc pw kn kc FW) (hb : ((xs.map (·.2)).map (·.br)).Nodup) {i : Nat} {x : XC} (hx : xs[i]? = some x) : mget x.2.br kn = some (.int .i64 x.2.id) :=
  mget_of_mem (H.keyn hb) (H.pn.mem_iff.2 (List.mem_map.2 ⟨x, List.mem_of_getElem? hx, rfl⟩))
theorem ClI.getc (H : ClI w p most last xs l F bn bc pw kn kc FW) (hb : ((xs.map (·.2)).map (·.id)).Nodup) {i : Nat} {x : XC} (hx : xs[i]? = some x) : mget x.2.id kc = some (ptr x.1) :=
  mget_of_mem (H.keyc hb) (H.pc.mem_iff.2 (List.mem_map.2 ⟨x, List.mem_of_getElem? hx, rfl⟩))
theorem ClI.non (H : ClI w p most last xs l F bn bc pw kn kc FW) {br : ByteArray} (h : br ∉ (xs.map (·.2)).map (·.br)) : mget br kn = none := by
  refine mget_none fun hm => h ?_
  have := (H.pn.map (·.1)).mem_iff.1 hm
  rw [List.map_map] at this ⊢
  exact this
theorem ClI.noc (H : ClI w p most last xs l F bn bc pw kn kc FW) {id : Int} (h : id ∉ (xs.map (·.2)).map (·.id)) : mget id kc = none := by
  refine mget_none fun hm => h ?_
  have := (H.pc.map (·.1)).mem_iff.1 hm
  rw [List.map_map] at this ⊢
  exact this
theorem ClI.lenc (H : ClI w p most last xs l F bn bc pw kn kc FW) : kc.length = xs.length := by have := H.pc.length_eq; simpa using this
end
theorem zcall (w : World) : (zeroValue 141).run Try.prog w = .ok (.pointer none) w := by kernel_rfl
theorem zint (w : World) : (zeroValue 3).run Try.prog w = .ok (.int .i64 0) w := by kernel_rfl
theorem cmade_any {w : World} {p pw : Nat} {a b c d : Value} (h : Blk w p 99 #[a, b, c, d, .pointer (some ⟨pw, 0, none⟩)]) :
    Calls Try.prog 62 #[.pointer (some ⟨p, 0, none⟩)] w fun e w' => e = .returned (.bool true) ∧ w = w' := by
  have hc := h.cell 4
  go_enter Try.func62, Try.ntmps62
  go_wp2
  go_ret
  exact ⟨rfl, rfl⟩
theorem cmade_nil (w : World) : Calls Try.prog 62 #[.pointer none] w fun e w' => e = .returned (.bool false) ∧ w = w' := by
  go_enter Try.func62, Try.ntmps62
  go_wp2
  go_ret
  exact ⟨rfl, rfl⟩
theorem cmade_zero {w : World} {p : Nat} {a b c d : Value} (h : Blk w p 99 #[a, b, c, d, .pointer none]) :
    Calls Try.prog 62 #[.pointer (some ⟨p, 0, none⟩)] w fun e w' => e = .returned (.bool false) ∧ w = w' := by
  have hc := h.cell 4
  go_enter Try.func62, Try.ntmps62
  go_wp2
  go_ret
  exact ⟨rfl, rfl⟩
def CNewPost (w : World) (most : Int) (e : Ending) (w' : World) : Prop := ∃ p F, e = .returned (.tuple #[.pointer (some ⟨p, 0, none⟩), .int .i64 0]) ∧ Cl w' p most 0 [] F ∧ Below w.heap.size w w' ∧ ∀ k, F k → w.heap.size ≤ k
theorem cnew_no (most : Int) (w : World) (h : most < 1 ∨ 200 < most) : Calls Try.prog 37 #[.int .i64 most] w fun e w' => e = .returned (.tuple #[.pointer none, .int .i64 9]) ∧ w = w' := by
  rcases h with h | h
  all_goals
    go_enter Try.func37, Try.ntmps37
    go_wp2
    all_goals
      go_ret2
      exact ⟨rfl, rfl⟩
theorem cnew_any (most : Int) (w : World) (h1 : 1 ≤ most) (h2 : most ≤ 200) : Calls Try.prog 37 #[.int .i64 most] w (CNewPost w most) := by
  have hmm := @run_makeMap Try.prog
  go_enter Try.func37, Try.ntmps37
  go_wp2_with fail
  refine (new_any _).mono ?_
  rintro e w1 ⟨pw, FW, rfl, hW, hb, hF⟩
  have hs := hb.size
  simp at hs
  have HP : Hid (CNewPost w most (.returned (.tuple #[.pointer (some ⟨w1.heap.size, 0, none⟩), .int .i64 0])) (w1.alloc (.cells #[.int .i64 most, .int .i64 0, .map (some w.heap.size), .map (some (w.heap.size + 1)), .pointer (some ⟨pw, 0, none⟩)] 99))) := by
    have m1 := (MapIs.made (κ := ByteArray) w strKey).fr ((Fr.refl (fun _ => False) _).alloc (.map #[] 0)) (fun h => h)
    have m2 := MapIs.made (κ := Int) (w.alloc (.map #[] 0)) intKey
    rw [show (w.alloc (.map #[] 0)).heap.size = w.heap.size + 1 by simp] at m2
    have f1 := (Fr.of_below (F := fun _ => False) hb).alloc (.cells #[.int .i64 most, .int .i64 0, .map (some w.heap.size), .map (some (w.heap.size + 1)), .pointer (some ⟨pw, 0, none⟩)] 99)
    have hF' : ∀ k, FW k → w.heap.size + 2 ≤ k := fun k hk => by have := hF k hk; simp at this; omega
    refine Lib.hid ⟨w1.heap.size, CF w1.heap.size w.heap.size (w.heap.size + 1) [] FW, rfl, ⟨[], [], w.heap.size, w.heap.size + 1, pw, [], [], FW, rfl, ⟨Blk.new _ _ _, m1.fr f1 (fun h => h), m2.fr f1 (fun h => h), hW.fr ((Fr.refl (fun _ => False) _).alloc _) (fun _ _ h => h), fun i x hx => by simp at hx, by simp, List.Perm.refl _, List.Perm.refl _, by omega, fun h => by have := hF' _ h; omega, fun h => by have := hF' _ h; omega, fun k => Iff.rfl⟩, ClP.nil (by omega) h2 (by omega)⟩, ?_, fun k hk => ?_⟩
    · exact ((((Below.refl _ _).alloc (Nat.le_refl _) _).alloc (by simp) _).trans (hb.mono (by simp; omega))).alloc (by omega) _
    · rcases hk with rfl | rfl | rfl | hk | hk
      · omega
      · omega
      · omega
      · simp at hk
      · have := hF' k hk; omega
  clear hW hb hF
  go_wp2
  go_ret2
  exact HP.out
theorem clen_any {w : World} {p : Nat} {most last : Int} {cs : List CC} {F : Nat → Prop} (H : Cl w p most last cs F) :
    Calls Try.prog 41 #[.pointer (some ⟨p, 0, none⟩)] w fun e w' => e = .returned (.int .i64 cs.length) ∧ w = w' := by
  obtain ⟨xs, l, bn, bc, pw, kn, kc, FW, rfl, H, P⟩ := H
  have hm := Lib.hid (cmade_any H.top)
  have hc := H.top.cell 3
  have hl := H.cm.len Try.underlying97
  have HL := Lib.hid H.lenc
  clear H P
  go_enter Try.func41, Try.ntmps41
  go_wp2_with fail
  refine (hm.out).mono ?_
  rintro e w' ⟨rfl, rfl⟩
  go_wp2
  go_ret
  exact ⟨ret_int (by rw [HL.out, List.length_map]), rfl⟩
theorem live_some {cs : List CC} {i : Nat} {c : CC} (hn : (cs.map (·.id)).Nodup) (h : cs[i]? = some c) : cLive cs c.id = decide (c.rest < 0) := by
  unfold cLive
  have : cs.find? (fun d => decide (d.id = c.id)) = some c := by
    have hm := List.mem_of_getElem? h
    clear h
    induction cs with
    | nil => cases hm
    | cons a r ih =>
      rw [List.map_cons, List.nodup_cons] at hn
      rcases List.mem_cons.1 hm with e | e
      · subst e; rw [List.find?_cons_of_pos (by simp)]
      · rw [List.find?_cons_of_neg (by simp only [decide_eq_true_eq]; exact fun q => hn.1 (q ▸ List.mem_map.2 ⟨c, e, rfl⟩))]
        exact ih hn.2 e
  rw [this]
theorem live_none {cs : List CC} {id : Int} (h : id ∉ cs.map (·.id)) : cLive cs id = false := by
  unfold cLive
  rw [List.find?_eq_none.2 (fun c hc => by simpa using fun e => h (List.mem_map.2 ⟨c, hc, e⟩))]
theorem clive_any {w : World} {p : Nat} {most last : Int} {cs : List CC} {F : Nat → Prop} (H : Cl w p most last cs F) (id : Int) :
    Calls Try.prog 44 #[.pointer (some ⟨p, 0, none⟩), .int .i64 id] w fun e w' => e = .returned (.bool (cLive cs id)) ∧ w = w' := by
  obtain ⟨xs, l, bn, bc, pw, kn, kc, FW, rfl, H, P⟩ := H
  have hm := Lib.hid (cmade_any H.top)
  have hc := H.top.cell 3
  have hlk := H.cm.lookup (T := 97) (E := 141) (intLaw Try.underlying3) Try.underlying97 (zcall w) id true
  by_cases hin : id ∈ (xs.map (·.2)).map (·.id)
  · obtain ⟨c, hcx, rfl⟩ := List.mem_map.1 hin
    obtain ⟨x, hx, rfl⟩ := List.mem_map.1 hcx
    obtain ⟨i, hi⟩ := List.getElem?_of_mem hx
    have HV := Lib.hid (live_some P.idnd (c := x.2) (i := i) (by rw [List.getElem?_map, hi]; rfl))
    rw [H.getc P.idnd hi] at hlk
    have hlk' : (Instr.lookup 97 (.map (some bc)) (.int .i64 x.2.id) true).run Try.prog w = .ok (.tuple #[.pointer (some ⟨x.1, 0, none⟩), .bool true]) w := hlk
    have hb := (H.its i x hi).cell 5
    have hb' : w.cell? ⟨x.1, 5, none⟩ = some (.bool (decide (0 ≤ x.2.rest))) := hb
    have HQ : Hid (∀ b, b = decide (0 ≤ x.2.rest) → (!b) = decide (x.2.rest < 0)) := Lib.hid (by
      rintro _ rfl
      by_cases q : 0 ≤ x.2.rest
      · simp [q]
      · simp [q]; omega)
    show Calls _ _ #[_, .int .i64 x.2.id] _ _
    clear hlk hin H P hx hi hb hcx
    generalize hd : decide (0 ≤ x.2.rest) = d at *
    have HD := Lib.hid hd
    clear hd
    go_enter Try.func44, Try.ntmps44
    go_wp2_with fail
    refine (hm.out).mono ?_
    rintro e w' ⟨rfl, rfl⟩
    go_wp2
    go_ret
    exact ⟨ret_bool (by rw [HV.out, HQ.out d rfl]), rfl⟩
  · have HV := Lib.hid (live_none hin)
    rw [H.noc hin] at hlk
    have hlk' : (Instr.lookup 97 (.map (some bc)) (.int .i64 id) true).run Try.prog w = .ok (.tuple #[.pointer none, .bool false]) w := hlk
    clear hlk hin H P
    go_enter Try.func44, Try.ntmps44
    go_wp2_with fail
    refine (hm.out).mono ?_
    rintro e w' ⟨rfl, rfl⟩
    go_wp2
    go_ret
    exact ⟨ret_bool (by rw [HV.out]), rfl⟩
end Go.Proofs.Ytgfoobgkpnknmaa
