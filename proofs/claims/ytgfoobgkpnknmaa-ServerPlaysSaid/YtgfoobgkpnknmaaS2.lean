/- The server's table as an object: what it keeps; New, made, Len. -/
import Derived.Test.YtgfoobgkpnknmaaC4
import Derived.Test.YtgfoobgkpnknmaaS1
namespace Go.Proofs.Ytgfoobgkpnknmaa
set_option linter.unusedSimpArgs false
set_option linter.unusedVariables false
open Go.RowKit
/-- what a table of transactions keeps to, its wheel with it -/
structure SvQ (most last : Int) (cs : List SC) (l : List TM) : Prop where
  p : SvP most last cs
  lp : l.Perm (cs.map fun c => (c.over, c.id))
  each : ∀ c ∈ cs, 0 ≤ c.over ∧ c.over ≤ 1099511627776
  most : most ≤ 200
  last : 0 ≤ last
section
variable {most last : Int} {cs : List SC} {l : List TM}
theorem SvP.idnd (H : SvP most last cs) : (cs.map (·.id)).Nodup := by
  rw [List.nodup_iff_pairwise_ne, List.pairwise_map]
  exact H.ids.imp fun h => by omega
theorem SvP.keynd (H : SvP most last cs) : (cs.map (·.key)).Nodup := by
  rw [List.nodup_iff_pairwise_ne, List.pairwise_map]
  exact H.keys
theorem SvQ.len_l (H : SvQ most last cs l) : l.length = cs.length := by have := H.lp.length_eq; simpa using this
theorem SvQ.nodup_l (H : SvQ most last cs l) : (l.map (·.2)).Nodup := by
  have h1 : (l.map (·.2)).Perm (cs.map (·.id)) := by
    have := H.lp.map (·.2)
    simpa [Function.comp_def] using this
  exact (h1.nodup_iff).2 H.p.idnd
theorem SvQ.nil {most last : Int} (h1 : 0 ≤ most) (h2 : most ≤ 200) (h3 : 0 ≤ last) : SvQ most last [] [] :=
  ⟨⟨List.Pairwise.nil, List.Pairwise.nil, fun c hc => by simp at hc, by simpa using h1⟩, List.Perm.refl _, fun c hc => by simp at hc, h2, h3⟩
theorem startE0 {k : SK} {now : Int} (h : sStartE most cs k now = 0) : 0 ≤ now ∧ now ≤ 1099511627776 - 320 ∧ sFind k cs = none ∧ cs.length < most := by
  unfold sStartE at h
  split at h
  · omega
  · split at h
    · omega
    · split at h
      · omega
      · rename_i h1 h2 h3
        exact ⟨by omega, by omega, by simpa using h2, by omega⟩
theorem SvQ.append (H : SvQ most last cs l) {k : SK} {now : Int} (h : sStartE most cs k now = 0) :
    rSetE l (last + 1) (now + 320) = 0 ∧ SvQ most (last + 1) (cs ++ [sNew last k now]) (rSetL l (last + 1) (now + 320)) := by
  obtain ⟨h1, h2, h3, h4⟩ := startE0 h
  have hni : last + 1 ∉ l.map (·.2) := by
    intro h
    obtain ⟨t, ht, e⟩ := List.mem_map.1 h
    obtain ⟨d, hd, hdt⟩ := List.mem_map.1 (H.lp.mem_iff.1 ht)
    have := H.p.low d hd
    rw [← hdt] at e
    simp at e
    omega
  have hll := H.len_l
  have hm := H.most
  have hla := H.last
  have h0 : rSetE l (last + 1) (now + 320) = 0 := setE_new hni (by omega) (by omega) (by omega) (by omega)
  refine ⟨h0, H.p.start hla h, ?_, fun d hd => ?_, H.most, by omega⟩
  · unfold rSetL
    rw [if_pos h0, stop_none hni, List.map_append]
    exact ((ins_perm _ _).trans (H.lp.cons _)).trans (List.perm_append_comm (l₁ := [(now + 320, last + 1)]))
  · rcases List.mem_append.1 hd with q | q
    · exact H.each d q
    · simp at q
      subst q
      show 0 ≤ now + 320 ∧ now + 320 ≤ 1099511627776
      omega
end
abbrev XS := Nat × SC
def scell (c : SC) : Array Value := #[.string c.key.1, .string c.key.2.1, .string c.key.2.2, .string c.to, .string c.bs, .bool c.told]
def SF (p bn bc : Nat) (xs : List XS) (FW : Nat → Prop) (k : Nat) : Prop := k = p ∨ k = bn ∨ k = bc ∨ k ∈ xs.map (·.1) ∨ FW k
/-- block p is a table of the transactions xs, whose wheel keeps l; its memory is F -/
structure SvI (w : World) (p : Nat) (most last : Int) (xs : List XS) (l : List TM) (F : Nat → Prop) (bn bc pw : Nat) (kn : List (SK × Value)) (kc : List (Int × Value)) (FW : Nat → Prop) : Prop where
  top : Blk w p 127 #[.int .i64 most, .int .i64 last, .map (some bn), .map (some bc), .pointer (some ⟨pw, 0, none⟩)]
  nm : MapIs w bn skKey kn
  cm : MapIs w bc intKey kc
  wh : Wh w pw l FW
  its : ∀ (i : Nat) (x : XS), xs[i]? = some x → Blk w x.1 158 (scell x.2)
  nd : (xs.map (·.1)).Nodup
  pn : kn.Perm (xs.map fun x => (x.2.key, .int .i64 x.2.id))
  pc : kc.Perm (xs.map fun x => (x.2.id, ptr x.1))
  dn : bn ≠ bc
  fn : ¬ FW bn
  fc : ¬ FW bc
  ff : ∀ k, F k ↔ SF p bn bc xs FW k
def Sv (w : World) (p : Nat) (most last : Int) (cs : List SC) (F : Nat → Prop) : Prop := ∃ xs l bn bc pw kn kc FW, xs.map (·.2) = cs ∧ SvI w p most last xs l F bn bc pw kn kc FW ∧ SvQ most last cs l
section
variable {w w' : World} {p bn bc pw : Nat} {most last : Int} {xs : List XS} {l : List TM} {F FW G : Nat → Prop} {kn : List (SK × Value)} {kc : List (Int × Value)}
theorem SvI.fwp (H : SvI w p most last xs l F bn bc pw kn kc FW) : ¬ FW p := H.wh.notT H.top (by decide) (by decide) (by decide)
theorem SvI.fwx (H : SvI w p most last xs l F bn bc pw kn kc FW) {x : XS} (hx : x ∈ xs) : ¬ FW x.1 := by
  obtain ⟨i, hi⟩ := List.getElem?_of_mem hx
  exact H.wh.notT (H.its i x hi) (by decide) (by decide) (by decide)
theorem SvI.fr (H : SvI w p most last xs l F bn bc pw kn kc FW) (hf : Fr G w w') (hd : ∀ k, F k → ¬ G k) : SvI w' p most last xs l F bn bc pw kn kc FW := by
  have h : ∀ k, SF p bn bc xs FW k → ¬ G k := fun k hk => hd k ((H.ff k).2 hk)
  exact ⟨H.top.fr hf (h p (.inl rfl)), H.nm.fr hf (h bn (.inr (.inl rfl))), H.cm.fr hf (h bc (.inr (.inr (.inl rfl)))), H.wh.fr hf (fun k hk => h k (.inr (.inr (.inr (.inr hk))))),
    fun i x hx => (H.its i x hx).fr hf (h x.1 (.inr (.inr (.inr (.inl (List.mem_map.2 ⟨x, List.mem_of_getElem? hx, rfl⟩)))))), H.nd, H.pn, H.pc, H.dn, H.fn, H.fc, H.ff⟩
theorem Sv.fr {cs : List SC} (H : Sv w p most last cs F) (hf : Fr G w w') (hd : ∀ k, F k → ¬ G k) : Sv w' p most last cs F := by
  obtain ⟨xs, l, bn, bc, pw, kn, kc, FW, e, H, P⟩ := H
  exact ⟨xs, l, bn, bc, pw, kn, kc, FW, e, H.fr hf hd, P⟩
theorem Sv.below {cs : List SC} (H : Sv w p most last cs F) (hb : Below w.heap.size w w') : Sv w' p most last cs F := H.fr (Fr.of_below (F := fun _ => False) hb) (fun _ _ h => h)
theorem SvI.lt (H : SvI w p most last xs l F bn bc pw kn kc FW) {k : Nat} (hk : F k) : k < w.heap.size := by
  rcases (H.ff k).1 hk with rfl | rfl | rfl | hk | hk
  · exact H.top.lt
  · exact H.nm.lt
  · exact H.cm.lt
  · obtain ⟨x, hx, rfl⟩ := List.mem_map.1 hk
    obtain ⟨i, hi⟩ := List.getElem?_of_mem hx
    exact (H.its i x hi).lt
  · exact H.wh.lt hk
theorem Sv.lt {cs : List SC} (H : Sv w p most last cs F) {k : Nat} (hk : F k) : k < w.heap.size := by
  obtain ⟨xs, l, bn, bc, pw, kn, kc, FW, e, H, P⟩ := H
  exact H.lt hk
theorem Sv.notT {cs : List SC} (H : Sv w p most last cs F) {b : Nat} {ds : Array Value} {T : TypeId} {fr : Nat × Nat} (hb : w.heap[b]? = some (.cells ds T fr)) (h1 : T ≠ 63) (h2 : T ≠ 133) (h3 : T ≠ 130) (h4 : T ≠ 127) (h5 : T ≠ 158) : ¬ F b := by
  intro hF
  obtain ⟨xs, l, bn, bc, pw, kn, kc, FW, e, H, P⟩ := H
  rcases (H.ff b).1 hF with rfl | rfl | rfl | hk | hk
  · have := H.top; unfold Blk at this; rw [hb] at this; injection this with this; injection this with _ q; exact h4 q
  · obtain ⟨es, c, h, _⟩ := H.nm; rw [hb] at h; cases h
  · obtain ⟨es, c, h, _⟩ := H.cm; rw [hb] at h; cases h
  · obtain ⟨x, hx, rfl⟩ := List.mem_map.1 hk
    obtain ⟨i, hi⟩ := List.getElem?_of_mem hx
    have := H.its i x hi
    unfold Blk at this; rw [hb] at this; injection this with this; injection this with _ q; exact h5 q
  · exact H.wh.notT hb h1 h2 h3 hk
theorem SvI.keyn (H : SvI w p most last xs l F bn bc pw kn kc FW) (hb : ((xs.map (·.2)).map (·.key)).Nodup) : (kn.map (·.1)).Nodup := by
  have h := H.pn.map (·.1)
  rw [List.map_map] at h hb
  exact (h.nodup_iff).2 hb
theorem SvI.keyc (H : SvI w p most last xs l F bn bc pw kn kc FW) (hb : ((xs.map (·.2)).map (·.id)).Nodup) : (kc.map (·.1)).Nodup := by
  have h := H.pc.map (·.1)
  rw [List.map_map] at h hb
  exact (h.nodup_iff).2 hb
theorem SvI.getn (H : SvI w p most last xs l F bn bc pw kn kc FW) (hb : ((xs.map (·.2)).map (·.key)).Nodup) {i : Nat} {x : XS} (hx : xs[i]? = some x) : mget x.2.key kn = some (.int .i64 x.2.id) :=
  mget_of_mem (H.keyn hb) (H.pn.mem_iff.2 (List.mem_map.2 ⟨x, List.mem_of_getElem? hx, rfl⟩))
theorem SvI.getc (H : SvI w p most last xs l F bn bc pw kn kc FW) (hb : ((xs.map (·.2)).map (·.id)).Nodup) {i : Nat} {x : XS} (hx : xs[i]? = some x) : mget x.2.id kc = some (ptr x.1) :=
  mget_of_mem (H.keyc hb) (H.pc.mem_iff.2 (List.mem_map.2 ⟨x, List.mem_of_getElem? hx, rfl⟩))
theorem SvI.non (H : SvI w p most last xs l F bn bc pw kn kc FW) {k : SK} (h : k ∉ (xs.map (·.2)).map (·.key)) : mget k kn = none := by
  refine mget_none fun hm => h ?_
  have := (H.pn.map (·.1)).mem_iff.1 hm
  rw [List.map_map] at this ⊢
  exact this
theorem SvI.noc (H : SvI w p most last xs l F bn bc pw kn kc FW) {id : Int} (h : id ∉ (xs.map (·.2)).map (·.id)) : mget id kc = none := by
  refine mget_none fun hm => h ?_
  have := (H.pc.map (·.1)).mem_iff.1 hm
  rw [List.map_map] at this ⊢
  exact this
theorem SvI.drewN (H : SvI w p most last xs l F bn bc pw kn kc FW) (n : Nat) : SvI (w.drewN n) p most last xs l F bn bc pw kn kc FW :=
  H.fr ((Fr.refl (fun _ => False) w).drewN n) (fun _ _ h => h)
/-- the wheel alone has turned -/
theorem SvI.wheel {l' : List TM} {FW' : Nat → Prop} (H : SvI w p most last xs l F bn bc pw kn kc FW) (hw : Wh w' pw l' FW') (hf : Fr FW w w') (hx : Ext FW FW' w) :
    SvI w' p most last xs l' (SF p bn bc xs FW') bn bc pw kn kc FW' ∧ Fr F w w' ∧ Ext F (SF p bn bc xs FW') w := by
  refine ⟨⟨H.top.fr hf H.fwp, H.nm.fr hf H.fn, H.cm.fr hf H.fc, hw, fun i x hx => (H.its i x hx).fr hf (H.fwx (List.mem_of_getElem? hx)), H.nd, H.pn, H.pc, H.dn, fun h => ?_, fun h => ?_, fun k => Iff.rfl⟩, hf.mono (fun k _ q => (H.ff k).2 (.inr (.inr (.inr (.inr q))))), fun k hk => ?_⟩
  · rcases hx _ h with q | q
    · exact H.fn q
    · have := H.nm.lt; omega
  · rcases hx _ h with q | q
    · exact H.fc q
    · have := H.cm.lt; omega
  · rcases hk with q | q | q | q | q
    · exact .inl ((H.ff k).2 (.inl q))
    · exact .inl ((H.ff k).2 (.inr (.inl q)))
    · exact .inl ((H.ff k).2 (.inr (.inr (.inl q))))
    · exact .inl ((H.ff k).2 (.inr (.inr (.inr (.inl q)))))
    · rcases hx k q with r | r
      · exact .inl ((H.ff k).2 (.inr (.inr (.inr (.inr r)))))
      · exact .inr r
theorem SvI.lenc (H : SvI w p most last xs l F bn bc pw kn kc FW) : kc.length = xs.length := by have := H.pc.length_eq; simpa using this
end
theorem zscall (w : World) : (zeroValue 159).run Try.prog w = .ok (.pointer none) w := by kernel_rfl
theorem smade_any {w : World} {p pw : Nat} {a b c d : Value} (h : Blk w p 127 #[a, b, c, d, .pointer (some ⟨pw, 0, none⟩)]) :
    Calls Try.prog 69 #[.pointer (some ⟨p, 0, none⟩)] w fun e w' => e = .returned (.bool true) ∧ w = w' := by
  have hc := h.cell 4
  go_enter Try.func69, Try.ntmps69
  go_wp2
  go_ret
  exact ⟨rfl, rfl⟩
theorem smade_nil (w : World) : Calls Try.prog 69 #[.pointer none] w fun e w' => e = .returned (.bool false) ∧ w = w' := by
  go_enter Try.func69, Try.ntmps69
  go_wp2
  go_ret
  exact ⟨rfl, rfl⟩
theorem smade_zero {w : World} {p : Nat} {a b c d : Value} (h : Blk w p 127 #[a, b, c, d, .pointer none]) :
    Calls Try.prog 69 #[.pointer (some ⟨p, 0, none⟩)] w fun e w' => e = .returned (.bool false) ∧ w = w' := by
  have hc := h.cell 4
  go_enter Try.func69, Try.ntmps69
  go_wp2
  go_ret
  exact ⟨rfl, rfl⟩
def SNewPost (w : World) (most : Int) (e : Ending) (w' : World) : Prop := ∃ p F, e = .returned (.tuple #[.pointer (some ⟨p, 0, none⟩), .int .i64 0]) ∧ Sv w' p most 0 [] F ∧ Below w.heap.size w w' ∧ ∀ k, F k → w.heap.size ≤ k
theorem snew_no (most : Int) (w : World) (h : most < 1 ∨ 200 < most) : Calls Try.prog 46 #[.int .i64 most] w fun e w' => e = .returned (.tuple #[.pointer none, .int .i64 9]) ∧ w = w' := by
  rcases h with h | h
  all_goals
    go_enter Try.func46, Try.ntmps46
    go_wp2
    all_goals
      go_ret2
      exact ⟨rfl, rfl⟩
theorem snew_any (most : Int) (w : World) (h1 : 1 ≤ most) (h2 : most ≤ 200) : Calls Try.prog 46 #[.int .i64 most] w (SNewPost w most) := by
  have hmm := @run_makeMap Try.prog
  go_enter Try.func46, Try.ntmps46
  go_wp2_with fail
  refine (new_any _).mono ?_
  rintro e w1 ⟨pw, FW, rfl, hW, hb, hF⟩
  have hs := hb.size
  simp at hs
  have HP : Hid (SNewPost w most (.returned (.tuple #[.pointer (some ⟨w1.heap.size, 0, none⟩), .int .i64 0])) (w1.alloc (.cells #[.int .i64 most, .int .i64 0, .map (some w.heap.size), .map (some (w.heap.size + 1)), .pointer (some ⟨pw, 0, none⟩)] 127))) := by
    have m1 := (MapIs.made (κ := SK) w skKey).fr ((Fr.refl (fun _ => False) _).alloc (.map #[] 0)) (fun h => h)
    have m2 := MapIs.made (κ := Int) (w.alloc (.map #[] 0)) intKey
    rw [show (w.alloc (.map #[] 0)).heap.size = w.heap.size + 1 by simp] at m2
    have f1 := (Fr.of_below (F := fun _ => False) hb).alloc (.cells #[.int .i64 most, .int .i64 0, .map (some w.heap.size), .map (some (w.heap.size + 1)), .pointer (some ⟨pw, 0, none⟩)] 127)
    have hF' : ∀ k, FW k → w.heap.size + 2 ≤ k := fun k hk => by have := hF k hk; simp at this; omega
    refine Lib.hid ⟨w1.heap.size, SF w1.heap.size w.heap.size (w.heap.size + 1) [] FW, rfl, ⟨[], [], w.heap.size, w.heap.size + 1, pw, [], [], FW, rfl, ⟨Blk.new _ _ _, m1.fr f1 (fun h => h), m2.fr f1 (fun h => h), hW.fr ((Fr.refl (fun _ => False) _).alloc _) (fun _ _ h => h), fun i x hx => by simp at hx, by simp, List.Perm.refl _, List.Perm.refl _, by omega, fun h => by have := hF' _ h; omega, fun h => by have := hF' _ h; omega, fun k => Iff.rfl⟩, SvQ.nil (by omega) h2 (by omega)⟩, ?_, fun k hk => ?_⟩
    · exact ((((Below.refl _ _).alloc (Nat.le_refl _) _).alloc (by simp) _).trans (hb.mono (by simp; omega))).alloc (by omega) _
    · rcases hk with rfl | rfl | rfl | hk | hk
      · omega
      · omega
      · omega
      · simp at hk
      · have := hF' k hk; omega
  clear hW hb hF
  go_wp2
  go_ret2
  exact HP.out
theorem slen_any {w : World} {p : Nat} {most last : Int} {cs : List SC} {F : Nat → Prop} (H : Sv w p most last cs F) :
    Calls Try.prog 50 #[.pointer (some ⟨p, 0, none⟩)] w fun e w' => e = .returned (.int .i64 cs.length) ∧ w = w' := by
  obtain ⟨xs, l, bn, bc, pw, kn, kc, FW, rfl, H, P⟩ := H
  have hm := Lib.hid (smade_any H.top)
  have hc := H.top.cell 3
  have hl := H.cm.len Try.underlying125
  have HL := Lib.hid H.lenc
  clear H P
  go_enter Try.func50, Try.ntmps50
  go_wp2_with fail
  refine (hm.out).mono ?_
  rintro e w' ⟨rfl, rfl⟩
  go_wp2
  go_ret
  exact ⟨ret_int (by rw [HL.out, List.length_map]), rfl⟩
end Go.Proofs.Ytgfoobgkpnknmaa
