/- The client's table as an object: drop. -/
import Derived.Test.YtgfoobgkpnknmaaC3
namespace Go.Proofs.Ytgfoobgkpnknmaa
set_option linter.unusedSimpArgs false
set_option linter.unusedVariables false
open Go.RowKit
def DropPost (w : World) (p : Nat) (most last : Int) (xs : List XC) (i : Nat) (x : XC) (l : List TM) (F : Nat → Prop) (bn bc pw : Nat) (kn : List (ByteArray × Value)) (kc : List (Int × Value)) (e : Ending) (w' : World) : Prop :=
  e = .returned (.tuple #[]) ∧ ∃ F' FW', ClI w' p most last (xs.eraseIdx i) (rStop l x.2.id) F' bn bc pw (mdel x.2.br kn) (mdel x.2.id kc) FW' ∧ Fr F w w' ∧ ∀ k, F' k → F k
theorem erase_mem {α : Type} {l : List α} {i : Nat} {a b : α} {f : α → Nat} (hn : (l.map f).Nodup) (hi : l[i]? = some a) (hb : b ∈ l.eraseIdx i) : f b ≠ f a := by
  have h := (at_perm l i a hi).map f
  have h2 := (h.nodup_iff).1 hn
  rw [List.map_cons, List.nodup_cons] at h2
  intro e
  exact h2.1 (e ▸ List.mem_map.2 ⟨b, hb, rfl⟩)
theorem drop_end {w w1 w2 w3 : World} {p bn bc pw : Nat} {most last : Int} {xs : List XC} {l : List TM} {F FW FW' : Nat → Prop} {kn : List (ByteArray × Value)} {kc : List (Int × Value)}
    (H : ClI w p most last xs l F bn bc pw kn kc FW) {i : Nat} {x : XC} (hx : xs[i]? = some x) (hgn : mget x.2.br kn = some (.int .i64 x.2.id)) (hgc : mget x.2.id kc = some (ptr x.1))
    (hw : Wh w1 pw (rStop l x.2.id) FW') (hf : Fr FW w w1) (hs : ∀ k, FW' k → FW k)
    (h2 : MapIs w2 bn strKey (mdel x.2.br kn)) (f2 : Fr (fun k => k = bn) w1 w2) (h3 : MapIs w3 bc intKey (mdel x.2.id kc)) (f3 : Fr (fun k => k = bc) w2 w3) :
    DropPost w p most last xs i x l F bn bc pw kn kc (.returned (.tuple #[])) w3 := by
  have hx' := hf.size
  have H1 := (H.wheel hw hf (fun k hk => .inl (hs k hk))).1
  have hsub : (xs.eraseIdx i).Sublist xs := List.eraseIdx_sublist _ _
  have pbn : p ≠ bn := (H.nm.ne H.top).symm
  have pbc : p ≠ bc := (H.cm.ne H.top).symm
  have xbn : ∀ x ∈ xs, x.1 ≠ bn := fun y hy => by
    obtain ⟨j, hj⟩ := List.getElem?_of_mem hy
    exact (H.nm.ne (H.its j y hj)).symm
  have xbc : ∀ x ∈ xs, x.1 ≠ bc := fun y hy => by
    obtain ⟨j, hj⟩ := List.getElem?_of_mem hy
    exact (H.cm.ne (H.its j y hj)).symm
  have hits : ∀ y ∈ xs, Blk w3 y.1 143 (ccell y.2) := fun y hy => by
    obtain ⟨j, hj⟩ := List.getElem?_of_mem hy
    exact ((H1.its j y hj).fr f2 (xbn y hy)).fr f3 (xbc y hy)
  refine ⟨rfl, CF p bn bc (xs.eraseIdx i) FW', FW', ⟨((H1.top).fr f2 pbn).fr f3 pbc, h2.fr f3 H.dn, h3, (hw.fr f2 (fun k hk e => H.fn (e ▸ hs k hk))).fr f3 (fun k hk e => H.fc (e ▸ hs k hk)),
    fun j y hy => hits y (hsub.subset (List.mem_of_getElem? hy)), H.nd.sublist (hsub.map _), ?_, ?_, H.dn, fun h => H.fn (hs _ h), fun h => H.fc (hs _ h), fun k => Iff.rfl⟩, ?_, ?_⟩
  · have h1 := (mdel_perm hgn).trans (H.pn.trans ((at_perm xs i x hx).map fun x => (x.2.br, Value.int .i64 x.2.id)))
    exact List.Perm.cons_inv h1
  · have h1 := (mdel_perm hgc).trans (H.pc.trans ((at_perm xs i x hx).map fun x => (x.2.id, ptr x.1)))
    exact List.Perm.cons_inv h1
  · exact ((hf.mono fun k _ q => (H.ff k).2 (.inr (.inr (.inr (.inr q))))).trans f2 (fun k _ q => (H.ff k).2 (.inr (.inl q)))).trans f3 (fun k _ q => (H.ff k).2 (.inr (.inr (.inl q))))
  · intro k hk
    rcases hk with q | q | q | q | q
    · exact (H.ff k).2 (.inl q)
    · exact (H.ff k).2 (.inr (.inl q))
    · exact (H.ff k).2 (.inr (.inr (.inl q)))
    · obtain ⟨y, hy, rfl⟩ := List.mem_map.1 q
      exact (H.ff y.1).2 (.inr (.inr (.inr (.inl (List.mem_map.2 ⟨y, hsub.subset hy, rfl⟩)))))
    · exact (H.ff k).2 (.inr (.inr (.inr (.inr (hs k q)))))
theorem cm_at {w : World} {p bn bc pw : Nat} {most last : Int} {xs : List XC} {l : List TM} {F FW : Nat → Prop} {kn : List (ByteArray × Value)} {kc : List (Int × Value)}
    (H : ClI w p most last xs l F bn bc pw kn kc FW) {id : Int} {b : Nat} (hg : mget id kc = some (ptr b)) :
    (Instr.lookup 97 (.map (some bc)) (.int .i64 id) false).run Try.prog w = .ok (.pointer (some ⟨b, 0, none⟩)) w := by
  have h2 := H.cm.lookup (T := 97) (E := 141) (intLaw Try.underlying3) Try.underlying97 (zcall _) id false
  rw [hg] at h2
  exact h2
set_option maxRecDepth 100000 in
set_option maxHeartbeats 1000000 in
theorem drop_any {w : World} {p bn bc pw : Nat} {most last : Int} {xs : List XC} {l : List TM} {F FW : Nat → Prop} {kn : List (ByteArray × Value)} {kc : List (Int × Value)}
    (H : ClI w p most last xs l F bn bc pw kn kc FW) {i : Nat} {x : XC} (hx : xs[i]? = some x) (hgn : mget x.2.br kn = some (.int .i64 x.2.id)) (hgc : mget x.2.id kc = some (ptr x.1)) :
    Calls Try.prog 64 #[.pointer (some ⟨p, 0, none⟩), .int .i64 x.2.id] w (DropPost w p most last xs i x l F bn bc pw kn kc) := by
  have HC := Lib.hid H
  have HX := Lib.hid hx
  have HGN := Lib.hid hgn
  have HGC := Lib.hid hgc
  have hc4 := H.top.cell 4
  have HST := Lib.hid (stop_any H.wh x.2.id)
  clear H hx hgn hgc
  go_enter Try.func64, Try.ntmps64
  go_wp2_with fail
  refine (HST.out).mono ?_
  rintro e w1 ⟨rfl, FW', hw, hf, hs⟩
  have H1 := (HC.out.wheel hw hf (fun k hk => .inl (hs k hk))).1
  have k2 := H1.top.cell 2
  have k3 := H1.top.cell 3
  have kb : w1.cell? ⟨x.1, 0, none⟩ = some (.string x.2.br) := (H1.its i x HX.out).cell 0
  have hlk' : (Instr.lookup 97 (.map (some bc)) (.int .i64 x.2.id) false).run Try.prog w1.drew = .ok (.pointer (some ⟨x.1, 0, none⟩)) w1.drew := cm_at (H1.drewN 1) HGC.out
  obtain ⟨w2, hd2, h2, f2⟩ := (H1.nm.drewN 1).delete (strLaw Try.underlying9) Try.underlying96 x.2.br 9 0
  have hd2' : (Builtin.delete_ #[96, 9] 0 #[.map (some bn), .string x.2.br]).run Try.prog w1.drew = .ok (.tuple #[]) w2 := hd2
  obtain ⟨w3, hd3, h3, f3⟩ := ((H1.cm.drewN 1).fr f2 (fun e => HC.out.dn e.symm)).delete (intLaw Try.underlying3) Try.underlying97 x.2.id 3 0
  have hd3' : (Builtin.delete_ #[97, 3] 0 #[.map (some bc), .int .i64 x.2.id]).run Try.prog w2 = .ok (.tuple #[]) w3 := hd3
  have j3 := ((H1.top.drewN 1).fr f2 (fun e => (HC.out.nm.ne HC.out.top) e.symm)).cell 3
  have HP := Lib.hid (drop_end HC.out HX.out HGN.out HGC.out hw hf hs h2 ⟨f2.os, f2.tape, f2.output, f2.size, f2.block⟩ h3 f3)
  clear H1 hd2 hd3 h2 f2 h3 f3 hw hf hs
  generalize hbr : x.2.br = br at *
  generalize hid : x.2.id = id at *
  have HH := Lib.hid (And.intro hbr hid)
  clear hbr hid
  go_wp2_with fail
  go_still_tail 13, (by kernel_rfl)
  go_wp2
  go_end0
  exact HP.out
end Go.Proofs.Ytgfoobgkpnknmaa
