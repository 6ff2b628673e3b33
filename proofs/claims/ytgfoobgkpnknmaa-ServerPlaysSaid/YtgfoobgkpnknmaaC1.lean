/- The client's table in plain Lean. -/
import Derived.Test.YtgfoobgkpnknmaaH2
namespace Go.Proofs.Ytgfoobgkpnknmaa
structure CC where
  id : Int
  br : ByteArray
  bg : Int
  tm : Int
  rest : Int
  to : ByteArray
  bs : ByteArray
structure DD where
  id : Int
  over : Bool
  to : ByteArray
  bs : ByteArray
def cum (j : Nat) : Int := if j = 0 then 0 else if j = 1 then 5 else if j = 2 then 15 else 40 * j - 85
theorem cum_bd (j : Nat) : 0 ≤ cum j ∧ cum j ≤ 40 * j := by unfold cum; omega
theorem cum_lt (j : Nat) (h : j ≤ 10) : cum j < 320 := by unfold cum; omega
theorem cum_ge (j : Nat) (h : 11 ≤ j) : 320 ≤ cum j := by unfold cum; omega
def okI (n : Int) : Bool := decide (1 ≤ n ∧ n ≤ 11)
def atI (n : Int) : Int := if 1 ≤ n ∧ n ≤ 11 then cum (n.toNat - 1) else 0
def cNx (tm : Int) : Int := if 0 ≤ tm ∧ tm ≤ 10 then cum tm.toNat else 320
theorem nx_ok {tm : Int} (h : okI (tm + 1) = true) : cNx tm = atI (tm + 1) ∧ cNx tm < 320 := by
  have h := of_decide_eq_true h
  have := cum_lt tm.toNat (by omega)
  unfold cNx atI
  rw [if_pos (by omega), if_pos h, show (tm + 1).toNat - 1 = tm.toNat by omega]
  exact ⟨rfl, this⟩
theorem nx_no {tm : Int} (h : okI (tm + 1) = false) : cNx tm = 320 := by
  have h := of_decide_eq_false h
  unfold cNx
  rw [if_neg (by omega)]
theorem nx_bd (tm : Int) : 0 ≤ cNx tm ∧ cNx tm ≤ 320 := by
  unfold cNx
  split
  · rename_i h
    have := cum_lt tm.toNat (by omega)
    have := cum_bd tm.toNat
    omega
  · omega
theorem nx_lt {tm : Int} (h0 : 0 ≤ tm) : cNx tm < 320 ↔ tm ≤ 10 := by
  unfold cNx
  split
  · rename_i h
    have := cum_lt tm.toNat (by omega)
    constructor <;> intro <;> omega
  · constructor <;> intro <;> omega
def cAt (c : CC) : Int := if 0 ≤ c.rest then c.rest else c.bg + cNx c.tm
def cTop : List CC → Option (Nat × CC)
  | [] => none
  | c :: r => match cTop r with
    | none => some (0, c)
    | some (k, d) => if cAt d < cAt c then some (k + 1, d) else some (0, c)
structure IsTop (cs : List CC) (k : Nat) (c : CC) : Prop where
  at_ : cs[k]? = some c
  le : ∀ (i : Nat) (d : CC), cs[i]? = some d → cAt c ≤ cAt d
  lt : ∀ (i : Nat) (d : CC), cs[i]? = some d → i < k → cAt c < cAt d
theorem top_none {cs : List CC} (h : cTop cs = none) : cs = [] := by
  cases cs with
  | nil => rfl
  | cons c r =>
    unfold cTop at h
    split at h
    · cases h
    · split at h <;> cases h
theorem top_spec : ∀ {cs : List CC} {k : Nat} {c : CC}, cTop cs = some (k, c) → IsTop cs k c
  | [], _, _, h => by cases h
  | a :: r, k, c, h => by
    unfold cTop at h
    cases hr : cTop r with
    | none =>
      rw [hr] at h
      obtain rfl := top_none hr
      simp only [Option.some.injEq, Prod.mk.injEq] at h
      obtain ⟨rfl, rfl⟩ := h
      refine ⟨rfl, fun i d hd => ?_, fun i d _ hi => by omega⟩
      cases i with
      | zero => simp at hd; subst hd; omega
      | succ i => simp at hd
    | some kd =>
      obtain ⟨k', d'⟩ := kd
      rw [hr] at h
      have ih := top_spec hr
      simp only at h
      split at h
      · rename_i hlt
        simp only [Option.some.injEq, Prod.mk.injEq] at h
        obtain ⟨rfl, rfl⟩ := h
        refine ⟨ih.at_, fun i d hd => ?_, fun i d hd hi => ?_⟩
        · cases i with
          | zero => simp at hd; subst hd; omega
          | succ i => exact ih.le i d (by simpa using hd)
        · cases i with
          | zero => simp at hd; subst hd; exact hlt
          | succ i => exact ih.lt i d (by simpa using hd) (by omega)
      · rename_i hge
        simp only [Option.some.injEq, Prod.mk.injEq] at h
        obtain ⟨rfl, rfl⟩ := h
        refine ⟨rfl, fun i d hd => ?_, fun i d _ hi => by omega⟩
        cases i with
        | zero => simp at hd; subst hd; omega
        | succ i => have := ih.le i d (by simpa using hd); omega
theorem IsTop.eq {cs : List CC} {k : Nat} {c : CC} (h : IsTop cs k c) : cTop cs = some (k, c) := by
  cases hc : cTop cs with
  | none => rw [top_none hc] at h; have := h.at_; simp at this
  | some kd =>
    obtain ⟨k', c'⟩ := kd
    have h' := top_spec hc
    have hk : k = k' := by
      rcases Nat.lt_trichotomy k k' with q | q | q
      · have h1 := h'.lt k c h.at_ q; have h2 := h.le k' c' h'.at_; omega
      · exact q
      · have h1 := h.lt k' c' h'.at_ q; have h2 := h'.le k c h.at_; omega
    subst hk
    have := h.at_.symm.trans h'.at_
    injection this with this
    rw [this]
def cDue (c : CC) : List DD := if c.rest < 0 then (if cNx c.tm < 320 then [⟨c.id, false, c.to, c.bs⟩] else [⟨c.id, true, ⟨#[]⟩, ⟨#[]⟩⟩]) else []
def cAfter (cs : List CC) (k : Nat) (c : CC) : List CC := if c.rest < 0 ∧ cNx c.tm < 320 then cs.set k { c with tm := c.tm + 1 } else cs.eraseIdx k
def cRun : Nat → List CC → Int → List DD → List CC × List DD
  | 0, cs, _, o => (cs, o)
  | n + 1, cs, now, o => match cTop cs with
    | none => (cs, o)
    | some (k, c) => if now < cAt c then (cs, o) else cRun n (cAfter cs k c) now (o ++ cDue c)
def cStep (cs : List CC) (now : Int) : List CC × List DD := cRun 100000 cs now []
theorem run_none {n : Nat} {cs : List CC} {now : Int} {o : List DD} (h : cTop cs = none) : cRun n cs now o = (cs, o) := by
  cases n with
  | zero => rfl
  | succ n => unfold cRun; rw [h]
theorem run_stop {n : Nat} {cs : List CC} {now : Int} {o : List DD} {k : Nat} {c : CC} (h : cTop cs = some (k, c)) (hn : now < cAt c) : cRun n cs now o = (cs, o) := by
  cases n with
  | zero => rfl
  | succ n => unfold cRun; rw [h]; exact if_pos hn
theorem run_go {n : Nat} {cs : List CC} {now : Int} {o : List DD} {k : Nat} {c : CC} (h : cTop cs = some (k, c)) (hn : ¬ now < cAt c) : cRun (n + 1) cs now o = cRun n (cAfter cs k c) now (o ++ cDue c) := by
  conv => lhs; unfold cRun
  rw [h]; exact if_neg hn
/-- how much may still be due -/
def cW (c : CC) : Nat := if c.rest < 0 then (13 - c.tm).toNat else 1
def cMs (cs : List CC) : Nat := (cs.map cW).sum
def cHas (cs : List CC) (br : ByteArray) : Bool := cs.any fun c => decide (c.br = br)
def cStartE (most : Int) (cs : List CC) (br : ByteArray) (now : Int) : Int :=
  if now < 0 ∨ 1099511627136 < now then 1 else if cHas cs br = true then 7 else if most ≤ cs.length then 5 else 0
def cNew (last : Int) (br : ByteArray) (now : Int) (to bs : ByteArray) : CC := ⟨last + 1, br, now, 1, -1, to, bs⟩
def cStartL (most last : Int) (cs : List CC) (br : ByteArray) (now : Int) (to bs : ByteArray) : List CC := if cStartE most cs br now = 0 then cs ++ [cNew last br now to bs] else cs
def cStartN (most last : Int) (cs : List CC) (br : ByteArray) (now : Int) : Int := if cStartE most cs br now = 0 then last + 1 else last
def cStartI (most last : Int) (cs : List CC) (br : ByteArray) (now : Int) : Int := if cStartE most cs br now = 0 then last + 1 else 0
/-- which transaction a branch's response is for -/
def cWho (br : ByteArray) : List CC → Option (Nat × CC)
  | [] => none
  | c :: r => if c.br = br ∧ c.rest < 0 then some (0, c) else (cWho br r).map fun x => (x.1 + 1, x.2)
def cRespE (cs : List CC) (br : ByteArray) (st now : Int) : Int :=
  if now < 0 ∨ 1099511627456 < now ∨ st < 100 ∨ 699 < st then 1 else if (cWho br cs).isNone then 6 else 0
def cRespI (cs : List CC) (br : ByteArray) (st now : Int) : Int := if cRespE cs br st now = 0 then ((cWho br cs).map (·.2.id)).getD 0 else 0
def cRespG (cs : List CC) (br : ByteArray) (st now : Int) : Bool := decide (cRespE cs br st now = 0 ∧ 200 ≤ st)
def cRespL (cs : List CC) (br : ByteArray) (st now : Int) : List CC :=
  if cRespE cs br st now = 0 ∧ 200 ≤ st then match cWho br cs with
    | some (k, c) => cs.set k { c with rest := now + 50 }
    | none => cs
  else cs
def cLive (cs : List CC) (id : Int) : Bool := match cs.find? (fun c => decide (c.id = id)) with
  | some c => decide (c.rest < 0)
  | none => false
theorem who_spec (br : ByteArray) : ∀ {cs : List CC} {k : Nat} {c : CC}, cWho br cs = some (k, c) → cs[k]? = some c ∧ c.br = br ∧ c.rest < 0 ∧ ∀ (i : Nat) (d : CC), cs[i]? = some d → i < k → ¬ (d.br = br ∧ d.rest < 0)
  | [], _, _, h => by cases h
  | a :: r, k, c, h => by
    unfold cWho at h
    split at h
    · rename_i ha
      simp only [Option.some.injEq, Prod.mk.injEq] at h
      obtain ⟨rfl, rfl⟩ := h
      exact ⟨rfl, ha.1, ha.2, fun _ _ _ h => by omega⟩
    · rename_i ha
      cases hr : cWho br r with
      | none => rw [hr] at h; cases h
      | some kd =>
        rw [hr] at h
        simp only [Option.map_some, Option.some.injEq, Prod.mk.injEq] at h
        obtain ⟨rfl, rfl⟩ := h
        obtain ⟨h1, h2, h3, h4⟩ := who_spec br (k := kd.1) (c := kd.2) hr
        refine ⟨h1, h2, h3, fun i d hd hi => ?_⟩
        cases i with
        | zero => simp at hd; subst hd; exact ha
        | succ i => exact h4 i d (by simpa using hd) (by omega)
theorem who_none (br : ByteArray) : ∀ {cs : List CC}, cWho br cs = none → ∀ c ∈ cs, ¬ (c.br = br ∧ c.rest < 0)
  | [], _, c, hc => by cases hc
  | a :: r, h, c, hc => by
    unfold cWho at h
    split at h
    · cases h
    · rename_i ha
      simp only [Option.map_eq_none_iff] at h
      rcases List.mem_cons.1 hc with e | e
      · rw [e]; exact ha
      · exact who_none br h c e
/-- what a table of transactions keeps to -/
structure ClP (most last : Int) (cs : List CC) (l : List TM) : Prop where
  lp : l.Perm (cs.map fun c => (cAt c, c.id))
  ids : cs.Pairwise fun a b => a.id < b.id
  brs : (cs.map (·.br)).Nodup
  each : ∀ c ∈ cs, 1 ≤ c.id ∧ c.id ≤ last ∧ 0 ≤ c.bg ∧ c.bg ≤ 1099511627136 ∧ 1 ≤ c.tm ∧ c.tm ≤ 11 ∧ (c.rest = -1 ∨ 0 ≤ c.rest ∧ c.rest ≤ 1099511627506)
  len : cs.length ≤ most
  most : most ≤ 200
  last : 0 ≤ last
section
variable {most last : Int} {cs : List CC} {l : List TM}
theorem ClP.at_bd (H : ClP most last cs l) {c : CC} (h : c ∈ cs) : 0 ≤ cAt c ∧ cAt c ≤ 1099511627776 := by
  have := H.each c h
  have := nx_bd c.tm
  unfold cAt
  split <;> omega
theorem ClP.idnd (H : ClP most last cs l) : (cs.map (·.id)).Nodup := by
  rw [List.nodup_iff_pairwise_ne, List.pairwise_map]
  exact H.ids.imp fun h => by omega
theorem ClP.id_lt (H : ClP most last cs l) {i j : Nat} {c d : CC} (hc : cs[i]? = some c) (hd : cs[j]? = some d) (h : c.id < d.id) : i < j := by
  rcases Nat.lt_trichotomy i j with q | q | q
  · exact q
  · subst q; rw [hc] at hd; injection hd with hd; subst hd; omega
  · obtain ⟨h1, e1⟩ := List.getElem?_eq_some_iff.1 hc
    obtain ⟨h2, e2⟩ := List.getElem?_eq_some_iff.1 hd
    have := (List.pairwise_iff_getElem.1 H.ids) j i h2 h1 q
    rw [e1, e2] at this
    omega
theorem ClP.id_inj (H : ClP most last cs l) {i j : Nat} {c d : CC} (hc : cs[i]? = some c) (hd : cs[j]? = some d) (h : c.id = d.id) : i = j := by
  obtain ⟨h1, e1⟩ := List.getElem?_eq_some_iff.1 hc
  obtain ⟨h2, e2⟩ := List.getElem?_eq_some_iff.1 hd
  rcases Nat.lt_trichotomy i j with q | q | q
  · have := (List.pairwise_iff_getElem.1 H.ids) i j h1 h2 q; rw [e1, e2] at this; omega
  · exact q
  · have := (List.pairwise_iff_getElem.1 H.ids) j i h2 h1 q; rw [e1, e2] at this; omega
theorem ClP.len_l (H : ClP most last cs l) : l.length = cs.length := by have := H.lp.length_eq; simpa using this
theorem ClP.nodup_l (H : ClP most last cs l) : (l.map (·.2)).Nodup := by
  have h1 : (l.map (·.2)).Perm (cs.map (·.id)) := by
    have := H.lp.map (·.2)
    simpa [Function.comp_def] using this
  exact (h1.nodup_iff).2 H.idnd
theorem ClP.mem_l (H : ClP most last cs l) {c : CC} (h : c ∈ cs) : (cAt c, c.id) ∈ l := H.lp.mem_iff.2 (List.mem_map.2 ⟨c, h, rfl⟩)
/-- the wheel's first timer is the reference's first transaction -/
theorem ClP.top (H : ClP most last cs l) (hs : l.Pairwise ah) {t : TM} {r : List TM} (e : l = t :: r) : ∃ k c, cTop cs = some (k, c) ∧ cs[k]? = some c ∧ t = (cAt c, c.id) := by
  have ht : t ∈ cs.map fun c => (cAt c, c.id) := H.lp.mem_iff.1 (by rw [e]; simp)
  obtain ⟨d, hd, hdt⟩ := List.mem_map.1 ht
  obtain ⟨j, hj⟩ := List.getElem?_of_mem hd
  have hleast : ∀ c ∈ cs, ¬ ah (cAt c, c.id) t := by
    intro c hc hah
    have hm := H.mem_l hc
    rw [e] at hm hs
    rw [List.pairwise_cons] at hs
    rcases List.mem_cons.1 hm with q | q
    · rw [q] at hah; unfold ah at hah; omega
    · have := hs.1 _ q; unfold ah at *; omega
  cases hc : cTop cs with
  | none => rw [top_none hc] at hd; cases hd
  | some kc =>
    obtain ⟨k, c⟩ := kc
    have hT := top_spec hc
    have hck : c ∈ cs := List.mem_of_getElem? hT.at_
    have h1 := hT.le j d hj
    have h2 := hleast c hck
    rw [← hdt] at h2
    unfold ah at h2
    simp only at h2
    have h3 : cAt c = cAt d := by omega
    have h4 : d.id ≤ c.id := by omega
    have hkj : k = j := by
      rcases Nat.lt_trichotomy k j with q | q | q
      · have : c.id < d.id := by
          obtain ⟨g1, e1⟩ := List.getElem?_eq_some_iff.1 hT.at_
          obtain ⟨g2, e2⟩ := List.getElem?_eq_some_iff.1 hj
          have := (List.pairwise_iff_getElem.1 H.ids) k j g1 g2 q; rw [e1, e2] at this; exact this
        omega
      · exact q
      · have := hT.lt j d hj q; omega
    subst hkj
    have : c = d := by have := hT.at_.symm.trans hj; injection this
    subst this
    exact ⟨k, c, rfl, hT.at_, hdt.symm⟩
theorem stop_map {cs : List CC} {l : List TM} {k : Nat} {c : CC} (hl : l.Perm (cs.map fun c => (cAt c, c.id))) (hn : (l.map (·.2)).Nodup) (hk : cs[k]? = some c) :
    (rStop l c.id).Perm ((cs.eraseIdx k).map fun c => (cAt c, c.id)) := by
  have h1 : ((cAt c, c.id) :: rStop l c.id).Perm l := stop_perm (t := (cAt c, c.id)) hn (hl.mem_iff.2 (List.mem_map.2 ⟨c, List.mem_of_getElem? hk, rfl⟩))
  have h2 := (at_perm cs k c hk).map fun c => (cAt c, c.id)
  exact ((h1.trans hl).trans h2).cons_inv
theorem set_map {cs : List CC} {l : List TM} {k : Nat} {c c' : CC} (hl : l.Perm (cs.map fun c => (cAt c, c.id))) (hn : (l.map (·.2)).Nodup) (hk : cs[k]? = some c) (hid : c'.id = c.id) (h0 : rSetE l c.id (cAt c') = 0) :
    (rSetL l c.id (cAt c')).Perm ((cs.set k c').map fun c => (cAt c, c.id)) := by
  unfold rSetL
  rw [if_pos h0]
  have h1 := (set_perm cs k c' (List.getElem?_eq_some_iff.1 hk).1).map fun c => (cAt c, c.id)
  refine ((ins_perm _ _).trans ?_).trans h1.symm
  rw [List.map_cons, ← hid]
  exact (hid ▸ stop_map hl hn hk).cons _
theorem ClP.erase (H : ClP most last cs l) {k : Nat} {c : CC} (hk : cs[k]? = some c) : ClP most last (cs.eraseIdx k) (rStop l c.id) := by
  have hsub : (cs.eraseIdx k).Sublist cs := List.eraseIdx_sublist _ _
  exact ⟨stop_map H.lp H.nodup_l hk, H.ids.sublist hsub, H.brs.sublist (hsub.map _), fun d hd => H.each d (hsub.subset hd), by have := hsub.length_le; have := H.len; omega, H.most, H.last⟩
theorem map_set_same {α β : Type} (f : α → β) {l : List α} {k : Nat} {a b : α} (hk : l[k]? = some a) (h : f b = f a) : (l.set k b).map f = l.map f := by
  rw [List.map_set]
  apply List.ext_getElem?
  intro i
  rw [List.getElem?_set]
  by_cases e : k = i
  · subst e
    rw [if_pos rfl, List.getElem?_map, hk, h]
    simp [(List.getElem?_eq_some_iff.1 hk).1]
  · rw [if_neg e]
theorem ClP.set_ (H : ClP most last cs l) {k : Nat} {c c' : CC} (hk : cs[k]? = some c) (hid : c'.id = c.id) (hbr : c'.br = c.br) (hbg : c'.bg = c.bg) (ht : 1 ≤ c'.tm ∧ c'.tm ≤ 11) (hr : c'.rest = -1 ∨ 0 ≤ c'.rest ∧ c'.rest ≤ 1099511627506) :
    rSetE l c.id (cAt c') = 0 ∧ ClP most last (cs.set k c') (rSetL l c.id (cAt c')) := by
  have hc := List.mem_of_getElem? hk
  have he := H.each c hc
  have hb : 0 ≤ cAt c' ∧ cAt c' ≤ 1099511627776 := by
    have := nx_bd c'.tm
    unfold cAt
    split <;> omega
  have h0 : rSetE l c.id (cAt c') = 0 := by
    have hin : c.id ∈ l.map (·.2) := List.mem_map.2 ⟨_, H.mem_l hc, rfl⟩
    obtain ⟨t, htl, e⟩ := List.mem_map.1 hin
    have := stop_len_in H.nodup_l htl
    unfold rSetE
    rw [if_neg (by omega), if_neg (by rw [← e]; omega)]
  refine ⟨h0, set_map H.lp H.nodup_l hk hid h0, ?_, by rw [map_set_same _ hk hbr]; exact H.brs, fun d hd => ?_, by rw [List.length_set]; exact H.len, H.most, H.last⟩
  · have := H.ids
    rw [← List.pairwise_map (f := fun c : CC => c.id) (R := (· < ·))] at this ⊢
    rw [map_set_same _ hk hid]; exact this
  · rcases List.mem_or_eq_of_mem_set hd with q | q
    · exact H.each d q
    · subst q; rw [hid, hbg]; exact ⟨he.1, he.2.1, he.2.2.1, he.2.2.2.1, ht.1, ht.2, hr⟩
theorem ClP.append (H : ClP most last cs l) {c : CC} (hid : c.id = last + 1) (hbr : c.br ∉ cs.map (·.br)) (hbg : 0 ≤ c.bg ∧ c.bg ≤ 1099511627136) (ht : c.tm = 1) (hr : c.rest = -1) (hlen : (cs.length : Int) < most) :
    rSetE l c.id (cAt c) = 0 ∧ ClP most (last + 1) (cs ++ [c]) (rSetL l c.id (cAt c)) := by
  have hb : 0 ≤ cAt c ∧ cAt c ≤ 1099511627776 := by
    have := nx_bd c.tm
    unfold cAt
    split <;> omega
  have hni : c.id ∉ l.map (·.2) := by
    intro h
    obtain ⟨t, ht, e⟩ := List.mem_map.1 h
    obtain ⟨d, hd, hdt⟩ := List.mem_map.1 (H.lp.mem_iff.1 ht)
    have := H.each d hd
    rw [← hdt] at e
    simp at e
    omega
  have hll := H.len_l
  have hm := H.most
  have hla := H.last
  have h0 : rSetE l c.id (cAt c) = 0 := by
    unfold rSetE
    rw [if_neg (by omega), if_neg (by omega)]
  refine ⟨h0, ?_, ?_, ?_, fun d hd => ?_, by simp; omega, H.most, by omega⟩
  · unfold rSetL
    rw [if_pos h0, stop_none hni, List.map_append]
    exact ((ins_perm _ _).trans (H.lp.cons _)).trans (List.perm_append_comm (l₁ := [(cAt c, c.id)]))
  · rw [List.pairwise_append]
    refine ⟨H.ids, by simp, fun a ha b hb => ?_⟩
    simp at hb
    subst hb
    have := H.each a ha
    omega
  · rw [List.map_append, List.nodup_append]
    refine ⟨H.brs, by simp, fun a ha b hb => ?_⟩
    simp at hb
    subst hb
    exact fun e => hbr (e ▸ ha)
  · rcases List.mem_append.1 hd with q | q
    · have := H.each d q; omega
    · simp at q; subst q; omega
theorem ClP.nil {most last : Int} (h1 : 0 ≤ most) (h2 : most ≤ 200) (h3 : 0 ≤ last) : ClP most last [] [] :=
  ⟨List.Perm.refl _, by simp, by simp, fun c hc => by simp at hc, by simp; omega, h2, h3⟩
theorem ClP.after (H : ClP most last cs l) {k : Nat} {c : CC} (hk : cs[k]? = some c) : cMs (cAfter cs k c) < cMs cs := by
  have he := H.each c (List.mem_of_getElem? hk)
  have hlt := (List.getElem?_eq_some_iff.1 hk).1
  have h0 := ((at_perm cs k c hk).map cW).sum_nat
  have hs := ((set_perm cs k { c with tm := c.tm + 1 } hlt).map cW).sum_nat
  simp only [List.map_cons, List.sum_cons] at h0 hs
  unfold cMs cAfter
  split
  · rename_i h
    have hn := (nx_lt (tm := c.tm) (by omega)).1 h.2
    have hw1 : cW c = (13 - c.tm).toNat := if_pos h.1
    have hw2 : cW { c with tm := c.tm + 1 } = (13 - (c.tm + 1)).toNat := if_pos h.1
    omega
  · have hw : 1 ≤ cW c := by unfold cW; split <;> omega
    omega
theorem ClP.ms (H : ClP most last cs l) : cMs cs ≤ 12 * cs.length := by
  have : ∀ cs : List CC, (∀ c ∈ cs, 1 ≤ c.tm) → cMs cs ≤ 12 * cs.length := by
    intro cs
    induction cs with
    | nil => intro _; simp [cMs]
    | cons c r ih =>
      intro h
      have h1 := ih fun d hd => h d (by simp [hd])
      have h2 := h c (by simp)
      have : cW c ≤ 12 := by unfold cW; split <;> omega
      unfold cMs at h1 ⊢
      rw [List.map_cons, List.sum_cons, List.length_cons]
      omega
  exact this cs fun c hc => (H.each c hc).2.2.2.2.1
theorem ClP.ms_pos (H : ClP most last cs l) {k : Nat} {c : CC} (hk : cs[k]? = some c) : 0 < cMs cs := by
  have := H.after hk
  omega
end
end Go.Proofs.Ytgfoobgkpnknmaa
