/- The reference Tag, and Read: contracts. -/
import Derived.Test.YtpmpppfklngbkaaE
namespace Go.Proofs.Ytpmpppfklngbkaa
open Go.RowKit
set_option maxHeartbeats 400000 in
theorem rtag_yes (d c : Nat) (w : World) (hd : d < 18446744073709551616) (h : c ≤ 1099511627776) :
    Calls Try.prog 21 #[.int .u64 d, .int .i64 c] w fun e w' => e = .returned (.tuple #[.string (str (tagL d c)), .int .i64 0]) ∧ w = w' := by
  have hw : IntKind.u64.wrap (c : Int) = c := u64_in _ (by omega)
  have h1 : (str (sp 13 d)).size = 13 := by rw [str_size, sp_len]
  have h2 : (str (sp 9 c)).size = 9 := by rw [str_size, sp_len]
  have h3 : str (tagL d c) = str (sp 13 d) ++ str (sp 9 c) := by
    apply ByteArray.ext; simp [str, tagL]
  have H3 := Lib.hid h3
  clear h3
  go_enter Try.func21, Try.ntmps21
  go_wp2_with fail
  refine (spelled_any d 13 w hd (by omega)).mono ?_
  rintro e w1 ⟨rfl, rfl⟩
  generalize str (sp 13 d) = s1 at *
  go_wp2_with fail
  refine (spelled_any c 9 _ (by omega) (by omega)).mono ?_
  rintro e w1 ⟨rfl, rfl⟩
  generalize str (sp 9 c) = s2 at *
  go_wp2
  go_ret2
  exact ⟨ret_two (str_eq H3.out.symm) rfl, rfl⟩

theorem tag_inj {d d' c c' : Nat} (h1 : d < 18446744073709551616) (h2 : d' < 18446744073709551616) (h3 : c ≤ 1099511627776) (h4 : c' ≤ 1099511627776) (h : tagL d c = tagL d' c') : d = d' ∧ c = c' := by
  have ⟨a, b⟩ := List.append_inj h (by rw [sp_len, sp_len])
  have a1 := congrArg val a
  have b1 := congrArg val b
  rw [val_sp _ _ h1 (by omega), val_sp _ _ h2 (by omega)] at a1
  rw [val_sp _ _ (by omega) (by omega), val_sp _ _ (by omega) (by omega)] at b1
  exact ⟨a1, b1⟩

/-- what a tag is read as -/
def RdOK (l : List UInt8) (d c : Nat) : Prop := d < 18446744073709551616 ∧ c ≤ 1099511627776 ∧ l = tagL d c
def RdV (l : List UInt8) (e : Ending) : Prop := (∃ d c : Nat, RdOK l d c ∧ e = .returned (.tuple #[.int .u64 d, .int .i64 c, .int .i64 0])) ∨ ((∀ d c, ¬ RdOK l d c) ∧ e = .returned (.tuple #[.int .u64 0, .int .i64 0, .int .i64 10]))
theorem RdV.unique {l : List UInt8} {e e' : Ending} (h : RdV l e) (h' : RdV l e') : e = e' := by
  rcases h with ⟨d, c, h, rfl⟩ | ⟨h, rfl⟩
  · rcases h' with ⟨d', c', h', rfl⟩ | ⟨h', rfl⟩
    · obtain ⟨rfl, rfl⟩ := tag_inj h.1 h'.1 h.2.1 h'.2.1 (h.2.2.symm.trans h'.2.2)
      rfl
    · exact absurd h (h' _ _)
  · rcases h' with ⟨d', c', h', rfl⟩ | ⟨h', rfl⟩
    · exact absurd h' (h _ _)
    · rfl
theorem tagL_len (d c : Nat) : (tagL d c).length = 22 := by simp [tagL, sp_len]
def RdPost (l : List UInt8) (w : World) (e : Ending) (w' : World) : Prop := RdV l e ∧ Below w.heap.size w w'

theorem rd_parts {l : List UInt8} {d c : Nat} (h : RdOK l d c) : allL (l.take 13) = true ∧ allL (l.drop 13) = true ∧ valI (l.take 13) = d ∧ valI (l.drop 13) = c := by
  obtain ⟨h1, h2, rfl⟩ := h
  have e1 : (tagL d c).take 13 = sp 13 d := List.take_left' (sp_len _ _)
  have e2 : (tagL d c).drop 13 = sp 9 c := List.drop_left' (sp_len _ _)
  rw [e1, e2]
  refine ⟨allL_sp _ _, allL_sp _ _, ?_, ?_⟩
  · rw [valI, if_pos (allL_sp _ _), val_sp _ _ h1 (by omega)]
  · rw [valI, if_pos (allL_sp _ _), val_sp _ _ (by omega) (by omega)]
theorem val_len (l : List UInt8) (h : allL l = true) : ∀ k, l.length ≤ k → k ≤ 12 → val l < 32 ^ k := by
  induction l with
  | nil => intro k _ _; simp [val]; exact Nat.pos_of_ne_zero (by simp)
  | cons c r ih =>
    intro k hk h12
    rcases k with _ | k
    · simp at hk
    · simp only [allL, List.all_cons, Bool.and_eq_true, decide_eq_true_eq] at h ih
      have := ih h.2 k (by simpa using hk) (by omega)
      simp only [val, Nat.pow_succ]
      have := Nat.mod_le (val r * 32) 18446744073709551616
      omega
theorem valI_nat (l : List UInt8) : ∃ n : Nat, valI l = n ∧ n < 18446744073709551616 ∧ (l.length ≤ 9 → n < 35184372088832) := by
  by_cases h : allL l = true
  · refine ⟨val l, by simp [valI, h], val_lt l h, fun hl => val_len l h 9 hl (by omega)⟩
  · exact ⟨0, by simp [valI, h], by omega, by omega⟩

set_option maxHeartbeats 1000000 in
theorem read_any (s : ByteArray) (w : World) (hs : s.size ≤ 9223372036854775807) :
    Calls Try.prog 22 #[.string s] w (RdPost s.data.toList w) := by
  by_cases hl : s.size = 22
  · obtain ⟨a, ha, ha1, _⟩ := valI_nat (s.data.toList.take 13)
    obtain ⟨b, hb, _, hb1⟩ := valI_nat (s.data.toList.drop 13)
    have hb2 := hb1 (by rw [List.length_drop]; have : s.data.toList.length = 22 := hl; omega)
    clear hb1
    have HP : ∀ d c, RdOK s.data.toList d c → allL (s.data.toList.take 13) = true ∧ allL (s.data.toList.drop 13) = true ∧ a = d ∧ b = c := fun d c h => by
      have := rd_parts h
      rw [ha, hb] at this
      exact ⟨this.1, this.2.1, by omega, by omega⟩
    have hx1 : (s.extract 0 13).data.toList = s.data.toList.take 13 := by rw [Lib.extract_data]; simp
    have hx2 : (s.extract 13 s.size).data.toList = s.data.toList.drop 13 := Lib.extract_to_end _ _
    have hn0 : (((s.size : Int) != 22)) = false := by rw [hl]; rfl
    have hlb : 22 ≤ s.size := by omega
    have HL := Lib.hid hl
    have HZ1 : Hid ((s.extract 0 13).size = 13) := Lib.hid (by have := congrArg List.length hx1; rw [List.length_take] at this; have h2 : s.data.toList.length = 22 := hl; rw [h2] at this; exact this)
    have HZ2 : Hid ((s.extract 13 s.size).size = 9) := Lib.hid (by have := congrArg List.length hx2; rw [List.length_drop] at this; have h2 : s.data.toList.length = 22 := hl; rw [h2] at this; exact this)
    have HA := Lib.hid ha
    have HB := Lib.hid hb
    have HX1 := Lib.hid hx1
    have HX2 := Lib.hid hx2
    have HP := Lib.hid HP
    clear hl ha hb hx1 hx2
    go_enter Try.func22, Try.ntmps22
    go_wp2_with fail
    refine (value_any _ _ (by rw [HZ1.out]; omega)).mono ?_
    rintro e w1 ⟨rfl, n1, rfl⟩
    rw [HX1.out, HA.out]
    generalize hoka : allL (s.data.toList.take 13) = oka at *
    have HOA := Lib.hid hoka
    clear hoka
    go_wp2_with fail
    refine (value_any _ _ (by rw [HZ2.out]; omega)).mono ?_
    rintro e w1 ⟨rfl, n2, rfl⟩
    rw [HX2.out, HB.out]
    generalize hokb : allL (s.data.toList.drop 13) = okb at *
    have HOB := Lib.hid hokb
    clear hokb
    have hwb : wrap64 (b : Int) = b := IntWalk.wrap64_in _ (by omega)
    by_cases hmax : b ≤ 1099511627776
    · go_wp2_with fail
      refine (tag_yes a b _ ha1 hmax).mono ?_
      rintro e w2 ⟨rfl, hb2⟩
      generalize htt : str (tagL a b) = t
      have HT := Lib.hid htt
      clear htt
      by_cases hok : oka = true ∧ okb = true ∧ t = s
      · obtain ⟨rfl, rfl, rfl⟩ := hok
        go_wp2
        go_ret3
        exact ⟨.inl ⟨a, b, ⟨ha1, hmax, by rw [← HT.out]; rfl⟩, rfl⟩, (below_drewN (Below.refl _ _) _).trans hb2⟩
      · have hno : ∀ d c, ¬ RdOK s.data.toList d c := fun d c h => by
          obtain ⟨q1, q2, rfl, rfl⟩ := HP.out d c h
          exact hok ⟨q1, q2, by rw [← HT.out, ← h.2.2]; rfl⟩
        have HN := Lib.hid hno
        clear hno
        cases oka
        · go_wp2
          go_ret3
          exact ⟨.inr ⟨HN.out, rfl⟩, (below_drewN (Below.refl _ _) _).trans hb2⟩
        · cases okb
          · go_wp2
            go_ret3
            exact ⟨.inr ⟨HN.out, rfl⟩, (below_drewN (Below.refl _ _) _).trans hb2⟩
          · have hts : t ≠ s := fun h => hok ⟨rfl, rfl, h⟩
            have hte := beq_no hts
            go_wp2
            go_ret3
            exact ⟨.inr ⟨HN.out, rfl⟩, (below_drewN (Below.refl _ _) _).trans hb2⟩
    · go_wp2_with fail
      refine (tag_no a b _ (by omega)).mono ?_
      rintro e w2 ⟨rfl, rfl⟩
      have hno : ∀ d c, ¬ RdOK s.data.toList d c := fun d c h => by have := HP.out d c h; have := h.2.1; omega
      have HN := Lib.hid hno
      clear hno
      go_wp2
      all_goals
        go_ret3
        exact ⟨.inr ⟨HN.out, rfl⟩, below_drewN (Below.refl _ _) _⟩
  · have hb : (((s.size : Int) != 22)) = true := by rw [bne_iff_ne]; omega
    have hno : ∀ d c, ¬ RdOK s.data.toList d c := by
      rintro d c ⟨_, _, h⟩
      have := congrArg List.length h
      rw [tagL_len] at this
      exact hl this
    have H := Lib.hid hno
    clear hno hl
    go_enter Try.func22, Try.ntmps22
    go_wp2
    go_ret3
    exact ⟨.inr ⟨H.out, rfl⟩, Below.refl _ _⟩
end Go.Proofs.Ytpmpppfklngbkaa
