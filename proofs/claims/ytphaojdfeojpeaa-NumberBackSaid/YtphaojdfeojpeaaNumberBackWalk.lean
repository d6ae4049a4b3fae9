/-
  The walk of the law NumberBack.
-/
import Derived.Test.YtphaojdfeojpeaaOutAid
namespace Go.Proofs.Ytphaojdfeojpeaa
open Go.RowKit
set_option linter.unusedVariables false

theorem cmp_ways (x y : Nat) : (x < y ∧ cmpN x y = -1 ∧ cmpN y x = 1) ∨ (y < x ∧ cmpN x y = 1 ∧ cmpN y x = -1) ∨ (x = y ∧ cmpN x y = 0 ∧ cmpN y x = 0) := by
  rcases Nat.lt_trichotomy x y with h | h | h
  · exact .inl ⟨h, cmpN_lt h, cmpN_gt h⟩
  · exact .inr (.inr ⟨h, cmpN_eq h, cmpN_eq h.symm⟩)
  · exact .inr (.inl ⟨h, cmpN_gt h, cmpN_lt h⟩)
set_option maxHeartbeats 8000000 in
set_option maxRecDepth 100000 in
theorem numberBack_walk (A : Option Addr) (ca : Nat) (a : List Nat) (Bd : Option Addr) (cb : Nat) (b : List Nat) (w : World) (ha : NR w A ca a) (hb : NR w Bd cb b) :
    Calls Try.prog 16 #[.slice A a.length ca, .slice Bd b.length cb] w fun e w' => e = .returned (.bool true) ∧ Below w.heap.size w w' := by
  have k : Below w.heap.size w w := Below.refl _ _
  have Ra := Lib.hid ha
  have Rb := Lib.hid hb
  clear ha hb
  go_enter Try.func16, Try.ntmps16
  go_wp2_with fail
  refine (alive_any _).mono ?_
  rintro e w1 ⟨rfl, b1⟩
  replace Ra := Lib.hid (Ra.out.below b1)
  replace Rb := Lib.hid (Rb.out.below b1)
  replace k := k.trans (b1.mono k.size)
  clear b1
  go_wp2_with fail
  refine (refValid_any A ca a _ rfl Ra.out).mono ?_
  rintro e w2 ⟨rfl, rfl⟩
  rcases bool_ways (validB a) with va | va
  · rw [va]
    go_wp2_with fail
    go_ret
    exact ⟨rfl, k⟩
  rw [va]
  have VRa := Lib.hid va
  clear va
  go_wp2_with fail
  refine (refValid_any Bd cb b _ rfl Rb.out).mono ?_
  rintro e w3 ⟨rfl, rfl⟩
  rcases bool_ways (validB b) with va | va
  · rw [va]
    go_wp2_with fail
    go_ret
    exact ⟨rfl, k⟩
  rw [va]
  have VRb := Lib.hid va
  clear va
  go_wp2_with fail
  have HDA : Hid (digs (val a) = a) := valid_digs VRa.out Ra.out.dig
  have HDB : Hid (digs (val b) = b) := valid_digs VRb.out Rb.out.dig
  refine (Add_any A ca a Bd cb b _ rfl rfl Ra.out Rb.out).mono ?_
  rintro e w4 ⟨X4, c4, rfl, h, b4⟩
  replace Ra := Lib.hid (Ra.out.below b4)
  replace Rb := Lib.hid (Rb.out.below b4)
  replace k := k.trans (b4.mono k.size)
  rw [addS_v VRa.out VRb.out] at h ⊢
  have H4 : Hid (NR w4 X4 c4 ((limS (val a + val b)).1)) := h.1
  clear b4
  clear h
  rcases lim_ways (val a + val b) with ⟨l1, n1⟩ | ⟨l1, n1⟩
  · rw [l1]
    clear l1 n1 H4
    go_wp2_with fail
    refine (Compare_any A ca a Bd cb b _ rfl rfl Ra.out Rb.out).mono ?_
    rintro e w5 ⟨rfl, b5⟩
    replace Ra := Lib.hid (Ra.out.below b5)
    replace Rb := Lib.hid (Rb.out.below b5)
    replace k := k.trans (b5.mono k.size)
    rw [cmpS_v VRa.out VRb.out]
    clear b5
    go_wp2_with fail
    refine (Compare_any Bd cb b A ca a _ rfl rfl Rb.out Ra.out).mono ?_
    rintro e w6 ⟨rfl, b6⟩
    replace Ra := Lib.hid (Ra.out.below b6)
    replace Rb := Lib.hid (Rb.out.below b6)
    replace k := k.trans (b6.mono k.size)
    rw [cmpS_v VRb.out VRa.out]
    clear b6
    go_wp2_with fail
    rcases cmp_ways (val a) (val b) with ⟨hc, e1, e2⟩ | ⟨hc, e1, e2⟩ | ⟨hc, e1, e2⟩
    · rw [e1, e2]
      have E3 : Hid (sameB a b = false) := sameB_no fun e => by rw [e] at hc; omega
      have E4 : Hid (subS a b = ([], 11)) := subS_no VRa.out VRb.out hc
      clear e1 e2 hc
      go_wp2_with fail
      refine (Sub_any A ca a Bd cb b _ rfl rfl Ra.out Rb.out).mono ?_
      rintro e w7 ⟨X7, c7, rfl, h, b7⟩
      replace Ra := Lib.hid (Ra.out.below b7)
      replace Rb := Lib.hid (Rb.out.below b7)
      replace k := k.trans (b7.mono k.size)
      rw [E4.out] at h ⊢
      have H7 : Hid (NR w7 X7 c7 (([] : List Nat))) := h.1
      clear b7
      clear h
      go_wp2_with fail
      refine (Same_any A ca a Bd cb b _ rfl rfl Ra.out Rb.out).mono ?_
      rintro e w8 ⟨rfl, b8⟩
      replace Ra := Lib.hid (Ra.out.below b8)
      replace Rb := Lib.hid (Rb.out.below b8)
      replace H7 := Lib.hid (H7.out.below b8)
      replace k := k.trans (b8.mono k.size)
      rw [E3.out]
      clear b8
      go_wp2_with fail
      go_ret
      exact ⟨rfl, k⟩
    · rw [e1, e2]
      have E3 : Hid (sameB a b = false) := sameB_no fun e => by rw [e] at hc; omega
      have E4 : Hid (subS a b = (digs (val a - val b), 0)) := subS_yes VRa.out VRb.out (by omega)
      have E5 : Hid (val a - val b + val b = val a) := by unfold Hid; omega
      have N1 : Hid (validB (digs (val a - val b)) = true) := validB_of (Nat.le_trans (digs_len_mono (Nat.sub_le _ _)) (by rw [HDA.out]; exact (valid_dig VRa.out).2))
      clear e1 e2 hc
      go_wp2_with fail
      refine (Sub_any A ca a Bd cb b _ rfl rfl Ra.out Rb.out).mono ?_
      rintro e w7 ⟨X7, c7, rfl, h, b7⟩
      replace Ra := Lib.hid (Ra.out.below b7)
      replace Rb := Lib.hid (Rb.out.below b7)
      replace k := k.trans (b7.mono k.size)
      rw [E4.out] at h ⊢
      have H7 : Hid (NR w7 X7 c7 (digs (val a - val b))) := h.1
      clear b7
      clear h
      go_wp2_with fail
      refine (Same_any A ca a Bd cb b _ rfl rfl Ra.out Rb.out).mono ?_
      rintro e w8 ⟨rfl, b8⟩
      replace Ra := Lib.hid (Ra.out.below b8)
      replace Rb := Lib.hid (Rb.out.below b8)
      replace H7 := Lib.hid (H7.out.below b8)
      replace k := k.trans (b8.mono k.size)
      rw [E3.out]
      clear b8
      go_wp2_with fail
      refine (Add_any X7 c7 (digs (val a - val b)) Bd cb b _ rfl rfl H7.out Rb.out).mono ?_
      rintro e w9 ⟨X9, c9, rfl, h, b9⟩
      replace Ra := Lib.hid (Ra.out.below b9)
      replace Rb := Lib.hid (Rb.out.below b9)
      replace H7 := Lib.hid (H7.out.below b9)
      replace k := k.trans (b9.mono k.size)
      rw [addS_v N1.out VRb.out, val_digs, E5.out, limS_yes (by rw [HDA.out]; exact (valid_dig VRa.out).2), HDA.out] at h ⊢
      have H9 : Hid (NR w9 X9 c9 (a)) := h.1
      clear b9
      clear h
      go_wp2_with fail
      refine (Same_any X9 c9 a A ca a _ rfl rfl H9.out Ra.out).mono ?_
      rintro e w10 ⟨rfl, b10⟩
      replace Ra := Lib.hid (Ra.out.below b10)
      replace Rb := Lib.hid (Rb.out.below b10)
      replace H7 := Lib.hid (H7.out.below b10)
      replace H9 := Lib.hid (H9.out.below b10)
      replace k := k.trans (b10.mono k.size)
      rw [sameB_self]
      clear b10
      go_wp2_with fail
      go_ret
      exact ⟨rfl, k⟩
    · rw [e1, e2]
      have E3 : Hid (sameB a b = true) := sameB_yes (by rw [← HDA.out, ← HDB.out, hc])
      have E4 : Hid (subS a b = (digs (val a - val b), 0)) := subS_yes VRa.out VRb.out (by omega)
      have E5 : Hid (val a - val b + val b = val a) := by unfold Hid; omega
      have N1 : Hid (validB (digs (val a - val b)) = true) := validB_of (Nat.le_trans (digs_len_mono (Nat.sub_le _ _)) (by rw [HDA.out]; exact (valid_dig VRa.out).2))
      clear e1 e2 hc
      go_wp2_with fail
      refine (Sub_any A ca a Bd cb b _ rfl rfl Ra.out Rb.out).mono ?_
      rintro e w7 ⟨X7, c7, rfl, h, b7⟩
      replace Ra := Lib.hid (Ra.out.below b7)
      replace Rb := Lib.hid (Rb.out.below b7)
      replace k := k.trans (b7.mono k.size)
      rw [E4.out] at h ⊢
      have H7 : Hid (NR w7 X7 c7 (digs (val a - val b))) := h.1
      clear b7
      clear h
      go_wp2_with fail
      refine (Same_any A ca a Bd cb b _ rfl rfl Ra.out Rb.out).mono ?_
      rintro e w8 ⟨rfl, b8⟩
      replace Ra := Lib.hid (Ra.out.below b8)
      replace Rb := Lib.hid (Rb.out.below b8)
      replace H7 := Lib.hid (H7.out.below b8)
      replace k := k.trans (b8.mono k.size)
      rw [E3.out]
      clear b8
      go_wp2_with fail
      refine (Add_any X7 c7 (digs (val a - val b)) Bd cb b _ rfl rfl H7.out Rb.out).mono ?_
      rintro e w9 ⟨X9, c9, rfl, h, b9⟩
      replace Ra := Lib.hid (Ra.out.below b9)
      replace Rb := Lib.hid (Rb.out.below b9)
      replace H7 := Lib.hid (H7.out.below b9)
      replace k := k.trans (b9.mono k.size)
      rw [addS_v N1.out VRb.out, val_digs, E5.out, limS_yes (by rw [HDA.out]; exact (valid_dig VRa.out).2), HDA.out] at h ⊢
      have H9 : Hid (NR w9 X9 c9 (a)) := h.1
      clear b9
      clear h
      go_wp2_with fail
      refine (Same_any X9 c9 a A ca a _ rfl rfl H9.out Ra.out).mono ?_
      rintro e w10 ⟨rfl, b10⟩
      replace Ra := Lib.hid (Ra.out.below b10)
      replace Rb := Lib.hid (Rb.out.below b10)
      replace H7 := Lib.hid (H7.out.below b10)
      replace H9 := Lib.hid (H9.out.below b10)
      replace k := k.trans (b10.mono k.size)
      rw [sameB_self]
      clear b10
      go_wp2_with fail
      go_ret
      exact ⟨rfl, k⟩
  · rw [l1] at H4 ⊢
    have N1 := Lib.hid (validB_of n1)
    have NL := Lib.hid n1
    clear l1 n1
    go_wp2_with fail
    refine (Sub_any X4 c4 (digs (val a + val b)) Bd cb b _ rfl rfl H4.out Rb.out).mono ?_
    rintro e w5 ⟨X5, c5, rfl, h, b5⟩
    replace Ra := Lib.hid (Ra.out.below b5)
    replace Rb := Lib.hid (Rb.out.below b5)
    replace H4 := Lib.hid (H4.out.below b5)
    replace k := k.trans (b5.mono k.size)
    rw [subS_yes N1.out VRb.out (by rw [val_digs]; omega), val_digs, Nat.add_sub_cancel, HDA.out] at h ⊢
    have H5 : Hid (NR w5 X5 c5 (a)) := h.1
    clear b5
    clear h
    go_wp2_with fail
    refine (Compare_any X4 c4 (digs (val a + val b)) A ca a _ rfl rfl H4.out Ra.out).mono ?_
    rintro e w6 ⟨rfl, b6⟩
    replace Ra := Lib.hid (Ra.out.below b6)
    replace Rb := Lib.hid (Rb.out.below b6)
    replace H4 := Lib.hid (H4.out.below b6)
    replace H5 := Lib.hid (H5.out.below b6)
    replace k := k.trans (b6.mono k.size)
    rw [cmpS_v N1.out VRa.out, val_digs]
    clear b6
    rcases Nat.eq_zero_or_pos (val b) with hb0 | hb0
    · have EB : Hid (b = []) := by unfold Hid; rw [← HDB.out, hb0]; rfl
      have EL : b.length = 0 := by rw [EB.out]; rfl
      rw [cmpN_eq (show val a + val b = val a from by omega)]
      have T1 : decide ((0 : Int) < b.length) = false := by rw [EL]; rfl
      have T1' : decide (0 < b.length) = false := by rw [EL]; rfl
      have T2 : ((b.length : Int) == 0) = true := by rw [EL]; rfl
      have T2' : (b.length == 0) = true := by rw [EL]; rfl
      have HB0 := Lib.hid hb0
      clear hb0 EL
      go_wp2_with fail
      refine (Same_any X5 c5 a A ca a _ rfl rfl H5.out Ra.out).mono ?_
      rintro e w7 ⟨rfl, b7⟩
      replace Ra := Lib.hid (Ra.out.below b7)
      replace Rb := Lib.hid (Rb.out.below b7)
      replace H4 := Lib.hid (H4.out.below b7)
      replace H5 := Lib.hid (H5.out.below b7)
      replace k := k.trans (b7.mono k.size)
      rw [sameB_self]
      clear b7
      go_wp2_with fail
      clear H5 H4
      refine (Compare_any A ca a Bd cb b _ rfl rfl Ra.out Rb.out).mono ?_
      rintro e w8 ⟨rfl, b8⟩
      replace Ra := Lib.hid (Ra.out.below b8)
      replace Rb := Lib.hid (Rb.out.below b8)
      replace k := k.trans (b8.mono k.size)
      rw [cmpS_v VRa.out VRb.out]
      clear b8
      go_wp2_with fail
      refine (Compare_any Bd cb b A ca a _ rfl rfl Rb.out Ra.out).mono ?_
      rintro e w9 ⟨rfl, b9⟩
      replace Ra := Lib.hid (Ra.out.below b9)
      replace Rb := Lib.hid (Rb.out.below b9)
      replace k := k.trans (b9.mono k.size)
      rw [cmpS_v VRb.out VRa.out]
      clear b9
      go_wp2_with fail
      rcases cmp_ways (val a) (val b) with ⟨hc, e1, e2⟩ | ⟨hc, e1, e2⟩ | ⟨hc, e1, e2⟩
      · rw [e1, e2]
        have E3 : Hid (sameB a b = false) := sameB_no fun e => by rw [e] at hc; omega
        have E4 : Hid (subS a b = ([], 11)) := subS_no VRa.out VRb.out hc
        clear e1 e2 hc
        go_wp2_with fail
        refine (Sub_any A ca a Bd cb b _ rfl rfl Ra.out Rb.out).mono ?_
        rintro e w10 ⟨X10, c10, rfl, h, b10⟩
        replace Ra := Lib.hid (Ra.out.below b10)
        replace Rb := Lib.hid (Rb.out.below b10)
        replace k := k.trans (b10.mono k.size)
        rw [E4.out] at h ⊢
        have H10 : Hid (NR w10 X10 c10 (([] : List Nat))) := h.1
        clear b10
        clear h
        go_wp2_with fail
        refine (Same_any A ca a Bd cb b _ rfl rfl Ra.out Rb.out).mono ?_
        rintro e w11 ⟨rfl, b11⟩
        replace Ra := Lib.hid (Ra.out.below b11)
        replace Rb := Lib.hid (Rb.out.below b11)
        replace H10 := Lib.hid (H10.out.below b11)
        replace k := k.trans (b11.mono k.size)
        rw [E3.out]
        clear b11
        go_wp2_with fail
        go_ret
        exact ⟨rfl, k⟩
      · rw [e1, e2]
        have E3 : Hid (sameB a b = false) := sameB_no fun e => by rw [e] at hc; omega
        have E4 : Hid (subS a b = (digs (val a - val b), 0)) := subS_yes VRa.out VRb.out (by omega)
        have E5 : Hid (val a - val b + val b = val a) := by unfold Hid; omega
        have N1 : Hid (validB (digs (val a - val b)) = true) := validB_of (Nat.le_trans (digs_len_mono (Nat.sub_le _ _)) (by rw [HDA.out]; exact (valid_dig VRa.out).2))
        clear e1 e2 hc
        go_wp2_with fail
        refine (Sub_any A ca a Bd cb b _ rfl rfl Ra.out Rb.out).mono ?_
        rintro e w10 ⟨X10, c10, rfl, h, b10⟩
        replace Ra := Lib.hid (Ra.out.below b10)
        replace Rb := Lib.hid (Rb.out.below b10)
        replace k := k.trans (b10.mono k.size)
        rw [E4.out] at h ⊢
        have H10 : Hid (NR w10 X10 c10 (digs (val a - val b))) := h.1
        clear b10
        clear h
        go_wp2_with fail
        refine (Same_any A ca a Bd cb b _ rfl rfl Ra.out Rb.out).mono ?_
        rintro e w11 ⟨rfl, b11⟩
        replace Ra := Lib.hid (Ra.out.below b11)
        replace Rb := Lib.hid (Rb.out.below b11)
        replace H10 := Lib.hid (H10.out.below b11)
        replace k := k.trans (b11.mono k.size)
        rw [E3.out]
        clear b11
        go_wp2_with fail
        refine (Add_any X10 c10 (digs (val a - val b)) Bd cb b _ rfl rfl H10.out Rb.out).mono ?_
        rintro e w12 ⟨X12, c12, rfl, h, b12⟩
        replace Ra := Lib.hid (Ra.out.below b12)
        replace Rb := Lib.hid (Rb.out.below b12)
        replace H10 := Lib.hid (H10.out.below b12)
        replace k := k.trans (b12.mono k.size)
        rw [addS_v N1.out VRb.out, val_digs, E5.out, limS_yes (by rw [HDA.out]; exact (valid_dig VRa.out).2), HDA.out] at h ⊢
        have H12 : Hid (NR w12 X12 c12 (a)) := h.1
        clear b12
        clear h
        go_wp2_with fail
        refine (Same_any X12 c12 a A ca a _ rfl rfl H12.out Ra.out).mono ?_
        rintro e w13 ⟨rfl, b13⟩
        replace Ra := Lib.hid (Ra.out.below b13)
        replace Rb := Lib.hid (Rb.out.below b13)
        replace H10 := Lib.hid (H10.out.below b13)
        replace H12 := Lib.hid (H12.out.below b13)
        replace k := k.trans (b13.mono k.size)
        rw [sameB_self]
        clear b13
        go_wp2_with fail
        go_ret
        exact ⟨rfl, k⟩
      · rw [e1, e2]
        have E3 : Hid (sameB a b = true) := sameB_yes (by rw [← HDA.out, ← HDB.out, hc])
        have E4 : Hid (subS a b = (digs (val a - val b), 0)) := subS_yes VRa.out VRb.out (by omega)
        have E5 : Hid (val a - val b + val b = val a) := by unfold Hid; omega
        have N1 : Hid (validB (digs (val a - val b)) = true) := validB_of (Nat.le_trans (digs_len_mono (Nat.sub_le _ _)) (by rw [HDA.out]; exact (valid_dig VRa.out).2))
        clear e1 e2 hc
        go_wp2_with fail
        refine (Sub_any A ca a Bd cb b _ rfl rfl Ra.out Rb.out).mono ?_
        rintro e w10 ⟨X10, c10, rfl, h, b10⟩
        replace Ra := Lib.hid (Ra.out.below b10)
        replace Rb := Lib.hid (Rb.out.below b10)
        replace k := k.trans (b10.mono k.size)
        rw [E4.out] at h ⊢
        have H10 : Hid (NR w10 X10 c10 (digs (val a - val b))) := h.1
        clear b10
        clear h
        go_wp2_with fail
        refine (Same_any A ca a Bd cb b _ rfl rfl Ra.out Rb.out).mono ?_
        rintro e w11 ⟨rfl, b11⟩
        replace Ra := Lib.hid (Ra.out.below b11)
        replace Rb := Lib.hid (Rb.out.below b11)
        replace H10 := Lib.hid (H10.out.below b11)
        replace k := k.trans (b11.mono k.size)
        rw [E3.out]
        clear b11
        go_wp2_with fail
        refine (Add_any X10 c10 (digs (val a - val b)) Bd cb b _ rfl rfl H10.out Rb.out).mono ?_
        rintro e w12 ⟨X12, c12, rfl, h, b12⟩
        replace Ra := Lib.hid (Ra.out.below b12)
        replace Rb := Lib.hid (Rb.out.below b12)
        replace H10 := Lib.hid (H10.out.below b12)
        replace k := k.trans (b12.mono k.size)
        rw [addS_v N1.out VRb.out, val_digs, E5.out, limS_yes (by rw [HDA.out]; exact (valid_dig VRa.out).2), HDA.out] at h ⊢
        have H12 : Hid (NR w12 X12 c12 (a)) := h.1
        clear b12
        clear h
        go_wp2_with fail
        refine (Same_any X12 c12 a A ca a _ rfl rfl H12.out Ra.out).mono ?_
        rintro e w13 ⟨rfl, b13⟩
        replace Ra := Lib.hid (Ra.out.below b13)
        replace Rb := Lib.hid (Rb.out.below b13)
        replace H10 := Lib.hid (H10.out.below b13)
        replace H12 := Lib.hid (H12.out.below b13)
        replace k := k.trans (b13.mono k.size)
        rw [sameB_self]
        clear b13
        go_wp2_with fail
        go_ret
        exact ⟨rfl, k⟩
    · have EB : Hid (0 < b.length) := List.length_pos_iff.2 (fun e => by rw [e] at hb0; simp [val] at hb0)
      have EBi : (0 : Int) < b.length := by have := EB.out; omega
      rw [cmpN_gt (show val a < val a + val b from by omega)]
      have T1 : decide (0 < b.length) = true := by simpa using EB.out
      have T2 : ((b.length : Int) == 0) = false := by rw [beq_eq_false_iff_ne]; omega
      have T2' : (b.length == 0) = false := by rw [beq_eq_false_iff_ne]; omega
      have HB0 := Lib.hid hb0
      clear hb0
      go_wp2_with fail
      refine (Same_any X5 c5 a A ca a _ rfl rfl H5.out Ra.out).mono ?_
      rintro e w7 ⟨rfl, b7⟩
      replace Ra := Lib.hid (Ra.out.below b7)
      replace Rb := Lib.hid (Rb.out.below b7)
      replace H4 := Lib.hid (H4.out.below b7)
      replace H5 := Lib.hid (H5.out.below b7)
      replace k := k.trans (b7.mono k.size)
      rw [sameB_self]
      clear b7
      go_wp2_with fail
      clear H5 H4
      refine (Compare_any A ca a Bd cb b _ rfl rfl Ra.out Rb.out).mono ?_
      rintro e w8 ⟨rfl, b8⟩
      replace Ra := Lib.hid (Ra.out.below b8)
      replace Rb := Lib.hid (Rb.out.below b8)
      replace k := k.trans (b8.mono k.size)
      rw [cmpS_v VRa.out VRb.out]
      clear b8
      go_wp2_with fail
      refine (Compare_any Bd cb b A ca a _ rfl rfl Rb.out Ra.out).mono ?_
      rintro e w9 ⟨rfl, b9⟩
      replace Ra := Lib.hid (Ra.out.below b9)
      replace Rb := Lib.hid (Rb.out.below b9)
      replace k := k.trans (b9.mono k.size)
      rw [cmpS_v VRb.out VRa.out]
      clear b9
      go_wp2_with fail
      rcases cmp_ways (val a) (val b) with ⟨hc, e1, e2⟩ | ⟨hc, e1, e2⟩ | ⟨hc, e1, e2⟩
      · rw [e1, e2]
        have E3 : Hid (sameB a b = false) := sameB_no fun e => by rw [e] at hc; omega
        have E4 : Hid (subS a b = ([], 11)) := subS_no VRa.out VRb.out hc
        clear e1 e2 hc
        go_wp2_with fail
        refine (Sub_any A ca a Bd cb b _ rfl rfl Ra.out Rb.out).mono ?_
        rintro e w10 ⟨X10, c10, rfl, h, b10⟩
        replace Ra := Lib.hid (Ra.out.below b10)
        replace Rb := Lib.hid (Rb.out.below b10)
        replace k := k.trans (b10.mono k.size)
        rw [E4.out] at h ⊢
        have H10 : Hid (NR w10 X10 c10 (([] : List Nat))) := h.1
        clear b10
        clear h
        go_wp2_with fail
        refine (Same_any A ca a Bd cb b _ rfl rfl Ra.out Rb.out).mono ?_
        rintro e w11 ⟨rfl, b11⟩
        replace Ra := Lib.hid (Ra.out.below b11)
        replace Rb := Lib.hid (Rb.out.below b11)
        replace H10 := Lib.hid (H10.out.below b11)
        replace k := k.trans (b11.mono k.size)
        rw [E3.out]
        clear b11
        go_wp2_with fail
        go_ret
        exact ⟨rfl, k⟩
      · rw [e1, e2]
        have E3 : Hid (sameB a b = false) := sameB_no fun e => by rw [e] at hc; omega
        have E4 : Hid (subS a b = (digs (val a - val b), 0)) := subS_yes VRa.out VRb.out (by omega)
        have E5 : Hid (val a - val b + val b = val a) := by unfold Hid; omega
        have N1 : Hid (validB (digs (val a - val b)) = true) := validB_of (Nat.le_trans (digs_len_mono (Nat.sub_le _ _)) (by rw [HDA.out]; exact (valid_dig VRa.out).2))
        clear e1 e2 hc
        go_wp2_with fail
        refine (Sub_any A ca a Bd cb b _ rfl rfl Ra.out Rb.out).mono ?_
        rintro e w10 ⟨X10, c10, rfl, h, b10⟩
        replace Ra := Lib.hid (Ra.out.below b10)
        replace Rb := Lib.hid (Rb.out.below b10)
        replace k := k.trans (b10.mono k.size)
        rw [E4.out] at h ⊢
        have H10 : Hid (NR w10 X10 c10 (digs (val a - val b))) := h.1
        clear b10
        clear h
        go_wp2_with fail
        refine (Same_any A ca a Bd cb b _ rfl rfl Ra.out Rb.out).mono ?_
        rintro e w11 ⟨rfl, b11⟩
        replace Ra := Lib.hid (Ra.out.below b11)
        replace Rb := Lib.hid (Rb.out.below b11)
        replace H10 := Lib.hid (H10.out.below b11)
        replace k := k.trans (b11.mono k.size)
        rw [E3.out]
        clear b11
        go_wp2_with fail
        refine (Add_any X10 c10 (digs (val a - val b)) Bd cb b _ rfl rfl H10.out Rb.out).mono ?_
        rintro e w12 ⟨X12, c12, rfl, h, b12⟩
        replace Ra := Lib.hid (Ra.out.below b12)
        replace Rb := Lib.hid (Rb.out.below b12)
        replace H10 := Lib.hid (H10.out.below b12)
        replace k := k.trans (b12.mono k.size)
        rw [addS_v N1.out VRb.out, val_digs, E5.out, limS_yes (by rw [HDA.out]; exact (valid_dig VRa.out).2), HDA.out] at h ⊢
        have H12 : Hid (NR w12 X12 c12 (a)) := h.1
        clear b12
        clear h
        go_wp2_with fail
        refine (Same_any X12 c12 a A ca a _ rfl rfl H12.out Ra.out).mono ?_
        rintro e w13 ⟨rfl, b13⟩
        replace Ra := Lib.hid (Ra.out.below b13)
        replace Rb := Lib.hid (Rb.out.below b13)
        replace H10 := Lib.hid (H10.out.below b13)
        replace H12 := Lib.hid (H12.out.below b13)
        replace k := k.trans (b13.mono k.size)
        rw [sameB_self]
        clear b13
        go_wp2_with fail
        go_ret
        exact ⟨rfl, k⟩
      · rw [e1, e2]
        have E3 : Hid (sameB a b = true) := sameB_yes (by rw [← HDA.out, ← HDB.out, hc])
        have E4 : Hid (subS a b = (digs (val a - val b), 0)) := subS_yes VRa.out VRb.out (by omega)
        have E5 : Hid (val a - val b + val b = val a) := by unfold Hid; omega
        have N1 : Hid (validB (digs (val a - val b)) = true) := validB_of (Nat.le_trans (digs_len_mono (Nat.sub_le _ _)) (by rw [HDA.out]; exact (valid_dig VRa.out).2))
        clear e1 e2 hc
        go_wp2_with fail
        refine (Sub_any A ca a Bd cb b _ rfl rfl Ra.out Rb.out).mono ?_
        rintro e w10 ⟨X10, c10, rfl, h, b10⟩
        replace Ra := Lib.hid (Ra.out.below b10)
        replace Rb := Lib.hid (Rb.out.below b10)
        replace k := k.trans (b10.mono k.size)
        rw [E4.out] at h ⊢
        have H10 : Hid (NR w10 X10 c10 (digs (val a - val b))) := h.1
        clear b10
        clear h
        go_wp2_with fail
        refine (Same_any A ca a Bd cb b _ rfl rfl Ra.out Rb.out).mono ?_
        rintro e w11 ⟨rfl, b11⟩
        replace Ra := Lib.hid (Ra.out.below b11)
        replace Rb := Lib.hid (Rb.out.below b11)
        replace H10 := Lib.hid (H10.out.below b11)
        replace k := k.trans (b11.mono k.size)
        rw [E3.out]
        clear b11
        go_wp2_with fail
        refine (Add_any X10 c10 (digs (val a - val b)) Bd cb b _ rfl rfl H10.out Rb.out).mono ?_
        rintro e w12 ⟨X12, c12, rfl, h, b12⟩
        replace Ra := Lib.hid (Ra.out.below b12)
        replace Rb := Lib.hid (Rb.out.below b12)
        replace H10 := Lib.hid (H10.out.below b12)
        replace k := k.trans (b12.mono k.size)
        rw [addS_v N1.out VRb.out, val_digs, E5.out, limS_yes (by rw [HDA.out]; exact (valid_dig VRa.out).2), HDA.out] at h ⊢
        have H12 : Hid (NR w12 X12 c12 (a)) := h.1
        clear b12
        clear h
        go_wp2_with fail
        refine (Same_any X12 c12 a A ca a _ rfl rfl H12.out Ra.out).mono ?_
        rintro e w13 ⟨rfl, b13⟩
        replace Ra := Lib.hid (Ra.out.below b13)
        replace Rb := Lib.hid (Rb.out.below b13)
        replace H10 := Lib.hid (H10.out.below b13)
        replace H12 := Lib.hid (H12.out.below b13)
        replace k := k.trans (b13.mono k.size)
        rw [sameB_self]
        clear b13
        go_wp2_with fail
        go_ret
        exact ⟨rfl, k⟩
end Go.Proofs.Ytphaojdfeojpeaa
