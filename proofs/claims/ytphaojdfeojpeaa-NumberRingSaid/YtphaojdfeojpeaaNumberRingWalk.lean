/-
  The walk of the law NumberRing.
-/
import Derived.Test.YtphaojdfeojpeaaOutAid
namespace Go.Proofs.Ytphaojdfeojpeaa
open Go.RowKit
set_option linter.unusedVariables false

set_option maxHeartbeats 4000000 in
set_option maxRecDepth 100000 in
theorem numberRing_walk (A : Option Addr) (ca : Nat) (a : List Nat) (Bd : Option Addr) (cb : Nat) (b : List Nat) (C : Option Addr) (cc : Nat) (c : List Nat) (w : World) (ha : NR w A ca a) (hb : NR w Bd cb b) (hc : NR w C cc c) :
    Calls Try.prog 8 #[.slice A a.length ca, .slice Bd b.length cb, .slice C c.length cc] w fun e w' => e = .returned (.bool true) ∧ Below w.heap.size w w' := by
  have k : Below w.heap.size w w := Below.refl _ _
  have Ra := Lib.hid ha
  have Rb := Lib.hid hb
  have Rc := Lib.hid hc
  clear ha hb hc
  go_enter Try.func8, Try.ntmps8
  go_wp2_with fail
  refine (alive_any _).mono ?_
  rintro e w1 ⟨rfl, b1⟩
  replace Ra := Lib.hid (Ra.out.below b1)
  replace Rb := Lib.hid (Rb.out.below b1)
  replace Rc := Lib.hid (Rc.out.below b1)
  replace k := k.trans (b1.mono k.size)
  clear b1
  go_wp2_with fail
  refine (refValid_any A ca a _ rfl Ra.out).mono ?_
  rintro e w2 ⟨rfl, rfl⟩
  rcases bool_ways (validB a) with va | va
  · rw [va]
    go_wp2_with fail
    go_ret
    exact ⟨rfl, k⟩
  rw [va]
  have VRa := Lib.hid va
  clear va
  go_wp2_with fail
  refine (refValid_any Bd cb b _ rfl Rb.out).mono ?_
  rintro e w3 ⟨rfl, rfl⟩
  rcases bool_ways (validB b) with va | va
  · rw [va]
    go_wp2_with fail
    go_ret
    exact ⟨rfl, k⟩
  rw [va]
  have VRb := Lib.hid va
  clear va
  go_wp2_with fail
  refine (refValid_any C cc c _ rfl Rc.out).mono ?_
  rintro e w4 ⟨rfl, rfl⟩
  rcases bool_ways (validB c) with va | va
  · rw [va]
    go_wp2_with fail
    go_ret
    exact ⟨rfl, k⟩
  rw [va]
  have VRc := Lib.hid va
  clear va
  go_wp2_with fail
  refine (Add_any A ca a Bd cb b _ rfl rfl Ra.out Rb.out).mono ?_
  rintro e w5 ⟨X5, c5, rfl, h, b5⟩
  replace Ra := Lib.hid (Ra.out.below b5)
  replace Rb := Lib.hid (Rb.out.below b5)
  replace Rc := Lib.hid (Rc.out.below b5)
  replace k := k.trans (b5.mono k.size)
  rw [addS_v VRa.out VRb.out] at h ⊢
  have H5 : Hid (NR w5 X5 c5 ((limS (val a + val b)).1)) := h.1
  clear b5
  clear h
  go_wp2_with fail
  refine (Add_any Bd cb b A ca a _ rfl rfl Rb.out Ra.out).mono ?_
  rintro e w6 ⟨X6, c6, rfl, h, b6⟩
  replace Ra := Lib.hid (Ra.out.below b6)
  replace Rb := Lib.hid (Rb.out.below b6)
  replace Rc := Lib.hid (Rc.out.below b6)
  replace H5 := Lib.hid (H5.out.below b6)
  replace k := k.trans (b6.mono k.size)
  rw [addS_v VRb.out VRa.out, Nat.add_comm (val b)] at h ⊢
  have H6 : Hid (NR w6 X6 c6 ((limS (val a + val b)).1)) := h.1
  clear b6
  clear h
  go_wp2_with fail
  refine (Mul_any A ca a Bd cb b _ rfl rfl Ra.out Rb.out).mono ?_
  rintro e w7 ⟨X7, c7, rfl, h, b7⟩
  replace Ra := Lib.hid (Ra.out.below b7)
  replace Rb := Lib.hid (Rb.out.below b7)
  replace Rc := Lib.hid (Rc.out.below b7)
  replace H5 := Lib.hid (H5.out.below b7)
  replace H6 := Lib.hid (H6.out.below b7)
  replace k := k.trans (b7.mono k.size)
  rw [mulS_v VRa.out VRb.out] at h ⊢
  have H7 : Hid (NR w7 X7 c7 ((limS (val a * val b)).1)) := h.1
  clear b7
  clear h
  go_wp2_with fail
  refine (Mul_any Bd cb b A ca a _ rfl rfl Rb.out Ra.out).mono ?_
  rintro e w8 ⟨X8, c8, rfl, h, b8⟩
  replace Ra := Lib.hid (Ra.out.below b8)
  replace Rb := Lib.hid (Rb.out.below b8)
  replace Rc := Lib.hid (Rc.out.below b8)
  replace H5 := Lib.hid (H5.out.below b8)
  replace H6 := Lib.hid (H6.out.below b8)
  replace H7 := Lib.hid (H7.out.below b8)
  replace k := k.trans (b8.mono k.size)
  rw [mulS_v VRb.out VRa.out, Nat.mul_comm (val b)] at h ⊢
  have H8 : Hid (NR w8 X8 c8 ((limS (val a * val b)).1)) := h.1
  clear b8
  clear h
  go_wp2_with fail
  refine (Same_any X5 c5 ((limS (val a + val b)).1) X6 c6 ((limS (val a + val b)).1) _ rfl rfl H5.out H6.out).mono ?_
  rintro e w9 ⟨rfl, b9⟩
  replace Ra := Lib.hid (Ra.out.below b9)
  replace Rb := Lib.hid (Rb.out.below b9)
  replace Rc := Lib.hid (Rc.out.below b9)
  replace H5 := Lib.hid (H5.out.below b9)
  replace H6 := Lib.hid (H6.out.below b9)
  replace H7 := Lib.hid (H7.out.below b9)
  replace H8 := Lib.hid (H8.out.below b9)
  replace k := k.trans (b9.mono k.size)
  rw [sameB_self]
  clear b9
  go_wp2_with fail
  refine (Same_any X7 c7 ((limS (val a * val b)).1) X8 c8 ((limS (val a * val b)).1) _ rfl rfl H7.out H8.out).mono ?_
  rintro e w10 ⟨rfl, b10⟩
  replace Ra := Lib.hid (Ra.out.below b10)
  replace Rb := Lib.hid (Rb.out.below b10)
  replace Rc := Lib.hid (Rc.out.below b10)
  replace H5 := Lib.hid (H5.out.below b10)
  replace H6 := Lib.hid (H6.out.below b10)
  replace H7 := Lib.hid (H7.out.below b10)
  replace H8 := Lib.hid (H8.out.below b10)
  replace k := k.trans (b10.mono k.size)
  rw [sameB_self]
  clear b10
  clear H6 H8
  rcases lim_ways (val a + val b) with ⟨l1, n1⟩ | ⟨l1, n1⟩
  · rw [l1]
    rcases lim_ways (val a * val b) with ⟨l2, n2⟩ | ⟨l2, n2⟩
    · rw [l2]
      clear l1 l2 n1 n2
      go_wp2_with fail
      go_ret
      exact ⟨rfl, k⟩
    · rw [l2]
      clear l1 l2 n1 n2
      go_wp2_with fail
      go_ret
      exact ⟨rfl, k⟩
  rcases lim_ways (val a * val b) with ⟨l2, n2⟩ | ⟨l2, n2⟩
  · rw [l1, l2]
    clear l1 l2 n1 n2
    go_wp2_with fail
    go_ret
    exact ⟨rfl, k⟩
  rw [l1] at H5 ⊢
  rw [l2] at H7 ⊢
  have N1 := Lib.hid (validB_of n1)
  have N2 := Lib.hid (validB_of n2)
  clear l1 l2 n1 n2
  go_wp2_with fail
  refine (Mul_any X5 c5 (digs (val a + val b)) C cc c _ rfl rfl H5.out Rc.out).mono ?_
  rintro e w11 ⟨X11, c11, rfl, h, b11⟩
  replace Ra := Lib.hid (Ra.out.below b11)
  replace Rb := Lib.hid (Rb.out.below b11)
  replace Rc := Lib.hid (Rc.out.below b11)
  replace H5 := Lib.hid (H5.out.below b11)
  replace H7 := Lib.hid (H7.out.below b11)
  replace k := k.trans (b11.mono k.size)
  rw [mulS_v N1.out VRc.out, val_digs] at h ⊢
  have H11 : Hid (NR w11 X11 c11 ((limS ((val a + val b) * val c)).1)) := h.1
  clear b11
  clear h
  go_wp2_with fail
  refine (Mul_any A ca a C cc c _ rfl rfl Ra.out Rc.out).mono ?_
  rintro e w12 ⟨X12, c12, rfl, h, b12⟩
  replace Ra := Lib.hid (Ra.out.below b12)
  replace Rb := Lib.hid (Rb.out.below b12)
  replace Rc := Lib.hid (Rc.out.below b12)
  replace H5 := Lib.hid (H5.out.below b12)
  replace H7 := Lib.hid (H7.out.below b12)
  replace H11 := Lib.hid (H11.out.below b12)
  replace k := k.trans (b12.mono k.size)
  rw [mulS_v VRa.out VRc.out] at h ⊢
  have H12 : Hid (NR w12 X12 c12 ((limS (val a * val c)).1)) := h.1
  clear b12
  clear h
  go_wp2_with fail
  refine (Mul_any Bd cb b C cc c _ rfl rfl Rb.out Rc.out).mono ?_
  rintro e w13 ⟨X13, c13, rfl, h, b13⟩
  replace Ra := Lib.hid (Ra.out.below b13)
  replace Rb := Lib.hid (Rb.out.below b13)
  replace Rc := Lib.hid (Rc.out.below b13)
  replace H5 := Lib.hid (H5.out.below b13)
  replace H7 := Lib.hid (H7.out.below b13)
  replace H11 := Lib.hid (H11.out.below b13)
  replace H12 := Lib.hid (H12.out.below b13)
  replace k := k.trans (b13.mono k.size)
  rw [mulS_v VRb.out VRc.out] at h ⊢
  have H13 : Hid (NR w13 X13 c13 ((limS (val b * val c)).1)) := h.1
  clear b13
  clear h
  rcases lim_ways ((val a + val b) * val c) with ⟨l1, n1⟩ | ⟨l1, n1⟩
  · rw [l1]
    clear l1 n1
    go_wp2_with fail
    go_ret
    exact ⟨rfl, k⟩
  have n2 : (digs (val a * val c)).length ≤ 16 := Nat.le_trans (digs_len_mono (Nat.mul_le_mul_right _ (Nat.le_add_right _ _))) n1
  have n3 : (digs (val b * val c)).length ≤ 16 := Nat.le_trans (digs_len_mono (Nat.mul_le_mul_right _ (Nat.le_add_left _ _))) n1
  rw [l1] at H11 ⊢
  rw [limS_yes n2] at H12 ⊢
  rw [limS_yes n3] at H13 ⊢
  have N3 := Lib.hid (validB_of n2)
  have N4 := Lib.hid (validB_of n3)
  have L1 := Lib.hid l1
  clear l1 n1 n2 n3
  go_wp2_with fail
  refine (Add_any X12 c12 (digs (val a * val c)) X13 c13 (digs (val b * val c)) _ rfl rfl H12.out H13.out).mono ?_
  rintro e w14 ⟨X14, c14, rfl, h, b14⟩
  replace Ra := Lib.hid (Ra.out.below b14)
  replace Rb := Lib.hid (Rb.out.below b14)
  replace Rc := Lib.hid (Rc.out.below b14)
  replace H5 := Lib.hid (H5.out.below b14)
  replace H7 := Lib.hid (H7.out.below b14)
  replace H11 := Lib.hid (H11.out.below b14)
  replace H12 := Lib.hid (H12.out.below b14)
  replace H13 := Lib.hid (H13.out.below b14)
  replace k := k.trans (b14.mono k.size)
  rw [addS_v N3.out N4.out, val_digs, val_digs, ← Nat.add_mul, L1.out] at h ⊢
  have H14 : Hid (NR w14 X14 c14 (digs ((val a + val b) * val c))) := h.1
  clear b14
  clear h
  go_wp2_with fail
  refine (Mul_any X7 c7 (digs (val a * val b)) C cc c _ rfl rfl H7.out Rc.out).mono ?_
  rintro e w15 ⟨X15, c15, rfl, h, b15⟩
  replace Ra := Lib.hid (Ra.out.below b15)
  replace Rb := Lib.hid (Rb.out.below b15)
  replace Rc := Lib.hid (Rc.out.below b15)
  replace H5 := Lib.hid (H5.out.below b15)
  replace H7 := Lib.hid (H7.out.below b15)
  replace H11 := Lib.hid (H11.out.below b15)
  replace H12 := Lib.hid (H12.out.below b15)
  replace H13 := Lib.hid (H13.out.below b15)
  replace H14 := Lib.hid (H14.out.below b15)
  replace k := k.trans (b15.mono k.size)
  rw [mulS_v N2.out VRc.out, val_digs] at h ⊢
  have H15 : Hid (NR w15 X15 c15 ((limS (val a * val b * val c)).1)) := h.1
  clear b15
  clear h
  go_wp2_with fail
  refine (Mul_any A ca a X13 c13 (digs (val b * val c)) _ rfl rfl Ra.out H13.out).mono ?_
  rintro e w16 ⟨X16, c16, rfl, h, b16⟩
  replace Ra := Lib.hid (Ra.out.below b16)
  replace Rb := Lib.hid (Rb.out.below b16)
  replace Rc := Lib.hid (Rc.out.below b16)
  replace H5 := Lib.hid (H5.out.below b16)
  replace H7 := Lib.hid (H7.out.below b16)
  replace H11 := Lib.hid (H11.out.below b16)
  replace H12 := Lib.hid (H12.out.below b16)
  replace H13 := Lib.hid (H13.out.below b16)
  replace H14 := Lib.hid (H14.out.below b16)
  replace H15 := Lib.hid (H15.out.below b16)
  replace k := k.trans (b16.mono k.size)
  rw [mulS_v VRa.out N4.out, val_digs, ← Nat.mul_assoc] at h ⊢
  have H16 : Hid (NR w16 X16 c16 ((limS (val a * val b * val c)).1)) := h.1
  clear b16
  clear h
  go_wp2_with fail
  refine (Same_any X11 c11 (digs ((val a + val b) * val c)) X14 c14 (digs ((val a + val b) * val c)) _ rfl rfl H11.out H14.out).mono ?_
  rintro e w17 ⟨rfl, b17⟩
  replace Ra := Lib.hid (Ra.out.below b17)
  replace Rb := Lib.hid (Rb.out.below b17)
  replace Rc := Lib.hid (Rc.out.below b17)
  replace H5 := Lib.hid (H5.out.below b17)
  replace H7 := Lib.hid (H7.out.below b17)
  replace H11 := Lib.hid (H11.out.below b17)
  replace H12 := Lib.hid (H12.out.below b17)
  replace H13 := Lib.hid (H13.out.below b17)
  replace H14 := Lib.hid (H14.out.below b17)
  replace H15 := Lib.hid (H15.out.below b17)
  replace H16 := Lib.hid (H16.out.below b17)
  replace k := k.trans (b17.mono k.size)
  rw [sameB_self]
  clear b17
  go_wp2_with fail
  refine (Same_any X15 c15 ((limS (val a * val b * val c)).1) X16 c16 ((limS (val a * val b * val c)).1) _ rfl rfl H15.out H16.out).mono ?_
  rintro e w18 ⟨rfl, b18⟩
  replace Ra := Lib.hid (Ra.out.below b18)
  replace Rb := Lib.hid (Rb.out.below b18)
  replace Rc := Lib.hid (Rc.out.below b18)
  replace H5 := Lib.hid (H5.out.below b18)
  replace H7 := Lib.hid (H7.out.below b18)
  replace H11 := Lib.hid (H11.out.below b18)
  replace H12 := Lib.hid (H12.out.below b18)
  replace H13 := Lib.hid (H13.out.below b18)
  replace H14 := Lib.hid (H14.out.below b18)
  replace H15 := Lib.hid (H15.out.below b18)
  replace H16 := Lib.hid (H16.out.below b18)
  replace k := k.trans (b18.mono k.size)
  rw [sameB_self]
  clear b18
  go_wp2_with fail
  go_ret
  exact ⟨rfl, k⟩
end Go.Proofs.Ytphaojdfeojpeaa
