/-
  The walk of the law NumberCommon.
-/
import Derived.Test.YtphaojdfeojpeaaOutAid
namespace Go.Proofs.Ytphaojdfeojpeaa
open Go.RowKit
set_option linter.unusedVariables false

set_option maxHeartbeats 4000000 in
set_option maxRecDepth 100000 in
theorem numberCommon_walk (A : Option Addr) (ca : Nat) (a : List Nat) (Bd : Option Addr) (cb : Nat) (b : List Nat) (C : Option Addr) (cc : Nat) (c : List Nat) (w : World) (ha : NR w A ca a) (hb : NR w Bd cb b) (hc : NR w C cc c) :
    Calls Try.prog 9 #[.slice A a.length ca, .slice Bd b.length cb, .slice C c.length cc] w fun e w' => e = .returned (.bool true) ∧ Below w.heap.size w w' := by
  have k : Below w.heap.size w w := Below.refl _ _
  have Ra := Lib.hid ha
  have Rb := Lib.hid hb
  have Rc := Lib.hid hc
  clear ha hb hc
  go_enter Try.func9, Try.ntmps9
  go_wp2_with fail
  refine (alive_any _).mono ?_
  rintro e w1 ⟨rfl, b1⟩
  replace Ra := Lib.hid (Ra.out.below b1)
  replace Rb := Lib.hid (Rb.out.below b1)
  replace Rc := Lib.hid (Rc.out.below b1)
  replace k := k.trans (b1.mono k.size)
  clear b1
  go_wp2_with fail
  refine (refValid_any A ca a _ rfl Ra.out).mono ?_
  rintro e w2 ⟨rfl, rfl⟩
  rcases bool_ways (validB a) with va | va
  · rw [va]
    go_wp2_with fail
    go_ret
    exact ⟨rfl, k⟩
  rw [va]
  have VRa := Lib.hid va
  clear va
  go_wp2_with fail
  refine (refValid_any Bd cb b _ rfl Rb.out).mono ?_
  rintro e w3 ⟨rfl, rfl⟩
  rcases bool_ways (validB b) with va | va
  · rw [va]
    go_wp2_with fail
    go_ret
    exact ⟨rfl, k⟩
  rw [va]
  have VRb := Lib.hid va
  clear va
  go_wp2_with fail
  refine (refValid_any C cc c _ rfl Rc.out).mono ?_
  rintro e w4 ⟨rfl, rfl⟩
  rcases bool_ways (validB c) with va | va
  · rw [va]
    go_wp2_with fail
    go_ret
    exact ⟨rfl, k⟩
  rw [va]
  have VRc := Lib.hid va
  clear va
  go_wp2_with fail
  have HDA : Hid (digs (val a) = a) := valid_digs VRa.out Ra.out.dig
  have HDB : Hid (digs (val b) = b) := valid_digs VRb.out Rb.out.dig
  have HDC : Hid (digs (val c) = c) := valid_digs VRc.out Rc.out.dig
  refine (Gcd_any A ca a Bd cb b _ rfl rfl Ra.out Rb.out).mono ?_
  rintro e w5 ⟨X5, c5, rfl, h, b5⟩
  replace Ra := Lib.hid (Ra.out.below b5)
  replace Rb := Lib.hid (Rb.out.below b5)
  replace Rc := Lib.hid (Rc.out.below b5)
  replace k := k.trans (b5.mono k.size)
  rw [gcdS_v VRa.out VRb.out] at h ⊢
  have H5 : Hid (NR w5 X5 c5 (digs (gcdN (val a) (val b)))) := h.1
  clear b5
  clear h
  by_cases h00 : a = [] ∧ b = []
  · obtain ⟨ha0, hb0⟩ := h00
    have EG : Hid (digs (gcdN (val a) (val b)) = []) := by unfold Hid; rw [ha0, hb0]; rfl
    have EA : a.length = 0 := by rw [ha0]; rfl
    have EB : b.length = 0 := by rw [hb0]; rfl
    have Ta : ((a.length : Int) == 0) = true := by rw [EA]; rfl
    have Ta' : (a.length == 0) = true := by rw [EA]; rfl
    have Tb : ((b.length : Int) == 0) = true := by rw [EB]; rfl
    have Tb' : (b.length == 0) = true := by rw [EB]; rfl
    rw [EG.out] at H5 ⊢
    clear ha0 hb0 EA EB
    go_wp2_with fail
    refine (is_any X5 c5 [] 0 none 0 [] _ rfl rfl H5.out (NR.nil _)).mono ?_
    rintro e wz ⟨rfl, bz⟩
    rw [isB_yes]
    replace k := k.trans (bz.mono k.size)
    go_wp2_with fail
    go_ret
    exact ⟨rfl, k⟩
  · have G0 : Hid (gcdN (val a) (val b) ≠ 0) := by
      intro e
      have e2 := Nat.gcd_eq_zero_iff.1 e
      exact h00 ⟨by rw [← HDA.out, e2.1]; rfl, by rw [← HDB.out, e2.2]; rfl⟩
    have D1 : Hid (val a % gcdN (val a) (val b) = 0) := Nat.mod_eq_zero_of_dvd (Nat.gcd_dvd_left _ _)
    have D2 : Hid (val b % gcdN (val a) (val b) = 0) := Nat.mod_eq_zero_of_dvd (Nat.gcd_dvd_right _ _)
    have D3 : Hid (gcdN (val a / gcdN (val a) (val b)) (val b / gcdN (val a) (val b)) = 1) := by unfold Hid gcdN; rw [Nat.gcd_div (Nat.gcd_dvd_left _ _) (Nat.gcd_dvd_right _ _)]; exact Nat.div_self (Nat.pos_of_ne_zero G0.out)
    have D4 : Hid (∀ x, val a % x = 0 → val b % x = 0 → gcdN (val a) (val b) % x = 0) := fun x h1 h2 => Nat.mod_eq_zero_of_dvd (Nat.dvd_gcd (Nat.dvd_of_mod_eq_zero h1) (Nat.dvd_of_mod_eq_zero h2))
    have LA : Hid ((digs (val a)).length ≤ 16) := by rw [HDA.out]; exact (valid_dig VRa.out).2
    have LB : Hid ((digs (val b)).length ≤ 16) := by rw [HDB.out]; exact (valid_dig VRb.out).2
    have LG : Hid (validB (digs (gcdN (val a) (val b))) = true) := by
      rcases Nat.eq_zero_or_pos (val a) with h | h
      · exact valid_mono LB.out (by have h2 := Nat.pos_of_ne_zero G0.out; unfold gcdN at h2 ⊢; rw [h, Nat.gcd_zero_left]; exact Nat.le_refl _)
      · exact valid_mono LA.out (Nat.gcd_le_left _ h)
    generalize gcdN (val a) (val b) = g at *
    have N1 : Hid (validB (digs (val a / g)) = true) := valid_mono LA.out (Nat.div_le_self _ _)
    have N2 : Hid (validB (digs (val b / g)) = true) := valid_mono LB.out (Nat.div_le_self _ _)
    have HG0 : Hid (digs g ≠ []) := digs_ne G0.out
    have E0 : ((a.length : Int) == 0 && (b.length : Int) == 0) = false := by
      cases ha : ((a.length : Int) == 0)
      · rfl
      · cases hb : ((b.length : Int) == 0)
        · rfl
        · exfalso
          rw [beq_iff_eq] at ha hb
          exact h00 ⟨List.eq_nil_of_length_eq_zero (by omega), List.eq_nil_of_length_eq_zero (by omega)⟩
    have E1 : ((a.length : Int) == 0) = false ∨ (((a.length : Int) == 0) = true ∧ ((b.length : Int) == 0) = false) := by cases ha : ((a.length : Int) == 0) <;> cases hb : ((b.length : Int) == 0) <;> simp_all
    clear h00 E0
    rcases E1 with T1 | ⟨T1, T2⟩
    all_goals
      go_wp2_with fail
      refine (Div_any A ca a X5 c5 (digs g) _ rfl rfl Ra.out H5.out).mono ?_
      rintro e w6 ⟨Q6, cq6, R6, cr6, rfl, h, hr, hap, b6⟩
      replace Ra := Lib.hid (Ra.out.below b6)
      replace Rb := Lib.hid (Rb.out.below b6)
      replace Rc := Lib.hid (Rc.out.below b6)
      replace H5 := Lib.hid (H5.out.below b6)
      replace k := k.trans (b6.mono k.size)
      rw [show divS a (digs g) = (digs (val a / g), [], 0) from by rw [divS_v VRa.out LG.out HG0.out, val_digs, D1.out]; rfl] at h hr ⊢
      have HQ6 : Hid (NR w6 Q6 cq6 (digs (val a / g))) := h.1
      have HR6 : Hid (NR w6 R6 cr6 (([] : List Nat))) := hr.1
      clear b6
      clear h hr hap
      go_wp2_with fail
      refine (Div_any Bd cb b X5 c5 (digs g) _ rfl rfl Rb.out H5.out).mono ?_
      rintro e w7 ⟨Q7, cq7, R7, cr7, rfl, h, hr, hap, b7⟩
      replace Ra := Lib.hid (Ra.out.below b7)
      replace Rb := Lib.hid (Rb.out.below b7)
      replace Rc := Lib.hid (Rc.out.below b7)
      replace H5 := Lib.hid (H5.out.below b7)
      replace HQ6 := Lib.hid (HQ6.out.below b7)
      replace HR6 := Lib.hid (HR6.out.below b7)
      replace k := k.trans (b7.mono k.size)
      rw [show divS b (digs g) = (digs (val b / g), [], 0) from by rw [divS_v VRb.out LG.out HG0.out, val_digs, D2.out]; rfl] at h hr ⊢
      have HQ7 : Hid (NR w7 Q7 cq7 (digs (val b / g))) := h.1
      have HR7 : Hid (NR w7 R7 cr7 (([] : List Nat))) := hr.1
      clear b7
      clear h hr hap
      go_wp2_with fail
      refine (Gcd_any Q6 cq6 (digs (val a / g)) Q7 cq7 (digs (val b / g)) _ rfl rfl HQ6.out HQ7.out).mono ?_
      rintro e w8 ⟨X8, c8, rfl, h, b8⟩
      replace Ra := Lib.hid (Ra.out.below b8)
      replace Rb := Lib.hid (Rb.out.below b8)
      replace Rc := Lib.hid (Rc.out.below b8)
      replace H5 := Lib.hid (H5.out.below b8)
      replace HQ6 := Lib.hid (HQ6.out.below b8)
      replace HR6 := Lib.hid (HR6.out.below b8)
      replace HQ7 := Lib.hid (HQ7.out.below b8)
      replace HR7 := Lib.hid (HR7.out.below b8)
      replace k := k.trans (b8.mono k.size)
      rw [show gcdS (digs (val a / g)) (digs (val b / g)) = ([1], 0) from by rw [gcdS_v N1.out N2.out, val_digs, val_digs, D3.out, digs_one (x := 1) (by omega) (by omega)]] at h ⊢
      have H8 : Hid (NR w8 X8 c8 ([1])) := h.1
      clear b8
      clear h
      go_wp2_with fail
      clear HQ6
      clear HQ7
      clear HR6
      clear HR7
      refine (is_any X8 c8 [1] 0 _ 1 [1] _ rfl rfl (H8.out.alloc _) (NR.lit _ [1] _ rfl (dig_small (by decide)) 1 rfl (by omega))).mono ?_
      rintro e w9 ⟨rfl, b9⟩
      rw [isB_yes]
      replace Ra := Lib.hid ((Ra.out.alloc _).below b9)
      replace Rb := Lib.hid ((Rb.out.alloc _).below b9)
      replace Rc := Lib.hid ((Rc.out.alloc _).below b9)
      replace H5 := Lib.hid ((H5.out.alloc _).below b9)
      replace H8 := Lib.hid ((H8.out.alloc _).below b9)
      replace k := (k.alloc k.size _).trans (b9.mono (by have := k.size; simp; omega))
      clear b9
      clear H8
      by_cases hc0 : c = []
      · have EC : c.length = 0 := by rw [hc0]; rfl
        have Tc : ((c.length : Int) == 0) = true := by rw [EC]; rfl
        have Tc' : (c.length == 0) = true := by rw [EC]; rfl
        clear hc0 EC
        go_wp2_with fail
        go_ret
        exact ⟨rfl, k⟩
      · have HC0 := Lib.hid hc0
        have EC : 0 < c.length := List.length_pos_iff.2 hc0
        have Tc : ((c.length : Int) == 0) = false := by rw [beq_eq_false_iff_ne]; omega
        have Tc' : (c.length == 0) = false := by rw [beq_eq_false_iff_ne]; omega
        clear hc0 EC
        go_wp2_with fail
        refine (Div_any A ca a C cc c _ rfl rfl Ra.out Rc.out).mono ?_
        rintro e w10 ⟨Q10, cq10, R10, cr10, rfl, h, hr, hap, b10⟩
        replace Ra := Lib.hid (Ra.out.below b10)
        replace Rb := Lib.hid (Rb.out.below b10)
        replace Rc := Lib.hid (Rc.out.below b10)
        replace H5 := Lib.hid (H5.out.below b10)
        replace k := k.trans (b10.mono k.size)
        rw [divS_v VRa.out VRc.out HC0.out] at h hr ⊢
        have HQ10 : Hid (NR w10 Q10 cq10 (digs (val a / val c))) := h.1
        have HR10 : Hid (NR w10 R10 cr10 (digs (val a % val c))) := hr.1
        clear b10
        clear h hr hap
        go_wp2_with fail
        refine (Div_any Bd cb b C cc c _ rfl rfl Rb.out Rc.out).mono ?_
        rintro e w11 ⟨Q11, cq11, R11, cr11, rfl, h, hr, hap, b11⟩
        replace Ra := Lib.hid (Ra.out.below b11)
        replace Rb := Lib.hid (Rb.out.below b11)
        replace Rc := Lib.hid (Rc.out.below b11)
        replace H5 := Lib.hid (H5.out.below b11)
        replace HQ10 := Lib.hid (HQ10.out.below b11)
        replace HR10 := Lib.hid (HR10.out.below b11)
        replace k := k.trans (b11.mono k.size)
        rw [divS_v VRb.out VRc.out HC0.out] at h hr ⊢
        have HQ11 : Hid (NR w11 Q11 cq11 (digs (val b / val c))) := h.1
        have HR11 : Hid (NR w11 R11 cr11 (digs (val b % val c))) := hr.1
        clear b11
        clear h hr hap
        go_wp2_with fail
        refine (Div_any X5 c5 (digs g) C cc c _ rfl rfl H5.out Rc.out).mono ?_
        rintro e w12 ⟨Q12, cq12, R12, cr12, rfl, h, hr, hap, b12⟩
        replace Ra := Lib.hid (Ra.out.below b12)
        replace Rb := Lib.hid (Rb.out.below b12)
        replace Rc := Lib.hid (Rc.out.below b12)
        replace H5 := Lib.hid (H5.out.below b12)
        replace HQ10 := Lib.hid (HQ10.out.below b12)
        replace HR10 := Lib.hid (HR10.out.below b12)
        replace HQ11 := Lib.hid (HQ11.out.below b12)
        replace HR11 := Lib.hid (HR11.out.below b12)
        replace k := k.trans (b12.mono k.size)
        rw [divS_v LG.out VRc.out HC0.out, val_digs] at h hr ⊢
        have HQ12 : Hid (NR w12 Q12 cq12 (digs (g / val c))) := h.1
        have HR12 : Hid (NR w12 R12 cr12 (digs (g % val c))) := hr.1
        clear b12
        clear h hr hap
        have LR1 : ((digs (val a % val c)).length : Int) ≤ 16 := by have := digs_len_mono (Nat.mod_le (val a) (val c)); have := LA.out; omega
        have LR2 : ((digs (val b % val c)).length : Int) ≤ 16 := by have := digs_len_mono (Nat.mod_le (val b) (val c)); have := LB.out; omega
        rcases (by omega : 0 < (digs (val a % val c)).length + (digs (val b % val c)).length ∨ ((digs (val a % val c)).length = 0 ∧ (digs (val b % val c)).length = 0)) with hz | ⟨z1, z2⟩
        · have T7 : decide ((0 : Int) < ((digs (val a % val c)).length : Int) + ((digs (val b % val c)).length : Int)) = true := by simp; omega
          have T7' : decide (0 < (digs (val a % val c)).length + (digs (val b % val c)).length) = true := by simpa using hz
          clear hz
          go_wp2_with fail
          go_ret
          exact ⟨rfl, k⟩
        have y1 : val a % val c = 0 := digs_nil.1 (List.eq_nil_of_length_eq_zero z1)
        have y2 : val b % val c = 0 := digs_nil.1 (List.eq_nil_of_length_eq_zero z2)
        have Z3 : Hid (g % val c = 0) := D4.out _ y1 y2
        rw [y1, y2, Z3.out]
        clear y1 y2 z1 z2
        have hz : ((digs 0).length : Int) = 0 := rfl
        go_wp2_with fail
        go_ret
        exact ⟨rfl, k⟩
end Go.Proofs.Ytphaojdfeojpeaa
