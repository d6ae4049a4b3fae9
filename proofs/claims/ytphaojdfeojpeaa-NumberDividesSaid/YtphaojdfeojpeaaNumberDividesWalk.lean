/-
  The walk of the law NumberDivides.
-/
import Derived.Test.YtphaojdfeojpeaaOutAid
namespace Go.Proofs.Ytphaojdfeojpeaa
open Go.RowKit
set_option linter.unusedVariables false

set_option maxHeartbeats 4000000 in
set_option maxRecDepth 100000 in
theorem numberDivides_walk (A : Option Addr) (ca : Nat) (a : List Nat) (Bd : Option Addr) (cb : Nat) (b : List Nat) (w : World) (ha : NR w A ca a) (hb : NR w Bd cb b) :
    Calls Try.prog 14 #[.slice A a.length ca, .slice Bd b.length cb] w fun e w' => e = .returned (.bool true) ∧ Below w.heap.size w w' := by
  have k : Below w.heap.size w w := Below.refl _ _
  have Ra := Lib.hid ha
  have Rb := Lib.hid hb
  clear ha hb
  go_enter Try.func14, Try.ntmps14
  go_wp2_with fail
  refine (alive_any _).mono ?_
  rintro e w1 ⟨rfl, b1⟩
  replace Ra := Lib.hid (Ra.out.below b1)
  replace Rb := Lib.hid (Rb.out.below b1)
  replace k := k.trans (b1.mono k.size)
  clear b1
  go_wp2_with fail
  refine (refValid_any A ca a _ rfl Ra.out).mono ?_
  rintro e w2 ⟨rfl, rfl⟩
  rcases bool_ways (validB a) with va | va
  · rw [va]
    go_wp2_with fail
    go_ret
    exact ⟨rfl, k⟩
  rw [va]
  have VRa := Lib.hid va
  clear va
  go_wp2_with fail
  refine (refValid_any Bd cb b _ rfl Rb.out).mono ?_
  rintro e w3 ⟨rfl, rfl⟩
  rcases bool_ways (validB b) with va | va
  · rw [va]
    go_wp2_with fail
    go_ret
    exact ⟨rfl, k⟩
  rw [va]
  have VRb := Lib.hid va
  clear va
  go_wp2_with fail
  have HDA : Hid (digs (val a) = a) := valid_digs VRa.out Ra.out.dig
  have HDB : Hid (digs (val b) = b) := valid_digs VRb.out Rb.out.dig
  by_cases hb0 : b = []
  · have HB0 := Lib.hid hb0
    have EL : b.length = 0 := by rw [hb0]; rfl
    have T2 : ((b.length : Int) == 0) = true := by rw [EL]; rfl
    have T2' : (b.length == 0) = true := by rw [EL]; rfl
    clear hb0 EL
    refine (Div_any A ca a Bd cb b _ rfl rfl Ra.out Rb.out).mono ?_
    rintro e w4 ⟨Q4, cq4, R4, cr4, rfl, h, hr, hap, b4⟩
    replace Ra := Lib.hid (Ra.out.below b4)
    replace Rb := Lib.hid (Rb.out.below b4)
    replace k := k.trans (b4.mono k.size)
    rw [divS_0 VRa.out VRb.out HB0.out] at h hr ⊢
    have HQ4 : Hid (NR w4 Q4 cq4 (([] : List Nat))) := h.1
    have HR4 : Hid (NR w4 R4 cr4 (([] : List Nat))) := hr.1
    clear b4
    clear h hr hap
    go_wp2_with fail
    go_ret
    exact ⟨rfl, k⟩
  · have HB0 := Lib.hid hb0
    have EL : 0 < b.length := List.length_pos_iff.2 hb0
    have T2 : ((b.length : Int) == 0) = false := by rw [beq_eq_false_iff_ne]; omega
    have T2' : (b.length == 0) = false := by rw [beq_eq_false_iff_ne]; omega
    have HVB : Hid (0 < val b) := val_pos (valid_dig VRb.out).1 hb0
    have HQ1 : Hid ((digs (val a)).length ≤ 16) := by rw [HDA.out]; exact (valid_dig VRa.out).2
    have HM : Hid (val a / val b * val b ≤ val a) := Nat.div_mul_le_self _ _
    have HS : Hid (val a / val b * val b + val a % val b = val a) := by have := Nat.div_add_mod (val a) (val b); rw [Nat.mul_comm] at this; exact this
    have HR : Hid (val a % val b < val b) := Nat.mod_lt _ HVB.out
    have N1 : Hid (validB (digs (val a / val b)) = true) := valid_mono HQ1.out (Nat.div_le_self _ _)
    have N2 : Hid (validB (digs (val a % val b)) = true) := valid_mono HQ1.out (Nat.mod_le _ _)
    have N3 : Hid (validB (digs (val a / val b * val b)) = true) := valid_mono HQ1.out HM.out
    have L3 : Hid ((digs (val a / val b * val b)).length ≤ 16) := Nat.le_trans (digs_len_mono HM.out) HQ1.out
    clear hb0 EL
    refine (Div_any A ca a Bd cb b _ rfl rfl Ra.out Rb.out).mono ?_
    rintro e w4 ⟨Q4, cq4, R4, cr4, rfl, h, hr, hap, b4⟩
    replace Ra := Lib.hid (Ra.out.below b4)
    replace Rb := Lib.hid (Rb.out.below b4)
    replace k := k.trans (b4.mono k.size)
    rw [divS_v VRa.out VRb.out HB0.out] at h hr ⊢
    have HQ4 : Hid (NR w4 Q4 cq4 (digs (val a / val b))) := h.1
    have HR4 : Hid (NR w4 R4 cr4 (digs (val a % val b))) := hr.1
    clear b4
    clear h hr hap
    go_wp2_with fail
    refine (Mul_any Q4 cq4 (digs (val a / val b)) Bd cb b _ rfl rfl HQ4.out Rb.out).mono ?_
    rintro e w5 ⟨X5, c5, rfl, h, b5⟩
    replace Ra := Lib.hid (Ra.out.below b5)
    replace Rb := Lib.hid (Rb.out.below b5)
    replace HQ4 := Lib.hid (HQ4.out.below b5)
    replace HR4 := Lib.hid (HR4.out.below b5)
    replace k := k.trans (b5.mono k.size)
    rw [mulS_v N1.out VRb.out, val_digs, limS_yes L3.out] at h ⊢
    have H5 : Hid (NR w5 X5 c5 (digs (val a / val b * val b))) := h.1
    clear b5
    clear h
    go_wp2_with fail
    refine (Add_any X5 c5 (digs (val a / val b * val b)) R4 cr4 (digs (val a % val b)) _ rfl rfl H5.out HR4.out).mono ?_
    rintro e w6 ⟨X6, c6, rfl, h, b6⟩
    replace Ra := Lib.hid (Ra.out.below b6)
    replace Rb := Lib.hid (Rb.out.below b6)
    replace HQ4 := Lib.hid (HQ4.out.below b6)
    replace HR4 := Lib.hid (HR4.out.below b6)
    replace H5 := Lib.hid (H5.out.below b6)
    replace k := k.trans (b6.mono k.size)
    rw [addS_v N3.out N2.out, val_digs, val_digs, HS.out, limS_yes HQ1.out, HDA.out] at h ⊢
    have H6 : Hid (NR w6 X6 c6 (a)) := h.1
    clear b6
    clear h
    go_wp2_with fail
    refine (Compare_any R4 cr4 (digs (val a % val b)) Bd cb b _ rfl rfl HR4.out Rb.out).mono ?_
    rintro e w7 ⟨rfl, b7⟩
    replace Ra := Lib.hid (Ra.out.below b7)
    replace Rb := Lib.hid (Rb.out.below b7)
    replace HQ4 := Lib.hid (HQ4.out.below b7)
    replace HR4 := Lib.hid (HR4.out.below b7)
    replace H5 := Lib.hid (H5.out.below b7)
    replace H6 := Lib.hid (H6.out.below b7)
    replace k := k.trans (b7.mono k.size)
    rw [cmpS_v N2.out VRb.out, val_digs, cmpN_lt HR.out]
    clear b7
    go_wp2_with fail
    refine (Same_any X6 c6 a A ca a _ rfl rfl H6.out Ra.out).mono ?_
    rintro e w8 ⟨rfl, b8⟩
    replace Ra := Lib.hid (Ra.out.below b8)
    replace Rb := Lib.hid (Rb.out.below b8)
    replace HQ4 := Lib.hid (HQ4.out.below b8)
    replace HR4 := Lib.hid (HR4.out.below b8)
    replace H5 := Lib.hid (H5.out.below b8)
    replace H6 := Lib.hid (H6.out.below b8)
    replace k := k.trans (b8.mono k.size)
    rw [sameB_self]
    clear b8
    go_wp2_with fail
    go_ret
    exact ⟨rfl, k⟩
end Go.Proofs.Ytphaojdfeojpeaa
