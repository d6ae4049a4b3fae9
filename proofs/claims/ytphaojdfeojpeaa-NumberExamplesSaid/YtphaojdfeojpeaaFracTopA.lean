/-
  The program's sums of fractions.
-/
import Derived.Test.YtphaojdfeojpeaaFracMore
namespace Go.Proofs.Ytphaojdfeojpeaa
open Go.RowKit
set_option linter.unusedVariables false

set_option maxHeartbeats 2000000 in
set_option maxRecDepth 100000 in
theorem AddFractions_any (A : Option Addr) (ca : Nat) (a : List Nat) (Bd : Option Addr) (cb : Nat) (b : List Nat) (C : Option Addr) (cc : Nat) (c : List Nat) (D : Option Addr) (cd : Nat) (d : List Nat) (w : World) {na nb nc nd : Nat} (hna : a.length = na) (hnb : b.length = nb) (hnc : c.length = nc) (hnd : d.length = nd)
    (ha : NR w A ca a) (hb : NR w Bd cb b) (hc : NR w C cc c) (hd : NR w D cd d) :
    Calls Try.prog 42 #[.agg #[.slice A na ca, .slice Bd nb cb], .agg #[.slice C nc cc, .slice D nd cd]] w fun e w' => Frac2 w w' e (addFS a b c d) := by
  have Ha := Lib.hid hna
  have Hb := Lib.hid hnb
  have Hc := Lib.hid hnc
  have Hd := Lib.hid hnd
  obtain ⟨W, hW⟩ : ∃ W : World, W = ((w.alloc (.cells #[.slice A na ca, .slice Bd nb cb] 54)).alloc (.cells #[.slice C nc cc, .slice D nd cd] 54)).alloc (.cells #[.slice none 0 0, .slice none 0 0] 54) := ⟨_, rfl⟩
  have bW : Below w.heap.size w W := by rw [hW]; exact ((alloc_below _ _).alloc (by simp) _).alloc (by simp; omega) _
  have xW : Fr2 W w.heap.size (.slice A na ca) (.slice Bd nb cb) (.slice C nc cc) (.slice D nd cd) := by rw [hW]; exact (Fr2.new _ _ _ _ _).below (alloc_below _ _)
  have xR : Bx W (w.heap.size + 1 + 1) (.slice none 0 0) (.slice none 0 0) := by
    have := Bx.new ((w.alloc (.cells #[.slice A na ca, .slice Bd nb cb] 54)).alloc (.cells #[.slice C nc cc, .slice D nd cd] 54)) (.slice none 0 0) (.slice none 0 0)
    rw [World.size_alloc, World.size_alloc] at this
    rw [hW]; exact this
  have Ra := Lib.hid (ha.below bW)
  have Rb := Lib.hid (hb.below bW)
  have Rc := Lib.hid (hc.below bW)
  have Rd := Lib.hid (hd.below bW)
  have XW := Lib.hid xW
  have XR := Lib.hid xR
  have HW := Lib.hid hW
  obtain ⟨c0, c1, c2, c3⟩ := xW.cells
  clear hna hnb hnc hnd ha hb hc hd hW xW xR
  rcases addFS_cr a b c d with ⟨h3, h4⟩ | ⟨h3, h4⟩
  · have H3 := Lib.hid h3
    have HS := Lib.hid h4
    clear h3 h4
    rw [HW.out] at c0 c1 c2 c3
    go_enter Try.func42, Try.ntmps42
    go_wp2_with fail
    rw [← HW.out]
    clear c0 c1 c2 c3
    refine (cross_add_any A ca a Bd cb b C cc c D cd d w.heap.size (w.heap.size + 1) _ Ha.out Hb.out Hc.out Hd.out Ra.out Rb.out Rc.out Rd.out XW.out.1 XW.out.2).mono ?_
    rintro e w1 ⟨v1, rfl, hF⟩
    rw [crS_no H3.out] at hF ⊢
    obtain ⟨X, cX, Y, cY, rfl, hX, hY, hap, b1⟩ := hF
    have k1 := bW.trans (b1.mono bW.size)
    have Y1 := Lib.hid (XR.out.below b1)
    clear hX hY hap
    go_wp2_with fail
    refine (bounded_err2 X 0 cX Y 0 cY _ 8 (by decide)).mono ?_
    rintro e w2 ⟨rfl, b2⟩
    have k2 := k1.trans (b2.mono k1.size)
    obtain ⟨r0, r1, f0, f1⟩ := (Y1.out.below b2).cells
    go_wp2_with fail
    exact bodyPost_ret (v := .tuple #[.agg #[.slice none 0 0, .slice none 0 0], .int .i64 8]) (by simp [results, Try.f42, go_sem, r0, r1]) rfl (Frac2.mk' HS.out (FracNew.zero ((k2.setCell (p := ⟨w.heap.size + 1 + 1, 0, none⟩) (by show w.heap.size ≤ w.heap.size + 1 + 1; omega) _).setCell (p := ⟨w.heap.size + 1 + 1, 1, none⟩) (by show w.heap.size ≤ w.heap.size + 1 + 1; omega) _)))
  · have H3 := Lib.hid h3
    have HS := Lib.hid h4
    obtain ⟨q1, q2, q3, q4⟩ := bothF_lens Ra.out.dig Rb.out.dig Rc.out.dig Rd.out.dig h3
    have HL1 : Hid ((lowS (val a * val d + val c * val b) (val b * val d)).1.length ≤ 33) := q1
    have HL2 : Hid ((lowS (val a * val d + val c * val b) (val b * val d)).2.length ≤ 33) := q2
    clear q1 q2 q3 q4
    clear h3 h4
    rw [HW.out] at c0 c1 c2 c3
    go_enter Try.func42, Try.ntmps42
    go_wp2_with fail
    rw [← HW.out]
    clear c0 c1 c2 c3
    refine (cross_add_any A ca a Bd cb b C cc c D cd d w.heap.size (w.heap.size + 1) _ Ha.out Hb.out Hc.out Hd.out Ra.out Rb.out Rc.out Rd.out XW.out.1 XW.out.2).mono ?_
    rintro e w1 ⟨v1, rfl, hF⟩
    rw [crS_yes H3.out] at hF ⊢
    obtain ⟨X, cX, Y, cY, rfl, hX, hY, hap, b1⟩ := hF
    have k1 := bW.trans (b1.mono bW.size)
    have Y1 := Lib.hid (XR.out.below b1)
    have zz : w.heap.size + 1 + 1 + 1 ≤ W.heap.size := by have := XR.out.lt; omega
    have nX0 : Hid (NF (w.heap.size + 1 + 1 + 1) w1 X cX _) := hX.mono zz
    have nY0 : Hid (NF (w.heap.size + 1 + 1 + 1) w1 Y cY _) := hY.mono zz
    have HAP := Lib.hid hap
    clear hX hY hap zz
    go_wp2_with fail
    refine (bounded_any X cX (lowS (val a * val d + val c * val b) (val b * val d)).1 Y cY (lowS (val a * val d + val c * val b) (val b * val d)).2 _ rfl rfl (by have := HL1.out; omega) (by have := HL2.out; omega)).mono ?_
    rintro e w2 ⟨rfl, b2⟩
    have k2 := k1.trans (b2.mono k1.size)
    obtain ⟨r0, r1, f0, f1⟩ := (Y1.out.below b2).cells
    have fin := fun u v => frac2_store (w := w) (g := w.heap.size + 1 + 1) (r := addFS a b c d) HS.out (nX0.out.below b2) (nY0.out.below b2) HAP.out (by omega) k2 u v
    have FIN := Lib.hid fin
    clear fin
    rcases bnd_ways (lowS (val a * val d + val c * val b) (val b * val d)).1 (lowS (val a * val d + val c * val b) (val b * val d)).2 with ⟨i1, i2, i3⟩ | ⟨i1, i3⟩ | ⟨i1, i2, i3⟩
    · have HB : Hid (bndV X cX (lowS (val a * val d + val c * val b) (val b * val d)).1 Y cY (lowS (val a * val d + val c * val b) (val b * val d)).2 = .agg #[.slice X (lowS (val a * val d + val c * val b) (val b * val d)).1.length cX, .slice Y (lowS (val a * val d + val c * val b) (val b * val d)).2.length cY]) := by unfold Hid bndV; rw [if_pos ⟨i1, i2⟩]
      have HI := Lib.hid i3
      rw [HB.out, HI.out]
      have HSI := Lib.hid (HS.out.trans HI.out)
      clear i1 i3 i2
      go_wp2_with fail
      refine bodyPost_ret (v := .tuple #[.agg #[.slice X (lowS (val a * val d + val c * val b) (val b * val d)).1.length cX, .slice Y (lowS (val a * val d + val c * val b) (val b * val d)).2.length cY], .int .i64 0]) (by simp [results, Try.f42, go_sem, r0, r1]) rfl ⟨_, by rw [HSI.out], ?_⟩
      rw [← HB.out]
      exact FIN.out _ _
    · have HB : Hid (bndV X cX (lowS (val a * val d + val c * val b) (val b * val d)).1 Y cY (lowS (val a * val d + val c * val b) (val b * val d)).2 = .agg #[.slice none 0 0, .slice none 0 0]) := by unfold Hid bndV; rw [if_neg (fun h => i1 h.1)]
      have HI := Lib.hid i3
      rw [HB.out, HI.out]
      have HSI := Lib.hid (HS.out.trans HI.out)
      clear i1 i3
      go_wp2_with fail
      refine bodyPost_ret (v := .tuple #[.agg #[.slice none 0 0, .slice none 0 0], .int .i64 4]) (by simp [results, Try.f42, go_sem, r0, r1]) rfl ⟨_, by rw [HSI.out], ?_⟩
      rw [← HB.out]
      exact FIN.out _ _
    · have HB : Hid (bndV X cX (lowS (val a * val d + val c * val b) (val b * val d)).1 Y cY (lowS (val a * val d + val c * val b) (val b * val d)).2 = .agg #[.slice none 0 0, .slice none 0 0]) := by unfold Hid bndV; rw [if_neg (fun h => i2 h.2)]
      have HI := Lib.hid i3
      rw [HB.out, HI.out]
      have HSI := Lib.hid (HS.out.trans HI.out)
      clear i1 i3 i2
      go_wp2_with fail
      refine bodyPost_ret (v := .tuple #[.agg #[.slice none 0 0, .slice none 0 0], .int .i64 4]) (by simp [results, Try.f42, go_sem, r0, r1]) rfl ⟨_, by rw [HSI.out], ?_⟩
      rw [← HB.out]
      exact FIN.out _ _

end Go.Proofs.Ytphaojdfeojpeaa
