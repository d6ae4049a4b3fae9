/-
  The walk of the law NumberRatio.
-/
import Derived.Test.YtphaojdfeojpeaaRatioLaw
import Derived.Test.YtphaojdfeojpeaaFracTopA
import Derived.Test.YtphaojdfeojpeaaFracTopM
namespace Go.Proofs.Ytphaojdfeojpeaa
open Go.RowKit
set_option linter.unusedVariables false

set_option maxHeartbeats 8000000 in
set_option maxRecDepth 100000 in
theorem numberRatio_walk (A : Option Addr) (ca : Nat) (a : List Nat) (Bd : Option Addr) (cb : Nat) (b : List Nat) (C : Option Addr) (cc : Nat) (c : List Nat) (D : Option Addr) (cd : Nat) (d : List Nat) (w : World) (ha : NR w A ca a) (hb : NR w Bd cb b) (hc : NR w C cc c) (hd : NR w D cd d) :
    Calls Try.prog 17 #[.slice A a.length ca, .slice Bd b.length cb, .slice C c.length cc, .slice D d.length cd] w fun e w' => e = .returned (.bool true) ∧ Below w.heap.size w w' := by
  have k : Below w.heap.size w w := Below.refl _ _
  have Ra := Lib.hid ha
  have Rb := Lib.hid hb
  have Rc := Lib.hid hc
  have Rd := Lib.hid hd
  clear ha hb hc hd
  go_enter Try.func17, Try.ntmps17
  go_wp2_with fail
  refine (alive_any _).mono ?_
  rintro e w1 ⟨rfl, b1⟩
  replace Ra := Lib.hid (Ra.out.below b1)
  replace Rb := Lib.hid (Rb.out.below b1)
  replace Rc := Lib.hid (Rc.out.below b1)
  replace Rd := Lib.hid (Rd.out.below b1)
  replace k := k.trans (b1.mono k.size)
  clear b1
  go_wp2_with fail
  refine (refValid_any A ca a _ rfl Ra.out).mono ?_
  rintro e w2 ⟨rfl, rfl⟩
  rcases bool_ways (validB a) with va | va
  · rw [va]
    go_wp2_with fail
    go_ret
    exact ⟨rfl, k⟩
  rw [va]
  have VRa := Lib.hid va
  clear va
  go_wp2_with fail
  refine (refValid_any Bd cb b _ rfl Rb.out).mono ?_
  rintro e w3 ⟨rfl, rfl⟩
  rcases bool_ways (validB b) with va | va
  · rw [va]
    go_wp2_with fail
    go_ret
    exact ⟨rfl, k⟩
  rw [va]
  have VRb := Lib.hid va
  clear va
  go_wp2_with fail
  refine (refValid_any C cc c _ rfl Rc.out).mono ?_
  rintro e w4 ⟨rfl, rfl⟩
  rcases bool_ways (validB c) with va | va
  · rw [va]
    go_wp2_with fail
    go_ret
    exact ⟨rfl, k⟩
  rw [va]
  have VRc := Lib.hid va
  clear va
  go_wp2_with fail
  refine (refValid_any D cd d _ rfl Rd.out).mono ?_
  rintro e w5 ⟨rfl, rfl⟩
  rcases bool_ways (validB d) with va | va
  · rw [va]
    go_wp2_with fail
    go_ret
    exact ⟨rfl, k⟩
  rw [va]
  have VRd := Lib.hid va
  clear va
  rcases bool_ways ((b.length : Int) == 0) with z1 | z1
  rotate_left
  · have y1 : (b.length == 0) = true := by simpa using z1
    go_wp2_with fail
    go_ret
    exact ⟨rfl, k⟩
  have y1 : (b.length == 0) = false := by simpa using z1
  have Nb : Hid (b ≠ []) := fun e => by rw [e] at z1; simp at z1
  rcases bool_ways ((d.length : Int) == 0) with z2 | z2
  rotate_left
  · have y2 : (d.length == 0) = true := by simpa using z2
    go_wp2_with fail
    go_ret
    exact ⟨rfl, k⟩
  have y2 : (d.length == 0) = false := by simpa using z2
  have Nd : Hid (d ≠ []) := fun e => by rw [e] at z2; simp at z2
  rcases bool_ways (decide ((4 : Int) < a.length)) with z3 | z3
  rotate_left
  · go_wp2_with fail
    go_ret
    exact ⟨rfl, k⟩
  have La : Hid (a.length ≤ 4) := by unfold Hid; simp at z3; omega
  rcases bool_ways (decide ((4 : Int) < b.length)) with z4 | z4
  rotate_left
  · go_wp2_with fail
    go_ret
    exact ⟨rfl, k⟩
  have Lb : Hid (b.length ≤ 4) := by unfold Hid; simp at z4; omega
  rcases bool_ways (decide ((4 : Int) < c.length)) with z5 | z5
  rotate_left
  · go_wp2_with fail
    go_ret
    exact ⟨rfl, k⟩
  have Lc : Hid (c.length ≤ 4) := by unfold Hid; simp at z5; omega
  rcases bool_ways (decide ((4 : Int) < d.length)) with z6 | z6
  rotate_left
  · go_wp2_with fail
    go_ret
    exact ⟨rfl, k⟩
  have Ld : Hid (d.length ≤ 4) := by unfold Hid; simp at z6; omega
  obtain ⟨p, q, s, t, ad, cb1, bd, ac, sm, u, v, Q, he1, he2, he3, he4, he5, he6, he7, he8, he9, he10, he11, he12, he13, he14, he15, he16⟩ := ratio_facts VRa.out VRb.out VRc.out VRd.out Ra.out.dig Rb.out.dig Rc.out.dig Rd.out.dig La.out Lb.out Lc.out Ld.out Nb.out Nd.out
  have HE1 := Lib.hid he1
  have HE2 := Lib.hid he2
  have HE3 := Lib.hid he3
  have HE4 := Lib.hid he4
  have HE5 := Lib.hid he5
  have HE6 := Lib.hid he6
  have HE7 := Lib.hid he7
  have HE8 := Lib.hid he8
  have HE9 := Lib.hid he9
  have HE10 := Lib.hid he10
  have HE11 := Lib.hid he11
  have HE12 := Lib.hid he12
  have HE13 := Lib.hid he13
  have HE14 := Lib.hid he14
  have HE15 := Lib.hid he15
  have HE16 := Lib.hid he16
  clear he1 he2 he3 he4 he5 he6 he7 he8 he9 he10 he11 he12 he13 he14 he15 he16
  go_wp2_with fail
  refine (Ratio_any A ca a Bd cb b _ rfl rfl Ra.out Rb.out).mono ?_
  rintro e w6 ⟨vv, rfl, hF⟩
  rw [HE1.out] at hF ⊢
  obtain ⟨X1, cX1, X2, cX2, rfl, h1, h2, hap, b6⟩ := hF
  replace Ra := Lib.hid (Ra.out.below b6)
  replace Rb := Lib.hid (Rb.out.below b6)
  replace Rc := Lib.hid (Rc.out.below b6)
  replace Rd := Lib.hid (Rd.out.below b6)
  replace k := k.trans (b6.mono k.size)
  have HX1 := Lib.hid h1.1
  have HX2 := Lib.hid h2.1
  clear h1 h2 hap b6
  go_wp2_with fail
  obtain ⟨W6, hW⟩ : ∃ V : World, V = w6.alloc (.cells #[.slice X1 (p).length cX1, .slice X2 (q).length cX2] 54) := ⟨_, rfl⟩
  obtain ⟨gX, hg⟩ : ∃ x, x = w6.heap.size := ⟨_, rfl⟩
  have bb : Below w6.heap.size w6 W6 := by rw [hW]; exact alloc_below _ _
  have HW6 := Lib.hid hW
  have HGX := Lib.hid hg
  have BXX : Hid (Bx W6 gX (.slice X1 (p).length cX1) (.slice X2 (q).length cX2)) := by rw [hW, hg]; exact Bx.new _ _ _
  replace Ra := Lib.hid (Ra.out.below bb)
  replace Rb := Lib.hid (Rb.out.below bb)
  replace Rc := Lib.hid (Rc.out.below bb)
  replace Rd := Lib.hid (Rd.out.below bb)
  replace HX1 := Lib.hid (HX1.out.below bb)
  replace HX2 := Lib.hid (HX2.out.below bb)
  replace k := k.trans (bb.mono k.size)
  clear hW hg bb
  rw [← HGX.out, ← HW6.out]
  refine (Ratio_any C cc c D cd d _ rfl rfl Rc.out Rd.out).mono ?_
  rintro e w7 ⟨vv, rfl, hF⟩
  rw [HE2.out] at hF ⊢
  obtain ⟨Y1, cY1, Y2, cY2, rfl, h1, h2, hap, b7⟩ := hF
  replace Ra := Lib.hid (Ra.out.below b7)
  replace Rb := Lib.hid (Rb.out.below b7)
  replace Rc := Lib.hid (Rc.out.below b7)
  replace Rd := Lib.hid (Rd.out.below b7)
  replace HX1 := Lib.hid (HX1.out.below b7)
  replace HX2 := Lib.hid (HX2.out.below b7)
  replace BXX := Lib.hid (BXX.out.below b7)
  replace k := k.trans (b7.mono k.size)
  have HY1 := Lib.hid h1.1
  have HY2 := Lib.hid h2.1
  clear h1 h2 hap b7
  go_wp2_with fail
  obtain ⟨W7, hW⟩ : ∃ V : World, V = w7.alloc (.cells #[.slice Y1 (s).length cY1, .slice Y2 (t).length cY2] 54) := ⟨_, rfl⟩
  obtain ⟨gY, hg⟩ : ∃ x, x = w7.heap.size := ⟨_, rfl⟩
  have bb : Below w7.heap.size w7 W7 := by rw [hW]; exact alloc_below _ _
  have HW7 := Lib.hid hW
  have HGY := Lib.hid hg
  have BXY : Hid (Bx W7 gY (.slice Y1 (s).length cY1) (.slice Y2 (t).length cY2)) := by rw [hW, hg]; exact Bx.new _ _ _
  replace Ra := Lib.hid (Ra.out.below bb)
  replace Rb := Lib.hid (Rb.out.below bb)
  replace Rc := Lib.hid (Rc.out.below bb)
  replace Rd := Lib.hid (Rd.out.below bb)
  replace HX1 := Lib.hid (HX1.out.below bb)
  replace HX2 := Lib.hid (HX2.out.below bb)
  replace BXX := Lib.hid (BXX.out.below bb)
  replace HY1 := Lib.hid (HY1.out.below bb)
  replace HY2 := Lib.hid (HY2.out.below bb)
  replace k := k.trans (bb.mono k.size)
  clear hW hg bb
  rw [← HGY.out, ← HW7.out]
  refine (Mul_any A ca a D cd d _ rfl rfl Ra.out Rd.out).mono ?_
  rintro e w8 ⟨X8, c8, rfl, h, b8⟩
  replace Ra := Lib.hid (Ra.out.below b8)
  replace Rb := Lib.hid (Rb.out.below b8)
  replace Rc := Lib.hid (Rc.out.below b8)
  replace Rd := Lib.hid (Rd.out.below b8)
  replace HX1 := Lib.hid (HX1.out.below b8)
  replace HX2 := Lib.hid (HX2.out.below b8)
  replace BXX := Lib.hid (BXX.out.below b8)
  replace HY1 := Lib.hid (HY1.out.below b8)
  replace HY2 := Lib.hid (HY2.out.below b8)
  replace BXY := Lib.hid (BXY.out.below b8)
  replace k := k.trans (b8.mono k.size)
  rw [HE3.out] at h ⊢
  have H8 : Hid (NR w8 X8 c8 (ad)) := h.1
  clear b8
  clear h
  go_wp2_with fail
  refine (Mul_any C cc c Bd cb b _ rfl rfl Rc.out Rb.out).mono ?_
  rintro e w9 ⟨X9, c9, rfl, h, b9⟩
  replace Ra := Lib.hid (Ra.out.below b9)
  replace Rb := Lib.hid (Rb.out.below b9)
  replace Rc := Lib.hid (Rc.out.below b9)
  replace Rd := Lib.hid (Rd.out.below b9)
  replace HX1 := Lib.hid (HX1.out.below b9)
  replace HX2 := Lib.hid (HX2.out.below b9)
  replace BXX := Lib.hid (BXX.out.below b9)
  replace HY1 := Lib.hid (HY1.out.below b9)
  replace HY2 := Lib.hid (HY2.out.below b9)
  replace BXY := Lib.hid (BXY.out.below b9)
  replace H8 := Lib.hid (H8.out.below b9)
  replace k := k.trans (b9.mono k.size)
  rw [HE4.out] at h ⊢
  have H9 : Hid (NR w9 X9 c9 (cb1)) := h.1
  clear b9
  clear h
  go_wp2_with fail
  refine (Mul_any Bd cb b D cd d _ rfl rfl Rb.out Rd.out).mono ?_
  rintro e w10 ⟨X10, c10, rfl, h, b10⟩
  replace Ra := Lib.hid (Ra.out.below b10)
  replace Rb := Lib.hid (Rb.out.below b10)
  replace Rc := Lib.hid (Rc.out.below b10)
  replace Rd := Lib.hid (Rd.out.below b10)
  replace HX1 := Lib.hid (HX1.out.below b10)
  replace HX2 := Lib.hid (HX2.out.below b10)
  replace BXX := Lib.hid (BXX.out.below b10)
  replace HY1 := Lib.hid (HY1.out.below b10)
  replace HY2 := Lib.hid (HY2.out.below b10)
  replace BXY := Lib.hid (BXY.out.below b10)
  replace H8 := Lib.hid (H8.out.below b10)
  replace H9 := Lib.hid (H9.out.below b10)
  replace k := k.trans (b10.mono k.size)
  rw [HE5.out] at h ⊢
  have H10 : Hid (NR w10 X10 c10 (bd)) := h.1
  clear b10
  clear h
  go_wp2_with fail
  refine (Mul_any A ca a C cc c _ rfl rfl Ra.out Rc.out).mono ?_
  rintro e w11 ⟨X11, c11, rfl, h, b11⟩
  replace Ra := Lib.hid (Ra.out.below b11)
  replace Rb := Lib.hid (Rb.out.below b11)
  replace Rc := Lib.hid (Rc.out.below b11)
  replace Rd := Lib.hid (Rd.out.below b11)
  replace HX1 := Lib.hid (HX1.out.below b11)
  replace HX2 := Lib.hid (HX2.out.below b11)
  replace BXX := Lib.hid (BXX.out.below b11)
  replace HY1 := Lib.hid (HY1.out.below b11)
  replace HY2 := Lib.hid (HY2.out.below b11)
  replace BXY := Lib.hid (BXY.out.below b11)
  replace H8 := Lib.hid (H8.out.below b11)
  replace H9 := Lib.hid (H9.out.below b11)
  replace H10 := Lib.hid (H10.out.below b11)
  replace k := k.trans (b11.mono k.size)
  rw [HE6.out] at h ⊢
  have H11 : Hid (NR w11 X11 c11 (ac)) := h.1
  clear b11
  clear h
  go_wp2_with fail
  refine (Add_any X8 c8 ad X9 c9 cb1 _ rfl rfl H8.out H9.out).mono ?_
  rintro e w12 ⟨X12, c12, rfl, h, b12⟩
  replace Ra := Lib.hid (Ra.out.below b12)
  replace Rb := Lib.hid (Rb.out.below b12)
  replace Rc := Lib.hid (Rc.out.below b12)
  replace Rd := Lib.hid (Rd.out.below b12)
  replace HX1 := Lib.hid (HX1.out.below b12)
  replace HX2 := Lib.hid (HX2.out.below b12)
  replace BXX := Lib.hid (BXX.out.below b12)
  replace HY1 := Lib.hid (HY1.out.below b12)
  replace HY2 := Lib.hid (HY2.out.below b12)
  replace BXY := Lib.hid (BXY.out.below b12)
  replace H8 := Lib.hid (H8.out.below b12)
  replace H9 := Lib.hid (H9.out.below b12)
  replace H10 := Lib.hid (H10.out.below b12)
  replace H11 := Lib.hid (H11.out.below b12)
  replace k := k.trans (b12.mono k.size)
  rw [HE7.out] at h ⊢
  have H12 : Hid (NR w12 X12 c12 (sm)) := h.1
  clear b12
  clear h
  obtain ⟨BXXp, BXXq, _, _⟩ := BXX.out.cells
  go_wp2_with fail
  clear BXXp BXXq
  refine (CheckFraction_any X1 cX1 p X2 cX2 q _ rfl rfl HX1.out HX2.out).mono ?_
  rintro e w13 ⟨rfl, b13⟩
  replace Ra := Lib.hid (Ra.out.below b13)
  replace Rb := Lib.hid (Rb.out.below b13)
  replace Rc := Lib.hid (Rc.out.below b13)
  replace Rd := Lib.hid (Rd.out.below b13)
  replace HX1 := Lib.hid (HX1.out.below b13)
  replace HX2 := Lib.hid (HX2.out.below b13)
  replace BXX := Lib.hid (BXX.out.below b13)
  replace HY1 := Lib.hid (HY1.out.below b13)
  replace HY2 := Lib.hid (HY2.out.below b13)
  replace BXY := Lib.hid (BXY.out.below b13)
  replace H8 := Lib.hid (H8.out.below b13)
  replace H9 := Lib.hid (H9.out.below b13)
  replace H10 := Lib.hid (H10.out.below b13)
  replace H11 := Lib.hid (H11.out.below b13)
  replace H12 := Lib.hid (H12.out.below b13)
  replace k := k.trans (b13.mono k.size)
  rw [HE8.out]
  clear b13
  obtain ⟨BXYp, BXYq, _, _⟩ := BXY.out.cells
  go_wp2_with fail
  clear BXYp BXYq
  refine (CheckFraction_any Y1 cY1 s Y2 cY2 t _ rfl rfl HY1.out HY2.out).mono ?_
  rintro e w14 ⟨rfl, b14⟩
  replace Ra := Lib.hid (Ra.out.below b14)
  replace Rb := Lib.hid (Rb.out.below b14)
  replace Rc := Lib.hid (Rc.out.below b14)
  replace Rd := Lib.hid (Rd.out.below b14)
  replace HX1 := Lib.hid (HX1.out.below b14)
  replace HX2 := Lib.hid (HX2.out.below b14)
  replace BXX := Lib.hid (BXX.out.below b14)
  replace HY1 := Lib.hid (HY1.out.below b14)
  replace HY2 := Lib.hid (HY2.out.below b14)
  replace BXY := Lib.hid (BXY.out.below b14)
  replace H8 := Lib.hid (H8.out.below b14)
  replace H9 := Lib.hid (H9.out.below b14)
  replace H10 := Lib.hid (H10.out.below b14)
  replace H11 := Lib.hid (H11.out.below b14)
  replace H12 := Lib.hid (H12.out.below b14)
  replace k := k.trans (b14.mono k.size)
  rw [HE9.out]
  clear b14
  obtain ⟨BXXp, BXXq, _, _⟩ := BXX.out.cells
  obtain ⟨BXYp, BXYq, _, _⟩ := BXY.out.cells
  go_wp2_with fail
  clear BXXp BXXq BXYp BXYq
  refine (CompareFractions_any X1 cX1 p X2 cX2 q Y1 cY1 s Y2 cY2 t _ rfl rfl rfl rfl HX1.out HX2.out HY1.out HY2.out).mono ?_
  rintro e w15 ⟨rfl, b15⟩
  replace Ra := Lib.hid (Ra.out.below b15)
  replace Rb := Lib.hid (Rb.out.below b15)
  replace Rc := Lib.hid (Rc.out.below b15)
  replace Rd := Lib.hid (Rd.out.below b15)
  replace HX1 := Lib.hid (HX1.out.below b15)
  replace HX2 := Lib.hid (HX2.out.below b15)
  replace BXX := Lib.hid (BXX.out.below b15)
  replace HY1 := Lib.hid (HY1.out.below b15)
  replace HY2 := Lib.hid (HY2.out.below b15)
  replace BXY := Lib.hid (BXY.out.below b15)
  replace H8 := Lib.hid (H8.out.below b15)
  replace H9 := Lib.hid (H9.out.below b15)
  replace H10 := Lib.hid (H10.out.below b15)
  replace H11 := Lib.hid (H11.out.below b15)
  replace H12 := Lib.hid (H12.out.below b15)
  replace k := k.trans (b15.mono k.size)
  rw [HE10.out]
  clear b15
  go_wp2_with fail
  refine (Compare_any X8 c8 ad X9 c9 cb1 _ rfl rfl H8.out H9.out).mono ?_
  rintro e w16 ⟨rfl, b16⟩
  replace Ra := Lib.hid (Ra.out.below b16)
  replace Rb := Lib.hid (Rb.out.below b16)
  replace Rc := Lib.hid (Rc.out.below b16)
  replace Rd := Lib.hid (Rd.out.below b16)
  replace HX1 := Lib.hid (HX1.out.below b16)
  replace HX2 := Lib.hid (HX2.out.below b16)
  replace BXX := Lib.hid (BXX.out.below b16)
  replace HY1 := Lib.hid (HY1.out.below b16)
  replace HY2 := Lib.hid (HY2.out.below b16)
  replace BXY := Lib.hid (BXY.out.below b16)
  replace H8 := Lib.hid (H8.out.below b16)
  replace H9 := Lib.hid (H9.out.below b16)
  replace H10 := Lib.hid (H10.out.below b16)
  replace H11 := Lib.hid (H11.out.below b16)
  replace H12 := Lib.hid (H12.out.below b16)
  replace k := k.trans (b16.mono k.size)
  rw [HE11.out]
  clear b16
  obtain ⟨BXXp, BXXq, _, _⟩ := BXX.out.cells
  obtain ⟨BXYp, BXYq, _, _⟩ := BXY.out.cells
  go_wp2_with fail
  clear BXXp BXXq BXYp BXYq
  refine (SameFraction_any X1 cX1 p X2 cX2 q Y1 cY1 s Y2 cY2 t _ rfl rfl rfl rfl HX1.out HX2.out HY1.out HY2.out).mono ?_
  rintro e w17 ⟨rfl, b17⟩
  replace Ra := Lib.hid (Ra.out.below b17)
  replace Rb := Lib.hid (Rb.out.below b17)
  replace Rc := Lib.hid (Rc.out.below b17)
  replace Rd := Lib.hid (Rd.out.below b17)
  replace HX1 := Lib.hid (HX1.out.below b17)
  replace HX2 := Lib.hid (HX2.out.below b17)
  replace BXX := Lib.hid (BXX.out.below b17)
  replace HY1 := Lib.hid (HY1.out.below b17)
  replace HY2 := Lib.hid (HY2.out.below b17)
  replace BXY := Lib.hid (BXY.out.below b17)
  replace H8 := Lib.hid (H8.out.below b17)
  replace H9 := Lib.hid (H9.out.below b17)
  replace H10 := Lib.hid (H10.out.below b17)
  replace H11 := Lib.hid (H11.out.below b17)
  replace H12 := Lib.hid (H12.out.below b17)
  replace k := k.trans (b17.mono k.size)
  rw [HE12.out]
  clear b17
  obtain ⟨BXXp, BXXq, _, _⟩ := BXX.out.cells
  obtain ⟨BXYp, BXYq, _, _⟩ := BXY.out.cells
  go_wp2_with fail
  clear BXXp BXXq BXYp BXYq
  refine (AddFractions_any X1 cX1 p X2 cX2 q Y1 cY1 s Y2 cY2 t _ rfl rfl rfl rfl HX1.out HX2.out HY1.out HY2.out).mono ?_
  rintro e w18 ⟨vv, rfl, hF⟩
  rw [HE13.out] at hF ⊢
  obtain ⟨U1, cU1, U2, cU2, rfl, h1, h2, hap, b18⟩ := hF
  replace Ra := Lib.hid (Ra.out.below b18)
  replace Rb := Lib.hid (Rb.out.below b18)
  replace Rc := Lib.hid (Rc.out.below b18)
  replace Rd := Lib.hid (Rd.out.below b18)
  replace HX1 := Lib.hid (HX1.out.below b18)
  replace HX2 := Lib.hid (HX2.out.below b18)
  replace BXX := Lib.hid (BXX.out.below b18)
  replace HY1 := Lib.hid (HY1.out.below b18)
  replace HY2 := Lib.hid (HY2.out.below b18)
  replace BXY := Lib.hid (BXY.out.below b18)
  replace H8 := Lib.hid (H8.out.below b18)
  replace H9 := Lib.hid (H9.out.below b18)
  replace H10 := Lib.hid (H10.out.below b18)
  replace H11 := Lib.hid (H11.out.below b18)
  replace H12 := Lib.hid (H12.out.below b18)
  replace k := k.trans (b18.mono k.size)
  have HU1 := Lib.hid h1.1
  have HU2 := Lib.hid h2.1
  clear h1 h2 hap b18
  go_wp2_with fail
  obtain ⟨W18, hW⟩ : ∃ V : World, V = w18.alloc (.cells #[.slice U1 (u.1).length cU1, .slice U2 (u.2).length cU2] 54) := ⟨_, rfl⟩
  obtain ⟨gU, hg⟩ : ∃ x, x = w18.heap.size := ⟨_, rfl⟩
  have bb : Below w18.heap.size w18 W18 := by rw [hW]; exact alloc_below _ _
  have HW18 := Lib.hid hW
  have HGU := Lib.hid hg
  have BXU : Hid (Bx W18 gU (.slice U1 (u.1).length cU1) (.slice U2 (u.2).length cU2)) := by rw [hW, hg]; exact Bx.new _ _ _
  replace Ra := Lib.hid (Ra.out.below bb)
  replace Rb := Lib.hid (Rb.out.below bb)
  replace Rc := Lib.hid (Rc.out.below bb)
  replace Rd := Lib.hid (Rd.out.below bb)
  replace HX1 := Lib.hid (HX1.out.below bb)
  replace HX2 := Lib.hid (HX2.out.below bb)
  replace BXX := Lib.hid (BXX.out.below bb)
  replace HY1 := Lib.hid (HY1.out.below bb)
  replace HY2 := Lib.hid (HY2.out.below bb)
  replace BXY := Lib.hid (BXY.out.below bb)
  replace H8 := Lib.hid (H8.out.below bb)
  replace H9 := Lib.hid (H9.out.below bb)
  replace H10 := Lib.hid (H10.out.below bb)
  replace H11 := Lib.hid (H11.out.below bb)
  replace H12 := Lib.hid (H12.out.below bb)
  replace HU1 := Lib.hid (HU1.out.below bb)
  replace HU2 := Lib.hid (HU2.out.below bb)
  replace k := k.trans (bb.mono k.size)
  clear hW hg bb
  rw [← HGU.out, ← HW18.out]
  refine (Ratio_any X12 c12 sm X10 c10 bd _ rfl rfl H12.out H10.out).mono ?_
  rintro e w19 ⟨vv, rfl, hF⟩
  rw [HE14.out] at hF ⊢
  obtain ⟨V1, cV1, V2, cV2, rfl, h1, h2, hap, b19⟩ := hF
  replace Ra := Lib.hid (Ra.out.below b19)
  replace Rb := Lib.hid (Rb.out.below b19)
  replace Rc := Lib.hid (Rc.out.below b19)
  replace Rd := Lib.hid (Rd.out.below b19)
  replace HX1 := Lib.hid (HX1.out.below b19)
  replace HX2 := Lib.hid (HX2.out.below b19)
  replace BXX := Lib.hid (BXX.out.below b19)
  replace HY1 := Lib.hid (HY1.out.below b19)
  replace HY2 := Lib.hid (HY2.out.below b19)
  replace BXY := Lib.hid (BXY.out.below b19)
  replace H8 := Lib.hid (H8.out.below b19)
  replace H9 := Lib.hid (H9.out.below b19)
  replace H10 := Lib.hid (H10.out.below b19)
  replace H11 := Lib.hid (H11.out.below b19)
  replace H12 := Lib.hid (H12.out.below b19)
  replace HU1 := Lib.hid (HU1.out.below b19)
  replace HU2 := Lib.hid (HU2.out.below b19)
  replace BXU := Lib.hid (BXU.out.below b19)
  replace k := k.trans (b19.mono k.size)
  have HV1 := Lib.hid h1.1
  have HV2 := Lib.hid h2.1
  clear h1 h2 hap b19
  obtain ⟨BXXp, BXXq, _, _⟩ := BXX.out.cells
  obtain ⟨BXYp, BXYq, _, _⟩ := BXY.out.cells
  have eX := Lib.hid (BXX.out.below (alloc_below w19 (.cells #[.slice V1 u.1.length cV1, .slice V2 u.2.length cV2] 54)))
  have eY := Lib.hid (BXY.out.below (alloc_below w19 (.cells #[.slice V1 u.1.length cV1, .slice V2 u.2.length cV2] 54)))
  obtain ⟨ex0, ex1, _, _⟩ := eX.out.cells
  obtain ⟨ey0, ey1, _, _⟩ := eY.out.cells
  go_wp2_with fail
  obtain ⟨W19, hW⟩ : ∃ V : World, V = w19.alloc (.cells #[.slice V1 (u.1).length cV1, .slice V2 (u.2).length cV2] 54) := ⟨_, rfl⟩
  obtain ⟨gV, hg⟩ : ∃ x, x = w19.heap.size := ⟨_, rfl⟩
  have bb : Below w19.heap.size w19 W19 := by rw [hW]; exact alloc_below _ _
  have HW19 := Lib.hid hW
  have HGV := Lib.hid hg
  have BXV : Hid (Bx W19 gV (.slice V1 (u.1).length cV1) (.slice V2 (u.2).length cV2)) := by rw [hW, hg]; exact Bx.new _ _ _
  replace Ra := Lib.hid (Ra.out.below bb)
  replace Rb := Lib.hid (Rb.out.below bb)
  replace Rc := Lib.hid (Rc.out.below bb)
  replace Rd := Lib.hid (Rd.out.below bb)
  replace HX1 := Lib.hid (HX1.out.below bb)
  replace HX2 := Lib.hid (HX2.out.below bb)
  replace BXX := Lib.hid (BXX.out.below bb)
  replace HY1 := Lib.hid (HY1.out.below bb)
  replace HY2 := Lib.hid (HY2.out.below bb)
  replace BXY := Lib.hid (BXY.out.below bb)
  replace H8 := Lib.hid (H8.out.below bb)
  replace H9 := Lib.hid (H9.out.below bb)
  replace H10 := Lib.hid (H10.out.below bb)
  replace H11 := Lib.hid (H11.out.below bb)
  replace H12 := Lib.hid (H12.out.below bb)
  replace HU1 := Lib.hid (HU1.out.below bb)
  replace HU2 := Lib.hid (HU2.out.below bb)
  replace BXU := Lib.hid (BXU.out.below bb)
  replace HV1 := Lib.hid (HV1.out.below bb)
  replace HV2 := Lib.hid (HV2.out.below bb)
  replace k := k.trans (bb.mono k.size)
  clear hW hg bb
  rw [← HGV.out, ← HW19.out]
  clear eX eY ex0 ex1 ey0 ey1
  clear BXXp BXXq BXYp BXYq
  refine (MulFractions_any X1 cX1 p X2 cX2 q Y1 cY1 s Y2 cY2 t _ rfl rfl rfl rfl HX1.out HX2.out HY1.out HY2.out).mono ?_
  rintro e w20 ⟨vv, rfl, hF⟩
  rw [HE15.out] at hF ⊢
  obtain ⟨S1, cS1, S2, cS2, rfl, h1, h2, hap, b20⟩ := hF
  replace Ra := Lib.hid (Ra.out.below b20)
  replace Rb := Lib.hid (Rb.out.below b20)
  replace Rc := Lib.hid (Rc.out.below b20)
  replace Rd := Lib.hid (Rd.out.below b20)
  replace HX1 := Lib.hid (HX1.out.below b20)
  replace HX2 := Lib.hid (HX2.out.below b20)
  replace BXX := Lib.hid (BXX.out.below b20)
  replace HY1 := Lib.hid (HY1.out.below b20)
  replace HY2 := Lib.hid (HY2.out.below b20)
  replace BXY := Lib.hid (BXY.out.below b20)
  replace H8 := Lib.hid (H8.out.below b20)
  replace H9 := Lib.hid (H9.out.below b20)
  replace H10 := Lib.hid (H10.out.below b20)
  replace H11 := Lib.hid (H11.out.below b20)
  replace H12 := Lib.hid (H12.out.below b20)
  replace HU1 := Lib.hid (HU1.out.below b20)
  replace HU2 := Lib.hid (HU2.out.below b20)
  replace BXU := Lib.hid (BXU.out.below b20)
  replace HV1 := Lib.hid (HV1.out.below b20)
  replace HV2 := Lib.hid (HV2.out.below b20)
  replace BXV := Lib.hid (BXV.out.below b20)
  replace k := k.trans (b20.mono k.size)
  have HS1 := Lib.hid h1.1
  have HS2 := Lib.hid h2.1
  clear h1 h2 hap b20
  go_wp2_with fail
  obtain ⟨W20, hW⟩ : ∃ V : World, V = w20.alloc (.cells #[.slice S1 (v.1).length cS1, .slice S2 (v.2).length cS2] 54) := ⟨_, rfl⟩
  obtain ⟨gS, hg⟩ : ∃ x, x = w20.heap.size := ⟨_, rfl⟩
  have bb : Below w20.heap.size w20 W20 := by rw [hW]; exact alloc_below _ _
  have HW20 := Lib.hid hW
  have HGS := Lib.hid hg
  have BXS : Hid (Bx W20 gS (.slice S1 (v.1).length cS1) (.slice S2 (v.2).length cS2)) := by rw [hW, hg]; exact Bx.new _ _ _
  replace Ra := Lib.hid (Ra.out.below bb)
  replace Rb := Lib.hid (Rb.out.below bb)
  replace Rc := Lib.hid (Rc.out.below bb)
  replace Rd := Lib.hid (Rd.out.below bb)
  replace HX1 := Lib.hid (HX1.out.below bb)
  replace HX2 := Lib.hid (HX2.out.below bb)
  replace BXX := Lib.hid (BXX.out.below bb)
  replace HY1 := Lib.hid (HY1.out.below bb)
  replace HY2 := Lib.hid (HY2.out.below bb)
  replace BXY := Lib.hid (BXY.out.below bb)
  replace H8 := Lib.hid (H8.out.below bb)
  replace H9 := Lib.hid (H9.out.below bb)
  replace H10 := Lib.hid (H10.out.below bb)
  replace H11 := Lib.hid (H11.out.below bb)
  replace H12 := Lib.hid (H12.out.below bb)
  replace HU1 := Lib.hid (HU1.out.below bb)
  replace HU2 := Lib.hid (HU2.out.below bb)
  replace BXU := Lib.hid (BXU.out.below bb)
  replace HV1 := Lib.hid (HV1.out.below bb)
  replace HV2 := Lib.hid (HV2.out.below bb)
  replace BXV := Lib.hid (BXV.out.below bb)
  replace HS1 := Lib.hid (HS1.out.below bb)
  replace HS2 := Lib.hid (HS2.out.below bb)
  replace k := k.trans (bb.mono k.size)
  clear hW hg bb
  rw [← HGS.out, ← HW20.out]
  refine (Ratio_any X11 c11 ac X10 c10 bd _ rfl rfl H11.out H10.out).mono ?_
  rintro e w21 ⟨vv, rfl, hF⟩
  rw [HE16.out] at hF ⊢
  obtain ⟨T1, cT1, T2, cT2, rfl, h1, h2, hap, b21⟩ := hF
  replace Ra := Lib.hid (Ra.out.below b21)
  replace Rb := Lib.hid (Rb.out.below b21)
  replace Rc := Lib.hid (Rc.out.below b21)
  replace Rd := Lib.hid (Rd.out.below b21)
  replace HX1 := Lib.hid (HX1.out.below b21)
  replace HX2 := Lib.hid (HX2.out.below b21)
  replace BXX := Lib.hid (BXX.out.below b21)
  replace HY1 := Lib.hid (HY1.out.below b21)
  replace HY2 := Lib.hid (HY2.out.below b21)
  replace BXY := Lib.hid (BXY.out.below b21)
  replace H8 := Lib.hid (H8.out.below b21)
  replace H9 := Lib.hid (H9.out.below b21)
  replace H10 := Lib.hid (H10.out.below b21)
  replace H11 := Lib.hid (H11.out.below b21)
  replace H12 := Lib.hid (H12.out.below b21)
  replace HU1 := Lib.hid (HU1.out.below b21)
  replace HU2 := Lib.hid (HU2.out.below b21)
  replace BXU := Lib.hid (BXU.out.below b21)
  replace HV1 := Lib.hid (HV1.out.below b21)
  replace HV2 := Lib.hid (HV2.out.below b21)
  replace BXV := Lib.hid (BXV.out.below b21)
  replace HS1 := Lib.hid (HS1.out.below b21)
  replace HS2 := Lib.hid (HS2.out.below b21)
  replace BXS := Lib.hid (BXS.out.below b21)
  replace k := k.trans (b21.mono k.size)
  have HT1 := Lib.hid h1.1
  have HT2 := Lib.hid h2.1
  clear h1 h2 hap b21
  have eU := Lib.hid (BXU.out.below (alloc_below w21 (.cells #[.slice T1 v.1.length cT1, .slice T2 v.2.length cT2] 54)))
  have eV := Lib.hid (BXV.out.below (alloc_below w21 (.cells #[.slice T1 v.1.length cT1, .slice T2 v.2.length cT2] 54)))
  obtain ⟨ex0, ex1, _, _⟩ := eU.out.cells
  obtain ⟨ey0, ey1, _, _⟩ := eV.out.cells
  go_wp2_with fail
  obtain ⟨W21, hW⟩ : ∃ V : World, V = w21.alloc (.cells #[.slice T1 (v.1).length cT1, .slice T2 (v.2).length cT2] 54) := ⟨_, rfl⟩
  obtain ⟨gT, hg⟩ : ∃ x, x = w21.heap.size := ⟨_, rfl⟩
  have bb : Below w21.heap.size w21 W21 := by rw [hW]; exact alloc_below _ _
  have HW21 := Lib.hid hW
  have HGT := Lib.hid hg
  have BXT : Hid (Bx W21 gT (.slice T1 (v.1).length cT1) (.slice T2 (v.2).length cT2)) := by rw [hW, hg]; exact Bx.new _ _ _
  replace Ra := Lib.hid (Ra.out.below bb)
  replace Rb := Lib.hid (Rb.out.below bb)
  replace Rc := Lib.hid (Rc.out.below bb)
  replace Rd := Lib.hid (Rd.out.below bb)
  replace HX1 := Lib.hid (HX1.out.below bb)
  replace HX2 := Lib.hid (HX2.out.below bb)
  replace BXX := Lib.hid (BXX.out.below bb)
  replace HY1 := Lib.hid (HY1.out.below bb)
  replace HY2 := Lib.hid (HY2.out.below bb)
  replace BXY := Lib.hid (BXY.out.below bb)
  replace H8 := Lib.hid (H8.out.below bb)
  replace H9 := Lib.hid (H9.out.below bb)
  replace H10 := Lib.hid (H10.out.below bb)
  replace H11 := Lib.hid (H11.out.below bb)
  replace H12 := Lib.hid (H12.out.below bb)
  replace HU1 := Lib.hid (HU1.out.below bb)
  replace HU2 := Lib.hid (HU2.out.below bb)
  replace BXU := Lib.hid (BXU.out.below bb)
  replace HV1 := Lib.hid (HV1.out.below bb)
  replace HV2 := Lib.hid (HV2.out.below bb)
  replace BXV := Lib.hid (BXV.out.below bb)
  replace HS1 := Lib.hid (HS1.out.below bb)
  replace HS2 := Lib.hid (HS2.out.below bb)
  replace BXS := Lib.hid (BXS.out.below bb)
  replace HT1 := Lib.hid (HT1.out.below bb)
  replace HT2 := Lib.hid (HT2.out.below bb)
  replace k := k.trans (bb.mono k.size)
  clear hW hg bb
  rw [← HGT.out, ← HW21.out]
  clear eU eV ex0 ex1 ey0 ey1
  refine (SameFraction_any U1 cU1 u.1 U2 cU2 u.2 V1 cV1 u.1 V2 cV2 u.2 _ rfl rfl rfl rfl HU1.out HU2.out HV1.out HV2.out).mono ?_
  rintro e w22 ⟨rfl, b22⟩
  replace Ra := Lib.hid (Ra.out.below b22)
  replace Rb := Lib.hid (Rb.out.below b22)
  replace Rc := Lib.hid (Rc.out.below b22)
  replace Rd := Lib.hid (Rd.out.below b22)
  replace HX1 := Lib.hid (HX1.out.below b22)
  replace HX2 := Lib.hid (HX2.out.below b22)
  replace BXX := Lib.hid (BXX.out.below b22)
  replace HY1 := Lib.hid (HY1.out.below b22)
  replace HY2 := Lib.hid (HY2.out.below b22)
  replace BXY := Lib.hid (BXY.out.below b22)
  replace H8 := Lib.hid (H8.out.below b22)
  replace H9 := Lib.hid (H9.out.below b22)
  replace H10 := Lib.hid (H10.out.below b22)
  replace H11 := Lib.hid (H11.out.below b22)
  replace H12 := Lib.hid (H12.out.below b22)
  replace HU1 := Lib.hid (HU1.out.below b22)
  replace HU2 := Lib.hid (HU2.out.below b22)
  replace BXU := Lib.hid (BXU.out.below b22)
  replace HV1 := Lib.hid (HV1.out.below b22)
  replace HV2 := Lib.hid (HV2.out.below b22)
  replace BXV := Lib.hid (BXV.out.below b22)
  replace HS1 := Lib.hid (HS1.out.below b22)
  replace HS2 := Lib.hid (HS2.out.below b22)
  replace BXS := Lib.hid (BXS.out.below b22)
  replace HT1 := Lib.hid (HT1.out.below b22)
  replace HT2 := Lib.hid (HT2.out.below b22)
  replace BXT := Lib.hid (BXT.out.below b22)
  replace k := k.trans (b22.mono k.size)
  rw [sameB_self, sameB_self]
  clear b22
  obtain ⟨BXSp, BXSq, _, _⟩ := BXS.out.cells
  obtain ⟨BXTp, BXTq, _, _⟩ := BXT.out.cells
  go_wp2_with fail
  clear BXSp BXSq BXTp BXTq
  refine (SameFraction_any S1 cS1 v.1 S2 cS2 v.2 T1 cT1 v.1 T2 cT2 v.2 _ rfl rfl rfl rfl HS1.out HS2.out HT1.out HT2.out).mono ?_
  rintro e w23 ⟨rfl, b23⟩
  replace Ra := Lib.hid (Ra.out.below b23)
  replace Rb := Lib.hid (Rb.out.below b23)
  replace Rc := Lib.hid (Rc.out.below b23)
  replace Rd := Lib.hid (Rd.out.below b23)
  replace HX1 := Lib.hid (HX1.out.below b23)
  replace HX2 := Lib.hid (HX2.out.below b23)
  replace BXX := Lib.hid (BXX.out.below b23)
  replace HY1 := Lib.hid (HY1.out.below b23)
  replace HY2 := Lib.hid (HY2.out.below b23)
  replace BXY := Lib.hid (BXY.out.below b23)
  replace H8 := Lib.hid (H8.out.below b23)
  replace H9 := Lib.hid (H9.out.below b23)
  replace H10 := Lib.hid (H10.out.below b23)
  replace H11 := Lib.hid (H11.out.below b23)
  replace H12 := Lib.hid (H12.out.below b23)
  replace HU1 := Lib.hid (HU1.out.below b23)
  replace HU2 := Lib.hid (HU2.out.below b23)
  replace BXU := Lib.hid (BXU.out.below b23)
  replace HV1 := Lib.hid (HV1.out.below b23)
  replace HV2 := Lib.hid (HV2.out.below b23)
  replace BXV := Lib.hid (BXV.out.below b23)
  replace HS1 := Lib.hid (HS1.out.below b23)
  replace HS2 := Lib.hid (HS2.out.below b23)
  replace BXS := Lib.hid (BXS.out.below b23)
  replace HT1 := Lib.hid (HT1.out.below b23)
  replace HT2 := Lib.hid (HT2.out.below b23)
  replace BXT := Lib.hid (BXT.out.below b23)
  replace k := k.trans (b23.mono k.size)
  rw [sameB_self, sameB_self]
  clear b23
  go_wp2_with fail
  go_ret
  exact ⟨rfl, k⟩
end Go.Proofs.Ytphaojdfeojpeaa
