/-
  Sums and products of fractions: the program's and the reference's.
-/
import Derived.Test.YtphaojdfeojpeaaFracOps
namespace Go.Proofs.Ytphaojdfeojpeaa
open Go.RowKit
set_option linter.unusedVariables false

theorem addFS_no {a b c d : List Nat} (h : bothF a b c d = false) : addFS a b c d = (([], []), 8) := by rw [addFS, h]; rfl
theorem addFS_yes {a b c d : List Nat} (h : bothF a b c d = true) : addFS a b c d = bndS (lowS (val a * val d + val c * val b) (val b * val d)) := by rw [addFS, h]; rfl
theorem mulFS_no {a b c d : List Nat} (h : bothF a b c d = false) : mulFS a b c d = (([], []), 8) := by rw [mulFS, h]; rfl
theorem mulFS_yes {a b c d : List Nat} (h : bothF a b c d = true) : mulFS a b c d = bndS (lowS (val a * val c) (val b * val d)) := by rw [mulFS, h]; rfl
theorem FracNew.drew {w W : World} {v : Value} {r : List Nat × List Nat} (h : FracNew w W v r) : FracNew w W.drew v r := by
  obtain ⟨V1, V2, V3, V4, q1, q2, q3, q4, q5⟩ := h
  exact ⟨V1, V2, V3, V4, q1, q2.drew, q3.drew, q4, q5.drew⟩
theorem frac2_store {w w3 : World} {g : Nat} {X Y : Option Addr} {c d : Nat} {l m : List Nat} {r : (List Nat × List Nat) × Int} (hr : r = bndS (l, m)) (hX : NF (g + 1) w3 X c l) (hY : NF (g + 1) w3 Y d m) (ap : Apart X l Y m) (hg : w.heap.size ≤ g) (hb : Below w.heap.size w w3) (u v : Value) :
    FracNew w (((w3.setCell ⟨g, 0, none⟩ u).setCell ⟨g, 1, none⟩ v)) (bndV X c l Y d m) r.1 := by
  subst hr
  obtain ⟨X', c', Y', d', e, h1, h2, h3, h4⟩ := fracNew_store hX hY ap hg hb u v
  injection e with e
  injection e with e
  injection e with e1 e2
  injection e1 with a1 a2 a3
  injection e2 with e2 _
  injection e2 with b1 b2 b3
  subst a1 a3 b1 b3
  exact FracNew.bnd h1 h2 h3 h4

set_option maxHeartbeats 4000000 in
set_option maxRecDepth 100000 in
theorem refAddFractions_any (A : Option Addr) (ca : Nat) (a : List Nat) (Bd : Option Addr) (cb : Nat) (b : List Nat) (C : Option Addr) (cc : Nat) (c : List Nat) (D : Option Addr) (cd : Nat) (d : List Nat) (w : World) {na nb nc nd : Nat} (hna : a.length = na) (hnb : b.length = nb) (hnc : c.length = nc) (hnd : d.length = nd)
    (ha : NR w A ca a) (hb : NR w Bd cb b) (hc : NR w C cc c) (hd : NR w D cd d) :
    Calls Try.prog 43 #[.agg #[.slice A na ca, .slice Bd nb cb], .agg #[.slice C nc cc, .slice D nd cd]] w fun e w' => Frac2 w w' e (addFS a b c d) := by
  have Ha := Lib.hid hna
  have Hb := Lib.hid hnb
  have Hc := Lib.hid hnc
  have Hd := Lib.hid hnd
  obtain ⟨W, hW⟩ : ∃ W : World, W = ((w.alloc (.cells #[.slice A na ca, .slice Bd nb cb] 54)).alloc (.cells #[.slice C nc cc, .slice D nd cd] 54)).alloc (.cells #[.slice none 0 0, .slice none 0 0] 54) := ⟨_, rfl⟩
  have bW : Below w.heap.size w W := by rw [hW]; exact ((alloc_below _ _).alloc (by simp) _).alloc (by simp; omega) _
  have xW : Fr2 W w.heap.size (.slice A na ca) (.slice Bd nb cb) (.slice C nc cc) (.slice D nd cd) := by rw [hW]; exact (Fr2.new _ _ _ _ _).below (alloc_below _ _)
  have xR : Bx W (w.heap.size + 1 + 1) (.slice none 0 0) (.slice none 0 0) := by
    have := Bx.new ((w.alloc (.cells #[.slice A na ca, .slice Bd nb cb] 54)).alloc (.cells #[.slice C nc cc, .slice D nd cd] 54)) (.slice none 0 0) (.slice none 0 0)
    rw [World.size_alloc, World.size_alloc] at this
    rw [hW]; exact this
  have Ra := Lib.hid (ha.below bW)
  have Rb := Lib.hid (hb.below bW)
  have Rc := Lib.hid (hc.below bW)
  have Rd := Lib.hid (hd.below bW)
  have XW := Lib.hid xW
  have XR := Lib.hid xR
  have HW := Lib.hid hW
  obtain ⟨c0, c1, c2, c3⟩ := xW.cells
  clear hna hnb hnc hnd ha hb hc hd hW xW xR
  rcases bothF_ways a b c d with ⟨h1, h3⟩ | ⟨h1, h2, h3⟩ | ⟨h1, h2, h3⟩
  · have H1 := Lib.hid h1
    have H3 := Lib.hid h3
    have HS : Hid (addFS a b c d = (([], []), 8)) := addFS_no h3
    clear h1 h3
    rw [HW.out] at c0 c1 c2 c3
    go_enter Try.func43, Try.ntmps43
    go_wp2_with fail
    rw [← HW.out]
    clear c0 c1 c2 c3
    refine (refValidFraction_any A ca a Bd cb b _ Ha.out Hb.out Ra.out Rb.out).mono ?_
    rintro e w1 ⟨rfl, b1⟩
    rw [H1.out]
    have X1 := Lib.hid (XW.out.below b1)
    have Y1 := Lib.hid (XR.out.below b1)
    have k1 := bW.trans (b1.mono bW.size)
    obtain ⟨d0, d1, d2, d3⟩ := X1.out.cells
    obtain ⟨r0, r1, f0, f1⟩ := Y1.out.cells
    go_wp2_with fail
    exact bodyPost_ret (v := .tuple #[.agg #[.slice none 0 0, .slice none 0 0], .int .i64 8]) (by simp [results, Try.f43, go_sem, r0, r1]) rfl (Frac2.mk' HS.out (FracNew.zero ((k1.setCell (p := ⟨w.heap.size + 1 + 1, 0, none⟩) (by show w.heap.size ≤ w.heap.size + 1 + 1; omega) _).setCell (p := ⟨w.heap.size + 1 + 1, 1, none⟩) (by show w.heap.size ≤ w.heap.size + 1 + 1; omega) _)))
  · have H1 := Lib.hid h1
    have H3 := Lib.hid h3
    have H2 := Lib.hid h2
    have HS : Hid (addFS a b c d = (([], []), 8)) := addFS_no h3
    clear h1 h3 h2
    rw [HW.out] at c0 c1 c2 c3
    go_enter Try.func43, Try.ntmps43
    go_wp2_with fail
    rw [← HW.out]
    clear c0 c1 c2 c3
    refine (refValidFraction_any A ca a Bd cb b _ Ha.out Hb.out Ra.out Rb.out).mono ?_
    rintro e w1 ⟨rfl, b1⟩
    rw [H1.out]
    have X1 := Lib.hid (XW.out.below b1)
    have Y1 := Lib.hid (XR.out.below b1)
    have k1 := bW.trans (b1.mono bW.size)
    obtain ⟨d0, d1, d2, d3⟩ := X1.out.cells
    obtain ⟨r0, r1, f0, f1⟩ := Y1.out.cells
    have Ra1 := Lib.hid (Ra.out.below b1)
    have Rb1 := Lib.hid (Rb.out.below b1)
    have Rc1 := Lib.hid (Rc.out.below b1)
    have Rd1 := Lib.hid (Rd.out.below b1)
    clear b1
    clear r0 r1 f0 f1
    go_wp2_with fail
    refine (refValidFraction_any C cc c D cd d _ Hc.out Hd.out Rc1.out Rd1.out).mono ?_
    rintro e w2 ⟨rfl, b2⟩
    rw [H2.out]
    have X2 := Lib.hid (X1.out.below b2)
    have Y2 := Lib.hid (Y1.out.below b2)
    have k2 := k1.trans (b2.mono k1.size)
    clear d0 d1 d2 d3
    obtain ⟨r0, r1, f0, f1⟩ := Y2.out.cells
    go_wp2_with fail
    exact bodyPost_ret (v := .tuple #[.agg #[.slice none 0 0, .slice none 0 0], .int .i64 8]) (by simp [results, Try.f43, go_sem, r0, r1]) rfl (Frac2.mk' HS.out (FracNew.zero ((k2.setCell (p := ⟨w.heap.size + 1 + 1, 0, none⟩) (by show w.heap.size ≤ w.heap.size + 1 + 1; omega) _).setCell (p := ⟨w.heap.size + 1 + 1, 1, none⟩) (by show w.heap.size ≤ w.heap.size + 1 + 1; omega) _)))
  · have H1 := Lib.hid h1
    have H3 := Lib.hid h3
    have H2 := Lib.hid h2
    obtain ⟨⟨l1, l2⟩, ⟨t1, t2⟩, n1⟩ := vf_parts h1
    obtain ⟨⟨l3, l4⟩, ⟨t3, t4⟩, n2⟩ := vf_parts h2
    have L1 : na ≤ 16 := by have := Ha.out; omega
    have L2 : nb ≤ 16 := by have := Hb.out; omega
    have L3 : nc ≤ 16 := by have := Hc.out; omega
    have L4 : nd ≤ 16 := by have := Hd.out; omega
    have M1 : Hid ((digs (val a * val d)).length ≤ 32) := times_len Ra.out.dig Rd.out.dig l1 l4
    have M2 : Hid ((digs (val c * val b)).length ≤ 32) := times_len Rc.out.dig Rb.out.dig l3 l2
    have M3 : Hid ((digs (val b * val d)).length ≤ 32) := times_len Rb.out.dig Rd.out.dig l2 l4
    have M4 : Hid ((digs (val a * val c)).length ≤ 32) := times_len Ra.out.dig Rc.out.dig l1 l3
    have M5 : Hid (digs (val b * val d) ≠ []) := digs_ne (Nat.mul_ne_zero (val_ne_of t2 n1) (val_ne_of t4 n2))
    have M6 : Hid ((digs (val a * val d + val c * val b)).length ≤ 33) := plus_len M1.out M2.out
    have HS : Hid (addFS a b c d = bndS ((lowS (val a * val d + val c * val b) (val b * val d)).1, (lowS (val a * val d + val c * val b) (val b * val d)).2)) := addFS_yes h3
    have HL1 : Hid ((lowS (val a * val d + val c * val b) (val b * val d)).1.length ≤ 1000000) := Nat.le_trans (digs_len_mono (Nat.div_le_self _ _)) (by have := M6.out; omega)
    have HL2 : Hid ((lowS (val a * val d + val c * val b) (val b * val d)).2.length ≤ 1000000) := Nat.le_trans (digs_len_mono (Nat.div_le_self _ _)) (by have := M3.out; omega)
    clear l1 l2 l3 l4 t1 t2 t3 t4 n1 n2
    clear h1 h3 h2
    rw [HW.out] at c0 c1 c2 c3
    go_enter Try.func43, Try.ntmps43
    go_wp2_with fail
    rw [← HW.out]
    clear c0 c1 c2 c3
    refine (refValidFraction_any A ca a Bd cb b _ Ha.out Hb.out Ra.out Rb.out).mono ?_
    rintro e w1 ⟨rfl, b1⟩
    rw [H1.out]
    have X1 := Lib.hid (XW.out.below b1)
    have Y1 := Lib.hid (XR.out.below b1)
    have k1 := bW.trans (b1.mono bW.size)
    obtain ⟨d0, d1, d2, d3⟩ := X1.out.cells
    obtain ⟨r0, r1, f0, f1⟩ := Y1.out.cells
    have Ra1 := Lib.hid (Ra.out.below b1)
    have Rb1 := Lib.hid (Rb.out.below b1)
    have Rc1 := Lib.hid (Rc.out.below b1)
    have Rd1 := Lib.hid (Rd.out.below b1)
    clear b1
    clear r0 r1 f0 f1
    go_wp2_with fail
    refine (refValidFraction_any C cc c D cd d _ Hc.out Hd.out Rc1.out Rd1.out).mono ?_
    rintro e w2 ⟨rfl, b2⟩
    rw [H2.out]
    have X2 := Lib.hid (X1.out.below b2)
    have Y2 := Lib.hid (Y1.out.below b2)
    have k2 := k1.trans (b2.mono k1.size)
    clear d0 d1 d2 d3
    have Ra2 := Lib.hid (Ra1.out.below b2)
    have Rb2 := Lib.hid (Rb1.out.below b2)
    have Rc2 := Lib.hid (Rc1.out.below b2)
    have Rd2 := Lib.hid (Rd1.out.below b2)
    clear b2 Ra1 Rb1 Rc1 Rd1 X1
    obtain ⟨e0, e1, e2, e3⟩ := (show Fr2 w2.drew w.heap.size (.slice A na ca) (.slice Bd nb cb) (.slice C nc cc) (.slice D nd cd) from X2.out).cells
    have XD : Hid (Fr2 w2.drew w.heap.size (.slice A na ca) (.slice Bd nb cb) (.slice C nc cc) (.slice D nd cd)) := X2.out
    have kD := k2.drew
    have XYD : w.heap.size + 1 + 1 < w2.heap.size := Y2.out.lt
    rcases bnd_ways (lowS (val a * val d + val c * val b) (val b * val d)).1 (lowS (val a * val d + val c * val b) (val b * val d)).2 with ⟨i1, i2, i3⟩ | ⟨i1, i3⟩ | ⟨i1, i2, i3⟩
    · have HI3 := Lib.hid i3
      have HBV : Hid (∀ X x1 Y y1, bndV X x1 (lowS (val a * val d + val c * val b) (val b * val d)).1 Y y1 (lowS (val a * val d + val c * val b) (val b * val d)).2 = .agg #[.slice X (lowS (val a * val d + val c * val b) (val b * val d)).1.length x1, .slice Y (lowS (val a * val d + val c * val b) (val b * val d)).2.length y1]) := fun X x1 Y y1 => by unfold bndV; rw [if_pos ⟨i1, i2⟩]
      clear i1 i3 i2
      go_wp2_with fail
      go_region_held3 (fun w' => w'.cell? ⟨w.heap.size, 0, none⟩ = some (.slice A na ca) ∧ w'.cell? ⟨w.heap.size, 1, none⟩ = some (.slice Bd nb cb) ∧ w'.cell? ⟨w.heap.size + 1, 0, none⟩ = some (.slice C nc cc) ∧ w'.cell? ⟨w.heap.size + 1, 1, none⟩ = some (.slice D nd cd)) ((first | exact ⟨s0, s1, s2, s3⟩ | exact ⟨q0, q1, q2, q3⟩ | exact ⟨p0, p1, p2, p3⟩ | exact ⟨n0, n1, n2, n3⟩ | exact ⟨m0, m1, m2, m3⟩ | exact ⟨l0, l1, l2, l3⟩ | exact ⟨e0, e1, e2, e3⟩ | (refine ⟨?_, ?_, ?_, ?_⟩ <;> (rw [World.cell?_setCell_other (h := by simp), World.cell?_setCell_other (h := by simp)]; assumption)) | go_keep)) (first
        | (go_at_call_of 83 A; go_loud (refine (refTimes_any A ca a D cd d _ Ha.out Hd.out Ra2.out.drew Rd2.out.drew (by omega) (by omega)).mono ?_; rintro e w3 ⟨P, cP, rfl, hP, b3⟩; obtain ⟨l0, l1, l2, l3⟩ := (Fr2.below (XD.out) b3).cells))
        | (go_at_call_of 83 C; go_loud (refine (refTimes_any C cc c Bd cb b _ Hc.out Hb.out (Rc2.out.drew.below b3) (Rb2.out.drew.below b3) (by omega) (by omega)).mono ?_; rintro e w4 ⟨Q, cQ, rfl, hQ, b4⟩; obtain ⟨m0, m1, m2, m3⟩ := (Fr2.below (Fr2.below (XD.out) b3) b4).cells))
        | (go_at_call 82; go_loud (refine (refPlus_any P cP (digs (val a * val d)) Q cQ (digs (val c * val b)) _ rfl rfl (hP.1.below b4) hQ.1 (by have := M1.out; omega) (by have := M2.out; omega)).mono ?_; rintro e w5 ⟨N, cN, rfl, hN, b5⟩; rw [val_digs, val_digs] at hN ⊢; obtain ⟨n0, n1, n2, n3⟩ := (Fr2.below (Fr2.below (Fr2.below (XD.out) b3) b4) b5).cells))
        | (go_at_call 83; go_loud (refine (refTimes_any Bd cb b D cd d _ Hb.out Hd.out (((Rb2.out.drew.below b3).below b4).below b5) (((Rd2.out.drew.below b3).below b4).below b5) (by omega) (by omega)).mono ?_; rintro e w6 ⟨K, cK, rfl, hK, b6⟩; obtain ⟨p0, p1, p2, p3⟩ := (Fr2.below (Fr2.below (Fr2.below (Fr2.below (XD.out) b3) b4) b5) b6).cells))
        | (go_at_call 88; go_loud (refine (refLowest_any N cN (digs (val a * val d + val c * val b)) K cK (digs (val b * val d)) _ rfl rfl (hN.1.below b6) hK.1 (Trm.digs _) (Trm.digs _) M5.out (by have := M6.out; omega) (by have := M3.out; omega)).mono ?_; rintro e w7 ⟨vL, rfl, X, cX, Y, cY, rfl, hX, hY, hap, b7⟩; rw [val_digs, val_digs] at hX hY hap ⊢; obtain ⟨q0, q1, q2, q3⟩ := (Fr2.below (Fr2.below (Fr2.below (Fr2.below (Fr2.below (XD.out) b3) b4) b5) b6) b7).cells))
        | (go_at_call 97; go_loud (refine (refBounded_any X cX (lowS (val a * val d + val c * val b) (val b * val d)).1 Y cY (lowS (val a * val d + val c * val b) (val b * val d)).2 _ rfl rfl HL1.out HL2.out).mono ?_; rintro e w8 ⟨rfl, b8⟩; rw [HBV.out, HI3.out]; obtain ⟨s0, s1, s2, s3⟩ := (Fr2.below (Fr2.below (Fr2.below (Fr2.below (Fr2.below (Fr2.below (XD.out) b3) b4) b5) b6) b7) b8).cells; obtain ⟨r0, r1, f0, f1⟩ := (Bx.below (Bx.below (Bx.below (Bx.below (Bx.below (Bx.below ((show Bx w2.drew (w.heap.size + 1 + 1) (.slice none 0 0) (.slice none 0 0) from Y2.out)) b3) b4) b5) b6) b7) b8).cells)))
      all_goals
        have z0 := kD.trans (b3.mono kD.size)
        have z1 := z0.trans (b4.mono z0.size)
        have z2 := z1.trans (b5.mono z1.size)
        have z3 := z2.trans (b6.mono z2.size)
        have z4 := z3.trans (b7.mono z3.size)
        have z5 := z4.trans (b8.mono z4.size)
        have nX : NF (w.heap.size + 1 + 1 + 1) w8 X cX _ := (hX.below b8).mono (by have := b3.size; have := b4.size; have := b5.size; have := b6.size; have := b7.size; have := b8.size; have : w2.drew.heap.size = w2.heap.size := rfl; omega)
        have nY : NF (w.heap.size + 1 + 1 + 1) w8 Y cY _ := (hY.below b8).mono (by have := b3.size; have := b4.size; have := b5.size; have := b6.size; have := b7.size; have := b8.size; have : w2.drew.heap.size = w2.heap.size := rfl; omega)
        have HAP := Lib.hid hap
        have fin := fun u v => frac2_store (w := w) (g := w.heap.size + 1 + 1) (r := addFS a b c d) HS.out nX nY HAP.out (by omega) z5 u v
        have HBX := Lib.hid (HBV.out X cX Y cY)
        have FIN := Lib.hid fin
        have HSI := Lib.hid (HS.out.trans HI3.out)
        clear fin nX nY hX hY hap
        go_wp2_with fail
        refine bodyPost_ret (v := .tuple #[.agg #[.slice X (lowS (val a * val d + val c * val b) (val b * val d)).1.length cX, .slice Y (lowS (val a * val d + val c * val b) (val b * val d)).2.length cY], .int .i64 0]) (by simp [results, Try.f43, go_sem, r0, r1]) rfl ⟨_, by rw [HSI.out], ?_⟩
        rw [← HBX.out]
        exact FIN.out _ _
    · have HI3 := Lib.hid i3
      have HBV : Hid (∀ X x1 Y y1, bndV X x1 (lowS (val a * val d + val c * val b) (val b * val d)).1 Y y1 (lowS (val a * val d + val c * val b) (val b * val d)).2 = .agg #[.slice none 0 0, .slice none 0 0]) := fun X x1 Y y1 => by unfold bndV; rw [if_neg (fun h => i1 h.1)]
      clear i1 i3
      go_wp2_with fail
      go_region_held3 (fun w' => w'.cell? ⟨w.heap.size, 0, none⟩ = some (.slice A na ca) ∧ w'.cell? ⟨w.heap.size, 1, none⟩ = some (.slice Bd nb cb) ∧ w'.cell? ⟨w.heap.size + 1, 0, none⟩ = some (.slice C nc cc) ∧ w'.cell? ⟨w.heap.size + 1, 1, none⟩ = some (.slice D nd cd)) ((first | exact ⟨s0, s1, s2, s3⟩ | exact ⟨q0, q1, q2, q3⟩ | exact ⟨p0, p1, p2, p3⟩ | exact ⟨n0, n1, n2, n3⟩ | exact ⟨m0, m1, m2, m3⟩ | exact ⟨l0, l1, l2, l3⟩ | exact ⟨e0, e1, e2, e3⟩ | (refine ⟨?_, ?_, ?_, ?_⟩ <;> (rw [World.cell?_setCell_other (h := by simp), World.cell?_setCell_other (h := by simp)]; assumption)) | go_keep)) (first
        | (go_at_call_of 83 A; go_loud (refine (refTimes_any A ca a D cd d _ Ha.out Hd.out Ra2.out.drew Rd2.out.drew (by omega) (by omega)).mono ?_; rintro e w3 ⟨P, cP, rfl, hP, b3⟩; obtain ⟨l0, l1, l2, l3⟩ := (Fr2.below (XD.out) b3).cells))
        | (go_at_call_of 83 C; go_loud (refine (refTimes_any C cc c Bd cb b _ Hc.out Hb.out (Rc2.out.drew.below b3) (Rb2.out.drew.below b3) (by omega) (by omega)).mono ?_; rintro e w4 ⟨Q, cQ, rfl, hQ, b4⟩; obtain ⟨m0, m1, m2, m3⟩ := (Fr2.below (Fr2.below (XD.out) b3) b4).cells))
        | (go_at_call 82; go_loud (refine (refPlus_any P cP (digs (val a * val d)) Q cQ (digs (val c * val b)) _ rfl rfl (hP.1.below b4) hQ.1 (by have := M1.out; omega) (by have := M2.out; omega)).mono ?_; rintro e w5 ⟨N, cN, rfl, hN, b5⟩; rw [val_digs, val_digs] at hN ⊢; obtain ⟨n0, n1, n2, n3⟩ := (Fr2.below (Fr2.below (Fr2.below (XD.out) b3) b4) b5).cells))
        | (go_at_call 83; go_loud (refine (refTimes_any Bd cb b D cd d _ Hb.out Hd.out (((Rb2.out.drew.below b3).below b4).below b5) (((Rd2.out.drew.below b3).below b4).below b5) (by omega) (by omega)).mono ?_; rintro e w6 ⟨K, cK, rfl, hK, b6⟩; obtain ⟨p0, p1, p2, p3⟩ := (Fr2.below (Fr2.below (Fr2.below (Fr2.below (XD.out) b3) b4) b5) b6).cells))
        | (go_at_call 88; go_loud (refine (refLowest_any N cN (digs (val a * val d + val c * val b)) K cK (digs (val b * val d)) _ rfl rfl (hN.1.below b6) hK.1 (Trm.digs _) (Trm.digs _) M5.out (by have := M6.out; omega) (by have := M3.out; omega)).mono ?_; rintro e w7 ⟨vL, rfl, X, cX, Y, cY, rfl, hX, hY, hap, b7⟩; rw [val_digs, val_digs] at hX hY hap ⊢; obtain ⟨q0, q1, q2, q3⟩ := (Fr2.below (Fr2.below (Fr2.below (Fr2.below (Fr2.below (XD.out) b3) b4) b5) b6) b7).cells))
        | (go_at_call 97; go_loud (refine (refBounded_any X cX (lowS (val a * val d + val c * val b) (val b * val d)).1 Y cY (lowS (val a * val d + val c * val b) (val b * val d)).2 _ rfl rfl HL1.out HL2.out).mono ?_; rintro e w8 ⟨rfl, b8⟩; rw [HBV.out, HI3.out]; obtain ⟨s0, s1, s2, s3⟩ := (Fr2.below (Fr2.below (Fr2.below (Fr2.below (Fr2.below (Fr2.below (XD.out) b3) b4) b5) b6) b7) b8).cells; obtain ⟨r0, r1, f0, f1⟩ := (Bx.below (Bx.below (Bx.below (Bx.below (Bx.below (Bx.below ((show Bx w2.drew (w.heap.size + 1 + 1) (.slice none 0 0) (.slice none 0 0) from Y2.out)) b3) b4) b5) b6) b7) b8).cells)))
      all_goals
        have z0 := kD.trans (b3.mono kD.size)
        have z1 := z0.trans (b4.mono z0.size)
        have z2 := z1.trans (b5.mono z1.size)
        have z3 := z2.trans (b6.mono z2.size)
        have z4 := z3.trans (b7.mono z3.size)
        have z5 := z4.trans (b8.mono z4.size)
        have nX : NF (w.heap.size + 1 + 1 + 1) w8 X cX _ := (hX.below b8).mono (by have := b3.size; have := b4.size; have := b5.size; have := b6.size; have := b7.size; have := b8.size; have : w2.drew.heap.size = w2.heap.size := rfl; omega)
        have nY : NF (w.heap.size + 1 + 1 + 1) w8 Y cY _ := (hY.below b8).mono (by have := b3.size; have := b4.size; have := b5.size; have := b6.size; have := b7.size; have := b8.size; have : w2.drew.heap.size = w2.heap.size := rfl; omega)
        have HAP := Lib.hid hap
        have fin := fun u v => frac2_store (w := w) (g := w.heap.size + 1 + 1) (r := addFS a b c d) HS.out nX nY HAP.out (by omega) z5 u v
        have HBX := Lib.hid (HBV.out X cX Y cY)
        have FIN := Lib.hid fin
        have HSI := Lib.hid (HS.out.trans HI3.out)
        clear fin nX nY hX hY hap
        go_wp2_with fail
        refine bodyPost_ret (v := .tuple #[.agg #[.slice none 0 0, .slice none 0 0], .int .i64 4]) (by simp [results, Try.f43, go_sem, r0, r1]) rfl ⟨_, by rw [HSI.out], ?_⟩
        rw [← HBX.out]
        exact FIN.out _ _
    · have HI3 := Lib.hid i3
      have HBV : Hid (∀ X x1 Y y1, bndV X x1 (lowS (val a * val d + val c * val b) (val b * val d)).1 Y y1 (lowS (val a * val d + val c * val b) (val b * val d)).2 = .agg #[.slice none 0 0, .slice none 0 0]) := fun X x1 Y y1 => by unfold bndV; rw [if_neg (fun h => i2 h.2)]
      clear i1 i3 i2
      go_wp2_with fail
      go_region_held3 (fun w' => w'.cell? ⟨w.heap.size, 0, none⟩ = some (.slice A na ca) ∧ w'.cell? ⟨w.heap.size, 1, none⟩ = some (.slice Bd nb cb) ∧ w'.cell? ⟨w.heap.size + 1, 0, none⟩ = some (.slice C nc cc) ∧ w'.cell? ⟨w.heap.size + 1, 1, none⟩ = some (.slice D nd cd)) ((first | exact ⟨s0, s1, s2, s3⟩ | exact ⟨q0, q1, q2, q3⟩ | exact ⟨p0, p1, p2, p3⟩ | exact ⟨n0, n1, n2, n3⟩ | exact ⟨m0, m1, m2, m3⟩ | exact ⟨l0, l1, l2, l3⟩ | exact ⟨e0, e1, e2, e3⟩ | (refine ⟨?_, ?_, ?_, ?_⟩ <;> (rw [World.cell?_setCell_other (h := by simp), World.cell?_setCell_other (h := by simp)]; assumption)) | go_keep)) (first
        | (go_at_call_of 83 A; go_loud (refine (refTimes_any A ca a D cd d _ Ha.out Hd.out Ra2.out.drew Rd2.out.drew (by omega) (by omega)).mono ?_; rintro e w3 ⟨P, cP, rfl, hP, b3⟩; obtain ⟨l0, l1, l2, l3⟩ := (Fr2.below (XD.out) b3).cells))
        | (go_at_call_of 83 C; go_loud (refine (refTimes_any C cc c Bd cb b _ Hc.out Hb.out (Rc2.out.drew.below b3) (Rb2.out.drew.below b3) (by omega) (by omega)).mono ?_; rintro e w4 ⟨Q, cQ, rfl, hQ, b4⟩; obtain ⟨m0, m1, m2, m3⟩ := (Fr2.below (Fr2.below (XD.out) b3) b4).cells))
        | (go_at_call 82; go_loud (refine (refPlus_any P cP (digs (val a * val d)) Q cQ (digs (val c * val b)) _ rfl rfl (hP.1.below b4) hQ.1 (by have := M1.out; omega) (by have := M2.out; omega)).mono ?_; rintro e w5 ⟨N, cN, rfl, hN, b5⟩; rw [val_digs, val_digs] at hN ⊢; obtain ⟨n0, n1, n2, n3⟩ := (Fr2.below (Fr2.below (Fr2.below (XD.out) b3) b4) b5).cells))
        | (go_at_call 83; go_loud (refine (refTimes_any Bd cb b D cd d _ Hb.out Hd.out (((Rb2.out.drew.below b3).below b4).below b5) (((Rd2.out.drew.below b3).below b4).below b5) (by omega) (by omega)).mono ?_; rintro e w6 ⟨K, cK, rfl, hK, b6⟩; obtain ⟨p0, p1, p2, p3⟩ := (Fr2.below (Fr2.below (Fr2.below (Fr2.below (XD.out) b3) b4) b5) b6).cells))
        | (go_at_call 88; go_loud (refine (refLowest_any N cN (digs (val a * val d + val c * val b)) K cK (digs (val b * val d)) _ rfl rfl (hN.1.below b6) hK.1 (Trm.digs _) (Trm.digs _) M5.out (by have := M6.out; omega) (by have := M3.out; omega)).mono ?_; rintro e w7 ⟨vL, rfl, X, cX, Y, cY, rfl, hX, hY, hap, b7⟩; rw [val_digs, val_digs] at hX hY hap ⊢; obtain ⟨q0, q1, q2, q3⟩ := (Fr2.below (Fr2.below (Fr2.below (Fr2.below (Fr2.below (XD.out) b3) b4) b5) b6) b7).cells))
        | (go_at_call 97; go_loud (refine (refBounded_any X cX (lowS (val a * val d + val c * val b) (val b * val d)).1 Y cY (lowS (val a * val d + val c * val b) (val b * val d)).2 _ rfl rfl HL1.out HL2.out).mono ?_; rintro e w8 ⟨rfl, b8⟩; rw [HBV.out, HI3.out]; obtain ⟨s0, s1, s2, s3⟩ := (Fr2.below (Fr2.below (Fr2.below (Fr2.below (Fr2.below (Fr2.below (XD.out) b3) b4) b5) b6) b7) b8).cells; obtain ⟨r0, r1, f0, f1⟩ := (Bx.below (Bx.below (Bx.below (Bx.below (Bx.below (Bx.below ((show Bx w2.drew (w.heap.size + 1 + 1) (.slice none 0 0) (.slice none 0 0) from Y2.out)) b3) b4) b5) b6) b7) b8).cells)))
      all_goals
        have z0 := kD.trans (b3.mono kD.size)
        have z1 := z0.trans (b4.mono z0.size)
        have z2 := z1.trans (b5.mono z1.size)
        have z3 := z2.trans (b6.mono z2.size)
        have z4 := z3.trans (b7.mono z3.size)
        have z5 := z4.trans (b8.mono z4.size)
        have nX : NF (w.heap.size + 1 + 1 + 1) w8 X cX _ := (hX.below b8).mono (by have := b3.size; have := b4.size; have := b5.size; have := b6.size; have := b7.size; have := b8.size; have : w2.drew.heap.size = w2.heap.size := rfl; omega)
        have nY : NF (w.heap.size + 1 + 1 + 1) w8 Y cY _ := (hY.below b8).mono (by have := b3.size; have := b4.size; have := b5.size; have := b6.size; have := b7.size; have := b8.size; have : w2.drew.heap.size = w2.heap.size := rfl; omega)
        have HAP := Lib.hid hap
        have fin := fun u v => frac2_store (w := w) (g := w.heap.size + 1 + 1) (r := addFS a b c d) HS.out nX nY HAP.out (by omega) z5 u v
        have HBX := Lib.hid (HBV.out X cX Y cY)
        have FIN := Lib.hid fin
        have HSI := Lib.hid (HS.out.trans HI3.out)
        clear fin nX nY hX hY hap
        go_wp2_with fail
        refine bodyPost_ret (v := .tuple #[.agg #[.slice none 0 0, .slice none 0 0], .int .i64 4]) (by simp [results, Try.f43, go_sem, r0, r1]) rfl ⟨_, by rw [HSI.out], ?_⟩
        rw [← HBX.out]
        exact FIN.out _ _

set_option maxHeartbeats 4000000 in
set_option maxRecDepth 100000 in
theorem refMulFractions_any (A : Option Addr) (ca : Nat) (a : List Nat) (Bd : Option Addr) (cb : Nat) (b : List Nat) (C : Option Addr) (cc : Nat) (c : List Nat) (D : Option Addr) (cd : Nat) (d : List Nat) (w : World) {na nb nc nd : Nat} (hna : a.length = na) (hnb : b.length = nb) (hnc : c.length = nc) (hnd : d.length = nd)
    (ha : NR w A ca a) (hb : NR w Bd cb b) (hc : NR w C cc c) (hd : NR w D cd d) :
    Calls Try.prog 46 #[.agg #[.slice A na ca, .slice Bd nb cb], .agg #[.slice C nc cc, .slice D nd cd]] w fun e w' => Frac2 w w' e (mulFS a b c d) := by
  have Ha := Lib.hid hna
  have Hb := Lib.hid hnb
  have Hc := Lib.hid hnc
  have Hd := Lib.hid hnd
  obtain ⟨W, hW⟩ : ∃ W : World, W = ((w.alloc (.cells #[.slice A na ca, .slice Bd nb cb] 54)).alloc (.cells #[.slice C nc cc, .slice D nd cd] 54)).alloc (.cells #[.slice none 0 0, .slice none 0 0] 54) := ⟨_, rfl⟩
  have bW : Below w.heap.size w W := by rw [hW]; exact ((alloc_below _ _).alloc (by simp) _).alloc (by simp; omega) _
  have xW : Fr2 W w.heap.size (.slice A na ca) (.slice Bd nb cb) (.slice C nc cc) (.slice D nd cd) := by rw [hW]; exact (Fr2.new _ _ _ _ _).below (alloc_below _ _)
  have xR : Bx W (w.heap.size + 1 + 1) (.slice none 0 0) (.slice none 0 0) := by
    have := Bx.new ((w.alloc (.cells #[.slice A na ca, .slice Bd nb cb] 54)).alloc (.cells #[.slice C nc cc, .slice D nd cd] 54)) (.slice none 0 0) (.slice none 0 0)
    rw [World.size_alloc, World.size_alloc] at this
    rw [hW]; exact this
  have Ra := Lib.hid (ha.below bW)
  have Rb := Lib.hid (hb.below bW)
  have Rc := Lib.hid (hc.below bW)
  have Rd := Lib.hid (hd.below bW)
  have XW := Lib.hid xW
  have XR := Lib.hid xR
  have HW := Lib.hid hW
  obtain ⟨c0, c1, c2, c3⟩ := xW.cells
  clear hna hnb hnc hnd ha hb hc hd hW xW xR
  rcases bothF_ways a b c d with ⟨h1, h3⟩ | ⟨h1, h2, h3⟩ | ⟨h1, h2, h3⟩
  · have H1 := Lib.hid h1
    have H3 := Lib.hid h3
    have HS : Hid (mulFS a b c d = (([], []), 8)) := mulFS_no h3
    clear h1 h3
    rw [HW.out] at c0 c1 c2 c3
    go_enter Try.func46, Try.ntmps46
    go_wp2_with fail
    rw [← HW.out]
    clear c0 c1 c2 c3
    refine (refValidFraction_any A ca a Bd cb b _ Ha.out Hb.out Ra.out Rb.out).mono ?_
    rintro e w1 ⟨rfl, b1⟩
    rw [H1.out]
    have X1 := Lib.hid (XW.out.below b1)
    have Y1 := Lib.hid (XR.out.below b1)
    have k1 := bW.trans (b1.mono bW.size)
    obtain ⟨d0, d1, d2, d3⟩ := X1.out.cells
    obtain ⟨r0, r1, f0, f1⟩ := Y1.out.cells
    go_wp2_with fail
    exact bodyPost_ret (v := .tuple #[.agg #[.slice none 0 0, .slice none 0 0], .int .i64 8]) (by simp [results, Try.f46, go_sem, r0, r1]) rfl (Frac2.mk' HS.out (FracNew.zero ((k1.setCell (p := ⟨w.heap.size + 1 + 1, 0, none⟩) (by show w.heap.size ≤ w.heap.size + 1 + 1; omega) _).setCell (p := ⟨w.heap.size + 1 + 1, 1, none⟩) (by show w.heap.size ≤ w.heap.size + 1 + 1; omega) _)))
  · have H1 := Lib.hid h1
    have H3 := Lib.hid h3
    have H2 := Lib.hid h2
    have HS : Hid (mulFS a b c d = (([], []), 8)) := mulFS_no h3
    clear h1 h3 h2
    rw [HW.out] at c0 c1 c2 c3
    go_enter Try.func46, Try.ntmps46
    go_wp2_with fail
    rw [← HW.out]
    clear c0 c1 c2 c3
    refine (refValidFraction_any A ca a Bd cb b _ Ha.out Hb.out Ra.out Rb.out).mono ?_
    rintro e w1 ⟨rfl, b1⟩
    rw [H1.out]
    have X1 := Lib.hid (XW.out.below b1)
    have Y1 := Lib.hid (XR.out.below b1)
    have k1 := bW.trans (b1.mono bW.size)
    obtain ⟨d0, d1, d2, d3⟩ := X1.out.cells
    obtain ⟨r0, r1, f0, f1⟩ := Y1.out.cells
    have Ra1 := Lib.hid (Ra.out.below b1)
    have Rb1 := Lib.hid (Rb.out.below b1)
    have Rc1 := Lib.hid (Rc.out.below b1)
    have Rd1 := Lib.hid (Rd.out.below b1)
    clear b1
    clear r0 r1 f0 f1
    go_wp2_with fail
    refine (refValidFraction_any C cc c D cd d _ Hc.out Hd.out Rc1.out Rd1.out).mono ?_
    rintro e w2 ⟨rfl, b2⟩
    rw [H2.out]
    have X2 := Lib.hid (X1.out.below b2)
    have Y2 := Lib.hid (Y1.out.below b2)
    have k2 := k1.trans (b2.mono k1.size)
    clear d0 d1 d2 d3
    obtain ⟨r0, r1, f0, f1⟩ := Y2.out.cells
    go_wp2_with fail
    exact bodyPost_ret (v := .tuple #[.agg #[.slice none 0 0, .slice none 0 0], .int .i64 8]) (by simp [results, Try.f46, go_sem, r0, r1]) rfl (Frac2.mk' HS.out (FracNew.zero ((k2.setCell (p := ⟨w.heap.size + 1 + 1, 0, none⟩) (by show w.heap.size ≤ w.heap.size + 1 + 1; omega) _).setCell (p := ⟨w.heap.size + 1 + 1, 1, none⟩) (by show w.heap.size ≤ w.heap.size + 1 + 1; omega) _)))
  · have H1 := Lib.hid h1
    have H3 := Lib.hid h3
    have H2 := Lib.hid h2
    obtain ⟨⟨l1, l2⟩, ⟨t1, t2⟩, n1⟩ := vf_parts h1
    obtain ⟨⟨l3, l4⟩, ⟨t3, t4⟩, n2⟩ := vf_parts h2
    have L1 : na ≤ 16 := by have := Ha.out; omega
    have L2 : nb ≤ 16 := by have := Hb.out; omega
    have L3 : nc ≤ 16 := by have := Hc.out; omega
    have L4 : nd ≤ 16 := by have := Hd.out; omega
    have M1 : Hid ((digs (val a * val d)).length ≤ 32) := times_len Ra.out.dig Rd.out.dig l1 l4
    have M2 : Hid ((digs (val c * val b)).length ≤ 32) := times_len Rc.out.dig Rb.out.dig l3 l2
    have M3 : Hid ((digs (val b * val d)).length ≤ 32) := times_len Rb.out.dig Rd.out.dig l2 l4
    have M4 : Hid ((digs (val a * val c)).length ≤ 32) := times_len Ra.out.dig Rc.out.dig l1 l3
    have M5 : Hid (digs (val b * val d) ≠ []) := digs_ne (Nat.mul_ne_zero (val_ne_of t2 n1) (val_ne_of t4 n2))
    have M6 : Hid ((digs (val a * val d + val c * val b)).length ≤ 33) := plus_len M1.out M2.out
    have HS : Hid (mulFS a b c d = bndS ((lowS (val a * val c) (val b * val d)).1, (lowS (val a * val c) (val b * val d)).2)) := mulFS_yes h3
    have HL1 : Hid ((lowS (val a * val c) (val b * val d)).1.length ≤ 1000000) := Nat.le_trans (digs_len_mono (Nat.div_le_self _ _)) (by have := M4.out; omega)
    have HL2 : Hid ((lowS (val a * val c) (val b * val d)).2.length ≤ 1000000) := Nat.le_trans (digs_len_mono (Nat.div_le_self _ _)) (by have := M3.out; omega)
    clear l1 l2 l3 l4 t1 t2 t3 t4 n1 n2
    clear h1 h3 h2
    rw [HW.out] at c0 c1 c2 c3
    go_enter Try.func46, Try.ntmps46
    go_wp2_with fail
    rw [← HW.out]
    clear c0 c1 c2 c3
    refine (refValidFraction_any A ca a Bd cb b _ Ha.out Hb.out Ra.out Rb.out).mono ?_
    rintro e w1 ⟨rfl, b1⟩
    rw [H1.out]
    have X1 := Lib.hid (XW.out.below b1)
    have Y1 := Lib.hid (XR.out.below b1)
    have k1 := bW.trans (b1.mono bW.size)
    obtain ⟨d0, d1, d2, d3⟩ := X1.out.cells
    obtain ⟨r0, r1, f0, f1⟩ := Y1.out.cells
    have Ra1 := Lib.hid (Ra.out.below b1)
    have Rb1 := Lib.hid (Rb.out.below b1)
    have Rc1 := Lib.hid (Rc.out.below b1)
    have Rd1 := Lib.hid (Rd.out.below b1)
    clear b1
    clear r0 r1 f0 f1
    go_wp2_with fail
    refine (refValidFraction_any C cc c D cd d _ Hc.out Hd.out Rc1.out Rd1.out).mono ?_
    rintro e w2 ⟨rfl, b2⟩
    rw [H2.out]
    have X2 := Lib.hid (X1.out.below b2)
    have Y2 := Lib.hid (Y1.out.below b2)
    have k2 := k1.trans (b2.mono k1.size)
    clear d0 d1 d2 d3
    have Ra2 := Lib.hid (Ra1.out.below b2)
    have Rb2 := Lib.hid (Rb1.out.below b2)
    have Rc2 := Lib.hid (Rc1.out.below b2)
    have Rd2 := Lib.hid (Rd1.out.below b2)
    clear b2 Ra1 Rb1 Rc1 Rd1 X1
    obtain ⟨e0, e1, e2, e3⟩ := (show Fr2 w2.drew w.heap.size (.slice A na ca) (.slice Bd nb cb) (.slice C nc cc) (.slice D nd cd) from X2.out).cells
    have XD : Hid (Fr2 w2.drew w.heap.size (.slice A na ca) (.slice Bd nb cb) (.slice C nc cc) (.slice D nd cd)) := X2.out
    have kD := k2.drew
    have XYD : w.heap.size + 1 + 1 < w2.heap.size := Y2.out.lt
    rcases bnd_ways (lowS (val a * val c) (val b * val d)).1 (lowS (val a * val c) (val b * val d)).2 with ⟨i1, i2, i3⟩ | ⟨i1, i3⟩ | ⟨i1, i2, i3⟩
    · have HI3 := Lib.hid i3
      have HBV : Hid (∀ X x1 Y y1, bndV X x1 (lowS (val a * val c) (val b * val d)).1 Y y1 (lowS (val a * val c) (val b * val d)).2 = .agg #[.slice X (lowS (val a * val c) (val b * val d)).1.length x1, .slice Y (lowS (val a * val c) (val b * val d)).2.length y1]) := fun X x1 Y y1 => by unfold bndV; rw [if_pos ⟨i1, i2⟩]
      clear i1 i3 i2
      go_wp2_with fail
      go_region_held3 (fun w' => w'.cell? ⟨w.heap.size, 0, none⟩ = some (.slice A na ca) ∧ w'.cell? ⟨w.heap.size, 1, none⟩ = some (.slice Bd nb cb) ∧ w'.cell? ⟨w.heap.size + 1, 0, none⟩ = some (.slice C nc cc) ∧ w'.cell? ⟨w.heap.size + 1, 1, none⟩ = some (.slice D nd cd)) ((first | exact ⟨s0, s1, s2, s3⟩ | exact ⟨q0, q1, q2, q3⟩ | exact ⟨p0, p1, p2, p3⟩ | exact ⟨n0, n1, n2, n3⟩ | exact ⟨m0, m1, m2, m3⟩ | exact ⟨l0, l1, l2, l3⟩ | exact ⟨e0, e1, e2, e3⟩ | (refine ⟨?_, ?_, ?_, ?_⟩ <;> (rw [World.cell?_setCell_other (h := by simp), World.cell?_setCell_other (h := by simp)]; assumption)) | go_keep)) (first
        | (go_at_call_of 83 A; go_loud (refine (refTimes_any A ca a C cc c _ Ha.out Hc.out Ra2.out.drew Rc2.out.drew (by omega) (by omega)).mono ?_; rintro e w3 ⟨P, cP, rfl, hP, b3⟩; obtain ⟨l0, l1, l2, l3⟩ := (Fr2.below (XD.out) b3).cells))
        | (go_at_call 83; go_loud (refine (refTimes_any Bd cb b D cd d _ Hb.out Hd.out (Rb2.out.drew.below b3) (Rd2.out.drew.below b3) (by omega) (by omega)).mono ?_; rintro e w4 ⟨K, cK, rfl, hK, b4⟩; obtain ⟨m0, m1, m2, m3⟩ := (Fr2.below (Fr2.below (XD.out) b3) b4).cells))
        | (go_at_call 88; go_loud (refine (refLowest_any P cP (digs (val a * val c)) K cK (digs (val b * val d)) _ rfl rfl (hP.1.below b4) hK.1 (Trm.digs _) (Trm.digs _) M5.out (by have := M4.out; omega) (by have := M3.out; omega)).mono ?_; rintro e w7 ⟨vL, rfl, X, cX, Y, cY, rfl, hX, hY, hap, b7⟩; rw [val_digs, val_digs] at hX hY hap ⊢; obtain ⟨q0, q1, q2, q3⟩ := (Fr2.below (Fr2.below (Fr2.below (XD.out) b3) b4) b7).cells))
        | (go_at_call 97; go_loud (refine (refBounded_any X cX (lowS (val a * val c) (val b * val d)).1 Y cY (lowS (val a * val c) (val b * val d)).2 _ rfl rfl HL1.out HL2.out).mono ?_; rintro e w8 ⟨rfl, b8⟩; rw [HBV.out, HI3.out]; obtain ⟨s0, s1, s2, s3⟩ := (Fr2.below (Fr2.below (Fr2.below (Fr2.below (XD.out) b3) b4) b7) b8).cells; obtain ⟨r0, r1, f0, f1⟩ := (Bx.below (Bx.below (Bx.below (Bx.below ((show Bx w2.drew (w.heap.size + 1 + 1) (.slice none 0 0) (.slice none 0 0) from Y2.out)) b3) b4) b7) b8).cells)))
      all_goals
        have z0 := kD.trans (b3.mono kD.size)
        have z1 := z0.trans (b4.mono z0.size)
        have z2 := z1.trans (b7.mono z1.size)
        have z3 := z2.trans (b8.mono z2.size)
        have nX : NF (w.heap.size + 1 + 1 + 1) w8 X cX _ := (hX.below b8).mono (by have := b3.size; have := b4.size; have := b7.size; have := b8.size; have : w2.drew.heap.size = w2.heap.size := rfl; omega)
        have nY : NF (w.heap.size + 1 + 1 + 1) w8 Y cY _ := (hY.below b8).mono (by have := b3.size; have := b4.size; have := b7.size; have := b8.size; have : w2.drew.heap.size = w2.heap.size := rfl; omega)
        have HAP := Lib.hid hap
        have fin := fun u v => frac2_store (w := w) (g := w.heap.size + 1 + 1) (r := mulFS a b c d) HS.out nX nY HAP.out (by omega) z3 u v
        have HBX := Lib.hid (HBV.out X cX Y cY)
        have FIN := Lib.hid fin
        have HSI := Lib.hid (HS.out.trans HI3.out)
        clear fin nX nY hX hY hap
        go_wp2_with fail
        refine bodyPost_ret (v := .tuple #[.agg #[.slice X (lowS (val a * val c) (val b * val d)).1.length cX, .slice Y (lowS (val a * val c) (val b * val d)).2.length cY], .int .i64 0]) (by simp [results, Try.f46, go_sem, r0, r1]) rfl ⟨_, by rw [HSI.out], ?_⟩
        rw [← HBX.out]
        exact FIN.out _ _
    · have HI3 := Lib.hid i3
      have HBV : Hid (∀ X x1 Y y1, bndV X x1 (lowS (val a * val c) (val b * val d)).1 Y y1 (lowS (val a * val c) (val b * val d)).2 = .agg #[.slice none 0 0, .slice none 0 0]) := fun X x1 Y y1 => by unfold bndV; rw [if_neg (fun h => i1 h.1)]
      clear i1 i3
      go_wp2_with fail
      go_region_held3 (fun w' => w'.cell? ⟨w.heap.size, 0, none⟩ = some (.slice A na ca) ∧ w'.cell? ⟨w.heap.size, 1, none⟩ = some (.slice Bd nb cb) ∧ w'.cell? ⟨w.heap.size + 1, 0, none⟩ = some (.slice C nc cc) ∧ w'.cell? ⟨w.heap.size + 1, 1, none⟩ = some (.slice D nd cd)) ((first | exact ⟨s0, s1, s2, s3⟩ | exact ⟨q0, q1, q2, q3⟩ | exact ⟨p0, p1, p2, p3⟩ | exact ⟨n0, n1, n2, n3⟩ | exact ⟨m0, m1, m2, m3⟩ | exact ⟨l0, l1, l2, l3⟩ | exact ⟨e0, e1, e2, e3⟩ | (refine ⟨?_, ?_, ?_, ?_⟩ <;> (rw [World.cell?_setCell_other (h := by simp), World.cell?_setCell_other (h := by simp)]; assumption)) | go_keep)) (first
        | (go_at_call_of 83 A; go_loud (refine (refTimes_any A ca a C cc c _ Ha.out Hc.out Ra2.out.drew Rc2.out.drew (by omega) (by omega)).mono ?_; rintro e w3 ⟨P, cP, rfl, hP, b3⟩; obtain ⟨l0, l1, l2, l3⟩ := (Fr2.below (XD.out) b3).cells))
        | (go_at_call 83; go_loud (refine (refTimes_any Bd cb b D cd d _ Hb.out Hd.out (Rb2.out.drew.below b3) (Rd2.out.drew.below b3) (by omega) (by omega)).mono ?_; rintro e w4 ⟨K, cK, rfl, hK, b4⟩; obtain ⟨m0, m1, m2, m3⟩ := (Fr2.below (Fr2.below (XD.out) b3) b4).cells))
        | (go_at_call 88; go_loud (refine (refLowest_any P cP (digs (val a * val c)) K cK (digs (val b * val d)) _ rfl rfl (hP.1.below b4) hK.1 (Trm.digs _) (Trm.digs _) M5.out (by have := M4.out; omega) (by have := M3.out; omega)).mono ?_; rintro e w7 ⟨vL, rfl, X, cX, Y, cY, rfl, hX, hY, hap, b7⟩; rw [val_digs, val_digs] at hX hY hap ⊢; obtain ⟨q0, q1, q2, q3⟩ := (Fr2.below (Fr2.below (Fr2.below (XD.out) b3) b4) b7).cells))
        | (go_at_call 97; go_loud (refine (refBounded_any X cX (lowS (val a * val c) (val b * val d)).1 Y cY (lowS (val a * val c) (val b * val d)).2 _ rfl rfl HL1.out HL2.out).mono ?_; rintro e w8 ⟨rfl, b8⟩; rw [HBV.out, HI3.out]; obtain ⟨s0, s1, s2, s3⟩ := (Fr2.below (Fr2.below (Fr2.below (Fr2.below (XD.out) b3) b4) b7) b8).cells; obtain ⟨r0, r1, f0, f1⟩ := (Bx.below (Bx.below (Bx.below (Bx.below ((show Bx w2.drew (w.heap.size + 1 + 1) (.slice none 0 0) (.slice none 0 0) from Y2.out)) b3) b4) b7) b8).cells)))
      all_goals
        have z0 := kD.trans (b3.mono kD.size)
        have z1 := z0.trans (b4.mono z0.size)
        have z2 := z1.trans (b7.mono z1.size)
        have z3 := z2.trans (b8.mono z2.size)
        have nX : NF (w.heap.size + 1 + 1 + 1) w8 X cX _ := (hX.below b8).mono (by have := b3.size; have := b4.size; have := b7.size; have := b8.size; have : w2.drew.heap.size = w2.heap.size := rfl; omega)
        have nY : NF (w.heap.size + 1 + 1 + 1) w8 Y cY _ := (hY.below b8).mono (by have := b3.size; have := b4.size; have := b7.size; have := b8.size; have : w2.drew.heap.size = w2.heap.size := rfl; omega)
        have HAP := Lib.hid hap
        have fin := fun u v => frac2_store (w := w) (g := w.heap.size + 1 + 1) (r := mulFS a b c d) HS.out nX nY HAP.out (by omega) z3 u v
        have HBX := Lib.hid (HBV.out X cX Y cY)
        have FIN := Lib.hid fin
        have HSI := Lib.hid (HS.out.trans HI3.out)
        clear fin nX nY hX hY hap
        go_wp2_with fail
        refine bodyPost_ret (v := .tuple #[.agg #[.slice none 0 0, .slice none 0 0], .int .i64 4]) (by simp [results, Try.f46, go_sem, r0, r1]) rfl ⟨_, by rw [HSI.out], ?_⟩
        rw [← HBX.out]
        exact FIN.out _ _
    · have HI3 := Lib.hid i3
      have HBV : Hid (∀ X x1 Y y1, bndV X x1 (lowS (val a * val c) (val b * val d)).1 Y y1 (lowS (val a * val c) (val b * val d)).2 = .agg #[.slice none 0 0, .slice none 0 0]) := fun X x1 Y y1 => by unfold bndV; rw [if_neg (fun h => i2 h.2)]
      clear i1 i3 i2
      go_wp2_with fail
      go_region_held3 (fun w' => w'.cell? ⟨w.heap.size, 0, none⟩ = some (.slice A na ca) ∧ w'.cell? ⟨w.heap.size, 1, none⟩ = some (.slice Bd nb cb) ∧ w'.cell? ⟨w.heap.size + 1, 0, none⟩ = some (.slice C nc cc) ∧ w'.cell? ⟨w.heap.size + 1, 1, none⟩ = some (.slice D nd cd)) ((first | exact ⟨s0, s1, s2, s3⟩ | exact ⟨q0, q1, q2, q3⟩ | exact ⟨p0, p1, p2, p3⟩ | exact ⟨n0, n1, n2, n3⟩ | exact ⟨m0, m1, m2, m3⟩ | exact ⟨l0, l1, l2, l3⟩ | exact ⟨e0, e1, e2, e3⟩ | (refine ⟨?_, ?_, ?_, ?_⟩ <;> (rw [World.cell?_setCell_other (h := by simp), World.cell?_setCell_other (h := by simp)]; assumption)) | go_keep)) (first
        | (go_at_call_of 83 A; go_loud (refine (refTimes_any A ca a C cc c _ Ha.out Hc.out Ra2.out.drew Rc2.out.drew (by omega) (by omega)).mono ?_; rintro e w3 ⟨P, cP, rfl, hP, b3⟩; obtain ⟨l0, l1, l2, l3⟩ := (Fr2.below (XD.out) b3).cells))
        | (go_at_call 83; go_loud (refine (refTimes_any Bd cb b D cd d _ Hb.out Hd.out (Rb2.out.drew.below b3) (Rd2.out.drew.below b3) (by omega) (by omega)).mono ?_; rintro e w4 ⟨K, cK, rfl, hK, b4⟩; obtain ⟨m0, m1, m2, m3⟩ := (Fr2.below (Fr2.below (XD.out) b3) b4).cells))
        | (go_at_call 88; go_loud (refine (refLowest_any P cP (digs (val a * val c)) K cK (digs (val b * val d)) _ rfl rfl (hP.1.below b4) hK.1 (Trm.digs _) (Trm.digs _) M5.out (by have := M4.out; omega) (by have := M3.out; omega)).mono ?_; rintro e w7 ⟨vL, rfl, X, cX, Y, cY, rfl, hX, hY, hap, b7⟩; rw [val_digs, val_digs] at hX hY hap ⊢; obtain ⟨q0, q1, q2, q3⟩ := (Fr2.below (Fr2.below (Fr2.below (XD.out) b3) b4) b7).cells))
        | (go_at_call 97; go_loud (refine (refBounded_any X cX (lowS (val a * val c) (val b * val d)).1 Y cY (lowS (val a * val c) (val b * val d)).2 _ rfl rfl HL1.out HL2.out).mono ?_; rintro e w8 ⟨rfl, b8⟩; rw [HBV.out, HI3.out]; obtain ⟨s0, s1, s2, s3⟩ := (Fr2.below (Fr2.below (Fr2.below (Fr2.below (XD.out) b3) b4) b7) b8).cells; obtain ⟨r0, r1, f0, f1⟩ := (Bx.below (Bx.below (Bx.below (Bx.below ((show Bx w2.drew (w.heap.size + 1 + 1) (.slice none 0 0) (.slice none 0 0) from Y2.out)) b3) b4) b7) b8).cells)))
      all_goals
        have z0 := kD.trans (b3.mono kD.size)
        have z1 := z0.trans (b4.mono z0.size)
        have z2 := z1.trans (b7.mono z1.size)
        have z3 := z2.trans (b8.mono z2.size)
        have nX : NF (w.heap.size + 1 + 1 + 1) w8 X cX _ := (hX.below b8).mono (by have := b3.size; have := b4.size; have := b7.size; have := b8.size; have : w2.drew.heap.size = w2.heap.size := rfl; omega)
        have nY : NF (w.heap.size + 1 + 1 + 1) w8 Y cY _ := (hY.below b8).mono (by have := b3.size; have := b4.size; have := b7.size; have := b8.size; have : w2.drew.heap.size = w2.heap.size := rfl; omega)
        have HAP := Lib.hid hap
        have fin := fun u v => frac2_store (w := w) (g := w.heap.size + 1 + 1) (r := mulFS a b c d) HS.out nX nY HAP.out (by omega) z3 u v
        have HBX := Lib.hid (HBV.out X cX Y cY)
        have FIN := Lib.hid fin
        have HSI := Lib.hid (HS.out.trans HI3.out)
        clear fin nX nY hX hY hap
        go_wp2_with fail
        refine bodyPost_ret (v := .tuple #[.agg #[.slice none 0 0, .slice none 0 0], .int .i64 4]) (by simp [results, Try.f46, go_sem, r0, r1]) rfl ⟨_, by rw [HSI.out], ?_⟩
        rw [← HBX.out]
        exact FIN.out _ _

end Go.Proofs.Ytphaojdfeojpeaa
