/-
  Lemmas and contracts, joined.
-/
import Derived.Test.YtenpkmgbaajeeaaGreatCa2
import Derived.Test.YtenpkmgbaajeeaaGreatCc1
import Derived.Test.YtenpkmgbaajeeaaGreatCp1
set_option linter.unusedSimpArgs false
set_option linter.unusedVariables false
set_option linter.unnecessarySimpa false
/- Sums and products of fractions: the program's and the reference's. -/
namespace Go.Proofs.YtenpkmgbaajeeaaGreat
open Go.RowKit
set_option linter.unusedVariables false

theorem addFS_no {a b c d : List Nat} (h : bothF a b c d = false) : addFS a b c d = (([], []), 8) := by rw [addFS, h]; rfl
theorem addFS_yes {a b c d : List Nat} (h : bothF a b c d = true) : addFS a b c d = bndS (lowS (val a * val d + val c * val b) (val b * val d)) := by rw [addFS, h]; rfl
theorem mulFS_no {a b c d : List Nat} (h : bothF a b c d = false) : mulFS a b c d = (([], []), 8) := by rw [mulFS, h]; rfl
theorem mulFS_yes {a b c d : List Nat} (h : bothF a b c d = true) : mulFS a b c d = bndS (lowS (val a * val c) (val b * val d)) := by rw [mulFS, h]; rfl
theorem FracNew.drew {w W : World} {v : Value} {r : List Nat × List Nat} (h : FracNew w W v r) : FracNew w W.drew v r := by
  obtain ⟨V1, V2, V3, V4, q1, q2, q3, q4, q5⟩ := h
  exact ⟨V1, V2, V3, V4, q1, q2.drew, q3.drew, q4, q5.drew⟩
theorem frac2_store {w w3 : World} {g : Nat} {X Y : Option Addr} {c d : Nat} {l m : List Nat} {r : (List Nat × List Nat) × Int} (hr : r = bndS (l, m)) (hX : NF (g + 1) w3 X c l) (hY : NF (g + 1) w3 Y d m) (ap : Apart X l Y m) (hg : w.heap.size ≤ g) (hb : Below w.heap.size w w3) (u v : Value) :
    FracNew w (((w3.setCell ⟨g, 0, none⟩ u).setCell ⟨g, 1, none⟩ v)) (bndV X c l Y d m) r.1 := by
  subst hr
  obtain ⟨X', c', Y', d', e, h1, h2, h3, h4⟩ := fracNew_store hX hY ap hg hb u v
  injection e with e
  injection e with e
  injection e with e1 e2
  injection e1 with a1 a2 a3
  injection e2 with e2 _
  injection e2 with b1 b2 b3
  subst a1 a3 b1 b3
  exact FracNew.bnd h1 h2 h3 h4

end Go.Proofs.YtenpkmgbaajeeaaGreat

/- Sums and products of fractions: the program's. -/
namespace Go.Proofs.YtenpkmgbaajeeaaGreat
open Go.RowKit
set_option linter.unusedVariables false

def crS (k : List Nat × List Nat) (a b c d : List Nat) : (List Nat × List Nat) × Int := if bothF a b c d = true then (k, 0) else (([], []), 8)
theorem crS_no {k : List Nat × List Nat} {a b c d : List Nat} (h : bothF a b c d = false) : crS k a b c d = (([], []), 8) := by rw [crS, h]; rfl
theorem crS_yes {k : List Nat × List Nat} {a b c d : List Nat} (h : bothF a b c d = true) : crS k a b c d = (k, 0) := by rw [crS, h]; rfl
theorem addFS_cr (a b c d : List Nat) : (bothF a b c d = false ∧ addFS a b c d = (([], []), 8)) ∨ (bothF a b c d = true ∧ addFS a b c d = bndS (lowS (val a * val d + val c * val b) (val b * val d))) := by
  cases h : bothF a b c d
  · exact .inl ⟨rfl, addFS_no h⟩
  · exact .inr ⟨rfl, addFS_yes h⟩
theorem mulFS_cr (a b c d : List Nat) : (bothF a b c d = false ∧ mulFS a b c d = (([], []), 8)) ∨ (bothF a b c d = true ∧ mulFS a b c d = bndS (lowS (val a * val c) (val b * val d))) := by
  cases h : bothF a b c d
  · exact .inl ⟨rfl, mulFS_no h⟩
  · exact .inr ⟨rfl, mulFS_yes h⟩
theorem len_val {x : List Nat} {p : Nat} (hx : Dig x) (h : x.length ≤ p) : (digs (val x)).length ≤ p := digs_len_le (Nat.lt_of_lt_of_le (val_lt hx) (Nat.pow_le_pow_right (by omega) h))
theorem cell_kept {w : World} {G g o : Nat} {u v : Value} {r : Option Value} (hn : G < g) (h : w.cell? ⟨G, o, none⟩ = r) : ((w.setCell ⟨g, 0, none⟩ u).setCell ⟨g, 1, none⟩ v).cell? ⟨G, o, none⟩ = r := by
  rw [World.cell?_setCell_other (h := by intro e; injection e with e1; omega), World.cell?_setCell_other (h := by intro e; injection e with e1; omega)]
  exact h

set_option maxHeartbeats 1000000 in
theorem bounded_err2 (X : Option Addr) (n c : Nat) (Y : Option Addr) (k d : Nat) (w : World) (x : Int) (hx : x ≠ 0) :
    Calls Tryz.prog 113 #[.agg #[.slice X n c, .slice Y k d], .int .i64 x] w fun e w' => e = .returned (.tuple #[.agg #[.slice none 0 0, .slice none 0 0], .int .i64 x]) ∧ Below w.heap.size w w' := by
  have bW : Below w.heap.size w ((w.alloc (.cells #[.slice X n c, .slice Y k d] 27)).alloc (.cells #[.slice none 0 0, .slice none 0 0] 27)) := (alloc_below _ _).alloc (by simp) _
  obtain ⟨c0, c1, c2, c3⟩ := (Fr2.new w (.slice X n c) (.slice Y k d) (.slice none 0 0) (.slice none 0 0)).cells
  obtain ⟨_, _, f0, f1⟩ := (Fr2.new w (.slice X n c) (.slice Y k d) (.slice none 0 0) (.slice none 0 0)).2.cells
  have t1 : (x != 0) = true := by simpa using hx
  have H := Lib.hid hx
  clear hx
  go_enter Tryz.func113, Tryz.ntmps113
  go_wp2_with fail
  exact bodyPost_ret (v := .tuple #[.agg #[.slice none 0 0, .slice none 0 0], .int .i64 x]) (by simp [results, Tryz.f113, go_sem, c2, c3]) rfl ⟨rfl, (alloc_below _ _).alloc (by simp) _⟩

/-- What two valid fractions' products are. -/
theorem bothF_lens {a b c d : List Nat} (ha : Dig a) (hb : Dig b) (hc : Dig c) (hd : Dig d) (h : bothF a b c d = true) : (lowS (val a * val d + val c * val b) (val b * val d)).1.length ≤ 33 ∧ (lowS (val a * val d + val c * val b) (val b * val d)).2.length ≤ 33 ∧ (lowS (val a * val c) (val b * val d)).1.length ≤ 33 ∧ (lowS (val a * val c) (val b * val d)).2.length ≤ 33 := by
  rcases bothF_ways a b c d with ⟨_, h3⟩ | ⟨_, _, h3⟩ | ⟨h1, h2, _⟩
  · rw [h3] at h; cases h
  · rw [h3] at h; cases h
  obtain ⟨⟨l1, l2⟩, _, _⟩ := vf_parts h1
  obtain ⟨⟨l3, l4⟩, _, _⟩ := vf_parts h2
  have M1 : (digs (val a * val d)).length ≤ 32 := times_len ha hd l1 l4
  have M2 : (digs (val c * val b)).length ≤ 32 := times_len hc hb l3 l2
  have M3 : (digs (val b * val d)).length ≤ 32 := times_len hb hd l2 l4
  have M4 : (digs (val a * val c)).length ≤ 32 := times_len ha hc l1 l3
  have M6 := plus_len M1 M2
  exact ⟨Nat.le_trans (digs_len_mono (Nat.div_le_self _ _)) M6, Nat.le_trans (digs_len_mono (Nat.div_le_self _ _)) (by omega), Nat.le_trans (digs_len_mono (Nat.div_le_self _ _)) (by omega), Nat.le_trans (digs_len_mono (Nat.div_le_self _ _)) (by omega)⟩

set_option maxHeartbeats 4000000 in
set_option maxRecDepth 100000 in
theorem addClo_any (P : Option Addr) (cP : Nat) (x : List Nat) (Q : Option Addr) (cQ : Nat) (y : List Nat) (G H : Nat) (A : Option Addr) (ca : Nat) (a : List Nat) (Bd : Option Addr) (cb : Nat) (b : List Nat) (C : Option Addr) (cc : Nat) (c : List Nat) (D : Option Addr) (cd : Nat) (d : List Nat) (w : World) {nx ny na nb nc nd : Nat} (hnx : x.length = nx) (hny : y.length = ny) (hna : a.length = na) (hnb : b.length = nb) (hnc : c.length = nc) (hnd : d.length = nd)
    (ha : NR w A ca a) (hb : NR w Bd cb b) (hc : NR w C cc c) (hd : NR w D cd d)
    (hx : NR w P cP x) (hy : NR w Q cQ y) (hG : Bx w G (.slice A na ca) (.slice Bd nb cb)) (hH : Bx w H (.slice C nc cc) (.slice D nd cd)) (lx : nx ≤ 32) (ly : ny ≤ 32) (la : na ≤ 16) (lb : nb ≤ 16) (lc : nc ≤ 16) (ld : nd ≤ 16) (hne : digs (val b * val d) ≠ []) :
    Calls Tryz.prog 115 #[.slice P nx cP, .slice Q ny cQ, .pointer (some ⟨G, 0, none⟩), .pointer (some ⟨H, 0, none⟩)] w fun e w' => ∃ v, e = .returned v ∧ FracNew w w' v (lowS (val x + val y) (val b * val d)) := by
  have Hx := Lib.hid hnx
  have Hy := Lib.hid hny
  have Ha := Lib.hid hna
  have Hb := Lib.hid hnb
  have Hc := Lib.hid hnc
  have Hd := Lib.hid hnd
  have bW : Below w.heap.size w (w.alloc (.cells #[.slice none 0 0, .slice none 0 0] 27)) := alloc_below _ _
  have kD : Below w.heap.size w (w.alloc (.cells #[.slice none 0 0, .slice none 0 0] 27)).drew := bW.drew
  have Rx : Hid (NR (w.alloc (.cells #[.slice none 0 0, .slice none 0 0] 27)).drew P cP x) := (hx.below bW).drew
  have Ry : Hid (NR (w.alloc (.cells #[.slice none 0 0, .slice none 0 0] 27)).drew Q cQ y) := (hy.below bW).drew
  have Ra : Hid (NR (w.alloc (.cells #[.slice none 0 0, .slice none 0 0] 27)).drew A ca a) := (ha.below bW).drew
  have Rb : Hid (NR (w.alloc (.cells #[.slice none 0 0, .slice none 0 0] 27)).drew Bd cb b) := (hb.below bW).drew
  have Rc : Hid (NR (w.alloc (.cells #[.slice none 0 0, .slice none 0 0] 27)).drew C cc c) := (hc.below bW).drew
  have Rd : Hid (NR (w.alloc (.cells #[.slice none 0 0, .slice none 0 0] 27)).drew D cd d) := (hd.below bW).drew
  have xG : Hid (Bx (w.alloc (.cells #[.slice none 0 0, .slice none 0 0] 27)).drew G (.slice A na ca) (.slice Bd nb cb)) := hG.below kD
  have xH : Hid (Bx (w.alloc (.cells #[.slice none 0 0, .slice none 0 0] 27)).drew H (.slice C nc cc) (.slice D nd cd)) := hH.below kD
  have xR : Hid (Bx (w.alloc (.cells #[.slice none 0 0, .slice none 0 0] 27)).drew w.heap.size (.slice none 0 0) (.slice none 0 0)) := Bx.new _ _ _
  have M1 : Hid ((digs (val b * val d)).length ≤ 32) := times_len (p := 16) (q := 16) hb.dig hd.dig (by omega) (by omega)
  have M4 : Hid ((digs (val a * val c)).length ≤ 32) := times_len (p := 16) (q := 16) ha.dig hc.dig (by omega) (by omega)
  have M6 : Hid ((digs (val x + val y)).length ≤ 33) := plus_len (len_val hx.dig (by omega)) (len_val hy.dig (by omega))
  have M5 := Lib.hid hne
  obtain ⟨e0, e1, _, _⟩ := xG.out.cells
  obtain ⟨e2, e3, _, _⟩ := xH.out.cells
  have ZG : G < w.heap.size := hG.lt
  have ZH : H < w.heap.size := hH.lt
  clear hnx hny hna hnb hnc hnd hx hy ha hb hc hd hG hH hne
  go_enter Tryz.func115, Tryz.ntmps115
  go_wp2_with fail
  go_region_held3 (fun w' => w'.cell? ⟨G, 0, none⟩ = some (.slice A na ca) ∧ w'.cell? ⟨G, 1, none⟩ = some (.slice Bd nb cb) ∧ w'.cell? ⟨H, 0, none⟩ = some (.slice C nc cc) ∧ w'.cell? ⟨H, 1, none⟩ = some (.slice D nd cd)) ((first | exact ⟨n0, n1, n2, n3⟩ | exact ⟨m0, m1, m2, m3⟩ | exact ⟨l0, l1, l2, l3⟩ | exact ⟨e0, e1, e2, e3⟩ | (refine ⟨?_, ?_, ?_, ?_⟩ <;> (refine cell_kept ?_ ?_ <;> first | omega | assumption)) | go_keep)) (first
    | (go_at_call 116; go_loud (refine (plus_any P cP x Q cQ y _ Hx.out Hy.out Rx.out Ry.out (by omega) (by omega)).mono ?_; rintro e w3 ⟨N, cN, rfl, hN, b3⟩; obtain ⟨l0, l1, _, _⟩ := (Bx.below (xG.out) b3).cells; obtain ⟨l2, l3, _, _⟩ := (Bx.below (xH.out) b3).cells))
    | (go_at_call_of 117 Bd; go_loud (refine (times_any Bd cb b D cd d _ Hb.out Hd.out ((Rb.out).below b3) ((Rd.out).below b3) (by omega) (by omega)).mono ?_; rintro e w4 ⟨M, cM, rfl, hM, b4⟩; obtain ⟨m0, m1, _, _⟩ := (Bx.below (Bx.below (xG.out) b3) b4).cells; obtain ⟨m2, m3, _, _⟩ := (Bx.below (Bx.below (xH.out) b3) b4).cells))
    | (go_at_call 102; go_loud (refine (lowest_any N cN (digs (val x + val y)) M cM (digs (val b * val d)) _ rfl rfl (hN.1.below b4) hM.1 (Trm.digs _) (Trm.digs _) M5.out (by have := M6.out; omega) (by have := M1.out; omega)).mono ?_; rintro e w5 ⟨vL, rfl, X, cX, Y, cY, rfl, hX, hY, hap, b5⟩; rw [val_digs, val_digs] at hX hY hap ⊢; obtain ⟨n0, n1, _, _⟩ := (Bx.below (Bx.below (Bx.below (xG.out) b3) b4) b5).cells; obtain ⟨n2, n3, _, _⟩ := (Bx.below (Bx.below (Bx.below (xH.out) b3) b4) b5).cells; obtain ⟨r0, r1, f0, f1⟩ := (Bx.below (Bx.below (Bx.below (xR.out) b3) b4) b5).cells)))
  all_goals
    have z3 := kD.trans (b3.mono kD.size)
    have z4 := z3.trans (b4.mono z3.size)
    have z5 := z4.trans (b5.mono z4.size)
    have zz : w.heap.size + 1 ≤ w4.heap.size := by have := b3.size; have := b4.size; have : (w.alloc (.cells #[.slice none 0 0, .slice none 0 0] 27)).drew.heap.size = w.heap.size + 1 := (by simp [World.drew]); omega
    have nX : NF (w.heap.size + 1) w5 X cX _ := hX.mono zz
    have nY : NF (w.heap.size + 1) w5 Y cY _ := hY.mono zz
    have fin := fun u v => fracNew_store (w := w) (g := w.heap.size) nX nY hap (Nat.le_refl _) z5 u v
    have FIN := Lib.hid fin
    clear fin nX nY hX hY hap zz
    go_wp2_with fail
    refine bodyPost_ret (v := .agg #[.slice X (lowS (val x + val y) (val b * val d)).1.length cX, .slice Y (lowS (val x + val y) (val b * val d)).2.length cY]) (by simp [results, Tryz.f115, go_sem, r0, r1]) rfl ⟨_, rfl, ?_⟩
    exact FIN.out _ _

set_option maxHeartbeats 4000000 in
set_option maxRecDepth 100000 in
theorem cross_add_any (A : Option Addr) (ca : Nat) (a : List Nat) (Bd : Option Addr) (cb : Nat) (b : List Nat) (C : Option Addr) (cc : Nat) (c : List Nat) (D : Option Addr) (cd : Nat) (d : List Nat) (G H : Nat) (w : World) {na nb nc nd : Nat} (hna : a.length = na) (hnb : b.length = nb) (hnc : c.length = nc) (hnd : d.length = nd)
    (ha : NR w A ca a) (hb : NR w Bd cb b) (hc : NR w C cc c) (hd : NR w D cd d)
    (hG : Bx w G (.slice A na ca) (.slice Bd nb cb)) (hH : Bx w H (.slice C nc cc) (.slice D nd cd)) :
    Calls Tryz.prog 114 #[.agg #[.slice A na ca, .slice Bd nb cb], .agg #[.slice C nc cc, .slice D nd cd], .func (.func 115) #[] #[.pointer (some ⟨G, 0, none⟩), .pointer (some ⟨H, 0, none⟩)]] w fun e w' => Frac2 w w' e (crS (lowS (val a * val d + val c * val b) (val b * val d)) a b c d) := by
  have Ha := Lib.hid hna
  have Hb := Lib.hid hnb
  have Hc := Lib.hid hnc
  have Hd := Lib.hid hnd
  obtain ⟨W, hW⟩ : ∃ W : World, W = ((w.alloc (.cells #[.slice A na ca, .slice Bd nb cb] 27)).alloc (.cells #[.slice C nc cc, .slice D nd cd] 27)).alloc (.cells #[.slice none 0 0, .slice none 0 0] 27) := ⟨_, rfl⟩
  have bW : Below w.heap.size w W := by rw [hW]; exact ((alloc_below _ _).alloc (by simp) _).alloc (by simp; omega) _
  have xW : Fr2 W w.heap.size (.slice A na ca) (.slice Bd nb cb) (.slice C nc cc) (.slice D nd cd) := by rw [hW]; exact (Fr2.new _ _ _ _ _).below (alloc_below _ _)
  have xR : Bx W (w.heap.size + 1 + 1) (.slice none 0 0) (.slice none 0 0) := by
    have := Bx.new ((w.alloc (.cells #[.slice A na ca, .slice Bd nb cb] 27)).alloc (.cells #[.slice C nc cc, .slice D nd cd] 27)) (.slice none 0 0) (.slice none 0 0)
    rw [World.size_alloc, World.size_alloc] at this
    rw [hW]; exact this
  have Ra := Lib.hid (ha.below bW)
  have Rb := Lib.hid (hb.below bW)
  have Rc := Lib.hid (hc.below bW)
  have Rd := Lib.hid (hd.below bW)
  have XW := Lib.hid xW
  have XR := Lib.hid xR
  have HW := Lib.hid hW
  obtain ⟨c0, c1, c2, c3⟩ := xW.cells
  clear hna hnb hnc hnd ha hb hc hd hW xW xR
  rcases bothF_ways a b c d with ⟨h1, h3⟩ | ⟨h1, h2, h3⟩ | ⟨h1, h2, h3⟩
  · have H1 := Lib.hid h1
    have H3 := Lib.hid h3
    have HS : Hid (crS (lowS (val a * val d + val c * val b) (val b * val d)) a b c d = (([], []), 8)) := crS_no h3
    clear hG hH
    clear h1 h3
    rw [HW.out] at c0 c1 c2 c3
    go_enter Tryz.func114, Tryz.ntmps114
    go_wp2_with fail
    rw [← HW.out]
    clear c0 c1 c2 c3
    refine (CheckFraction_any A ca a Bd cb b _ Ha.out Hb.out Ra.out Rb.out).mono ?_
    rintro e w1 ⟨rfl, b1⟩
    rw [cfS_no H1.out]
    have X1 := Lib.hid (XW.out.below b1)
    have Y1 := Lib.hid (XR.out.below b1)
    have k1 := bW.trans (b1.mono bW.size)
    obtain ⟨d0, d1, d2, d3⟩ := X1.out.cells
    obtain ⟨r0, r1, f0, f1⟩ := Y1.out.cells
    go_wp2_with fail
    exact bodyPost_ret (v := .tuple #[.agg #[.slice none 0 0, .slice none 0 0], .int .i64 8]) (by simp [results, Tryz.f114, go_sem, r0, r1]) rfl (Frac2.mk' HS.out (FracNew.zero ((k1.setCell (p := ⟨w.heap.size + 1 + 1, 0, none⟩) (by show w.heap.size ≤ w.heap.size + 1 + 1; omega) _).setCell (p := ⟨w.heap.size + 1 + 1, 1, none⟩) (by show w.heap.size ≤ w.heap.size + 1 + 1; omega) _)))
  · have H1 := Lib.hid h1
    have H3 := Lib.hid h3
    have H2 := Lib.hid h2
    have HS : Hid (crS (lowS (val a * val d + val c * val b) (val b * val d)) a b c d = (([], []), 8)) := crS_no h3
    clear hG hH
    clear h1 h3 h2
    rw [HW.out] at c0 c1 c2 c3
    go_enter Tryz.func114, Tryz.ntmps114
    go_wp2_with fail
    rw [← HW.out]
    clear c0 c1 c2 c3
    refine (CheckFraction_any A ca a Bd cb b _ Ha.out Hb.out Ra.out Rb.out).mono ?_
    rintro e w1 ⟨rfl, b1⟩
    rw [cfS_yes H1.out]
    have X1 := Lib.hid (XW.out.below b1)
    have Y1 := Lib.hid (XR.out.below b1)
    have k1 := bW.trans (b1.mono bW.size)
    obtain ⟨d0, d1, d2, d3⟩ := X1.out.cells
    obtain ⟨r0, r1, f0, f1⟩ := Y1.out.cells
    have Ra1 := Lib.hid (Ra.out.below b1)
    have Rb1 := Lib.hid (Rb.out.below b1)
    have Rc1 := Lib.hid (Rc.out.below b1)
    have Rd1 := Lib.hid (Rd.out.below b1)
    clear b1
    clear r0 r1 f0 f1
    go_wp2_with fail
    refine (CheckFraction_any C cc c D cd d _ Hc.out Hd.out Rc1.out Rd1.out).mono ?_
    rintro e w2 ⟨rfl, b2⟩
    rw [cfS_no H2.out]
    have X2 := Lib.hid (X1.out.below b2)
    have Y2 := Lib.hid (Y1.out.below b2)
    have k2 := k1.trans (b2.mono k1.size)
    clear d0 d1 d2 d3
    obtain ⟨r0, r1, f0, f1⟩ := Y2.out.cells
    go_wp2_with fail
    exact bodyPost_ret (v := .tuple #[.agg #[.slice none 0 0, .slice none 0 0], .int .i64 8]) (by simp [results, Tryz.f114, go_sem, r0, r1]) rfl (Frac2.mk' HS.out (FracNew.zero ((k2.setCell (p := ⟨w.heap.size + 1 + 1, 0, none⟩) (by show w.heap.size ≤ w.heap.size + 1 + 1; omega) _).setCell (p := ⟨w.heap.size + 1 + 1, 1, none⟩) (by show w.heap.size ≤ w.heap.size + 1 + 1; omega) _)))
  · have H1 := Lib.hid h1
    have H3 := Lib.hid h3
    have H2 := Lib.hid h2
    obtain ⟨⟨l1, l2⟩, ⟨t1, t2⟩, n1⟩ := vf_parts h1
    obtain ⟨⟨l3, l4⟩, ⟨t3, t4⟩, n2⟩ := vf_parts h2
    have L1 : na ≤ 16 := by have := Ha.out; omega
    have L2 : nb ≤ 16 := by have := Hb.out; omega
    have L3 : nc ≤ 16 := by have := Hc.out; omega
    have L4 : nd ≤ 16 := by have := Hd.out; omega
    have M1 : Hid ((digs (val a * val d)).length ≤ 32) := times_len Ra.out.dig Rd.out.dig l1 l4
    have M2 : Hid ((digs (val c * val b)).length ≤ 32) := times_len Rc.out.dig Rb.out.dig l3 l2
    have M3 : Hid ((digs (val b * val d)).length ≤ 32) := times_len Rb.out.dig Rd.out.dig l2 l4
    have M4 : Hid ((digs (val a * val c)).length ≤ 32) := times_len Ra.out.dig Rc.out.dig l1 l3
    have M5 : Hid (digs (val b * val d) ≠ []) := digs_ne (Nat.mul_ne_zero (val_ne_of t2 n1) (val_ne_of t4 n2))
    have M6 : Hid ((digs (val a * val d + val c * val b)).length ≤ 33) := plus_len M1.out M2.out
    have HS : Hid (crS (lowS (val a * val d + val c * val b) (val b * val d)) a b c d = ((lowS (val a * val d + val c * val b) (val b * val d)), 0)) := crS_yes h3
    have HG := Lib.hid hG
    have HH := Lib.hid hH
    clear hG hH
    clear l1 l2 l3 l4 t1 t2 t3 t4 n1 n2
    clear h1 h3 h2
    rw [HW.out] at c0 c1 c2 c3
    go_enter Tryz.func114, Tryz.ntmps114
    go_wp2_with fail
    rw [← HW.out]
    clear c0 c1 c2 c3
    refine (CheckFraction_any A ca a Bd cb b _ Ha.out Hb.out Ra.out Rb.out).mono ?_
    rintro e w1 ⟨rfl, b1⟩
    rw [cfS_yes H1.out]
    have X1 := Lib.hid (XW.out.below b1)
    have Y1 := Lib.hid (XR.out.below b1)
    have k1 := bW.trans (b1.mono bW.size)
    obtain ⟨d0, d1, d2, d3⟩ := X1.out.cells
    obtain ⟨r0, r1, f0, f1⟩ := Y1.out.cells
    have Ra1 := Lib.hid (Ra.out.below b1)
    have Rb1 := Lib.hid (Rb.out.below b1)
    have Rc1 := Lib.hid (Rc.out.below b1)
    have Rd1 := Lib.hid (Rd.out.below b1)
    clear b1
    clear r0 r1 f0 f1
    go_wp2_with fail
    refine (CheckFraction_any C cc c D cd d _ Hc.out Hd.out Rc1.out Rd1.out).mono ?_
    rintro e w2 ⟨rfl, b2⟩
    rw [cfS_yes H2.out]
    have X2 := Lib.hid (X1.out.below b2)
    have Y2 := Lib.hid (Y1.out.below b2)
    have k2 := k1.trans (b2.mono k1.size)
    clear d0 d1 d2 d3
    have Ra2 := Lib.hid (Ra1.out.below b2)
    have Rb2 := Lib.hid (Rb1.out.below b2)
    have Rc2 := Lib.hid (Rc1.out.below b2)
    have Rd2 := Lib.hid (Rd1.out.below b2)
    clear b2 Ra1 Rb1 Rc1 Rd1 X1
    obtain ⟨e0, e1, e2, e3⟩ := (show Fr2 w2.drew w.heap.size (.slice A na ca) (.slice Bd nb cb) (.slice C nc cc) (.slice D nd cd) from X2.out).cells
    have XD : Hid (Fr2 w2.drew w.heap.size (.slice A na ca) (.slice Bd nb cb) (.slice C nc cc) (.slice D nd cd)) := X2.out
    have kD := k2.drew
    have XYD : w.heap.size + 1 + 1 < w2.heap.size := Y2.out.lt
    have HG2 := Lib.hid (HG.out.below k2)
    have HH2 := Lib.hid (HH.out.below k2)
    go_wp2_with fail
    go_region_held3 (fun w' => w'.cell? ⟨w.heap.size, 0, none⟩ = some (.slice A na ca) ∧ w'.cell? ⟨w.heap.size, 1, none⟩ = some (.slice Bd nb cb) ∧ w'.cell? ⟨w.heap.size + 1, 0, none⟩ = some (.slice C nc cc) ∧ w'.cell? ⟨w.heap.size + 1, 1, none⟩ = some (.slice D nd cd)) ((first | exact ⟨n0, n1, n2, n3⟩ | exact ⟨m0, m1, m2, m3⟩ | exact ⟨l0, l1, l2, l3⟩ | exact ⟨e0, e1, e2, e3⟩ | (refine ⟨?_, ?_, ?_, ?_⟩ <;> (rw [World.cell?_setCell_other (h := by simp), World.cell?_setCell_other (h := by simp)]; assumption)) | go_keep)) (first
      | (go_at_call_of 117 A; go_loud (refine (times_any A ca a D cd d _ Ha.out Hd.out Ra2.out.drew Rd2.out.drew (by omega) (by omega)).mono ?_; rintro e w3 ⟨P, cP, rfl, hP, b3⟩; obtain ⟨l0, l1, l2, l3⟩ := (Fr2.below (XD.out) b3).cells))
      | (go_at_call_of 117 C; go_loud (refine (times_any C cc c Bd cb b _ Hc.out Hb.out (Rc2.out.drew.below b3) (Rb2.out.drew.below b3) (by omega) (by omega)).mono ?_; rintro e w4 ⟨Q, cQ, rfl, hQ, b4⟩; obtain ⟨m0, m1, m2, m3⟩ := (Fr2.below (Fr2.below (XD.out) b3) b4).cells))
      | (go_at_call 115; go_loud (refine (addClo_any P cP (digs (val a * val d)) Q cQ (digs (val c * val b)) G H A ca a Bd cb b C cc c D cd d _ rfl rfl Ha.out Hb.out Hc.out Hd.out ((Ra2.out.drew.below b3).below b4) ((Rb2.out.drew.below b3).below b4) ((Rc2.out.drew.below b3).below b4) ((Rd2.out.drew.below b3).below b4) (hP.1.below b4) hQ.1 (Bx.below (Bx.below (show Bx w2.drew G _ _ from HG2.out) b3) b4) (Bx.below (Bx.below (show Bx w2.drew H _ _ from HH2.out) b3) b4) M1.out M2.out L1 L2 L3 L4 M5.out).mono ?_; rintro e w5 ⟨vL, rfl, X, cX, Y, cY, rfl, hX, hY, hap, b5⟩; rw [val_digs, val_digs] at hX hY hap ⊢; obtain ⟨n0, n1, n2, n3⟩ := (Fr2.below (Fr2.below (Fr2.below (XD.out) b3) b4) b5).cells; obtain ⟨r0, r1, f0, f1⟩ := (Bx.below (Bx.below (Bx.below ((show Bx w2.drew (w.heap.size + 1 + 1) (.slice none 0 0) (.slice none 0 0) from Y2.out)) b3) b4) b5).cells)))
    all_goals
      have z3 := kD.trans (b3.mono kD.size)
      have z4 := z3.trans (b4.mono z3.size)
      have z5 := z4.trans (b5.mono z4.size)
      have zz : w.heap.size + 1 + 1 + 1 ≤ w4.heap.size := by have := b3.size; have := b4.size; have : w2.drew.heap.size = w2.heap.size := rfl; omega
      have nX : NF (w.heap.size + 1 + 1 + 1) w5 X cX _ := hX.mono zz
      have nY : NF (w.heap.size + 1 + 1 + 1) w5 Y cY _ := hY.mono zz
      have fin := fun u v => fracNew_store (w := w) (g := w.heap.size + 1 + 1) nX nY hap (by omega) z5 u v
      have FIN := Lib.hid fin
      clear fin nX nY hX hY hap zz
      go_wp2_with fail
      refine bodyPost_ret (v := .tuple #[.agg #[.slice X (lowS (val a * val d + val c * val b) (val b * val d)).1.length cX, .slice Y (lowS (val a * val d + val c * val b) (val b * val d)).2.length cY], .int .i64 0]) (by simp [results, Tryz.f114, go_sem, r0, r1]) rfl ⟨_, by rw [HS.out], ?_⟩
      rw [HS.out]
      exact FIN.out _ _

end Go.Proofs.YtenpkmgbaajeeaaGreat

/- The program's sums of fractions. -/
namespace Go.Proofs.YtenpkmgbaajeeaaGreat
open Go.RowKit
set_option linter.unusedVariables false

set_option maxHeartbeats 2000000 in
set_option maxRecDepth 100000 in
theorem AddFractions_any (A : Option Addr) (ca : Nat) (a : List Nat) (Bd : Option Addr) (cb : Nat) (b : List Nat) (C : Option Addr) (cc : Nat) (c : List Nat) (D : Option Addr) (cd : Nat) (d : List Nat) (w : World) {na nb nc nd : Nat} (hna : a.length = na) (hnb : b.length = nb) (hnc : c.length = nc) (hnd : d.length = nd)
    (ha : NR w A ca a) (hb : NR w Bd cb b) (hc : NR w C cc c) (hd : NR w D cd d) :
    Calls Tryz.prog 57 #[.agg #[.slice A na ca, .slice Bd nb cb], .agg #[.slice C nc cc, .slice D nd cd]] w fun e w' => Frac2 w w' e (addFS a b c d) := by
  have Ha := Lib.hid hna
  have Hb := Lib.hid hnb
  have Hc := Lib.hid hnc
  have Hd := Lib.hid hnd
  obtain ⟨W, hW⟩ : ∃ W : World, W = ((w.alloc (.cells #[.slice A na ca, .slice Bd nb cb] 27)).alloc (.cells #[.slice C nc cc, .slice D nd cd] 27)).alloc (.cells #[.slice none 0 0, .slice none 0 0] 27) := ⟨_, rfl⟩
  have bW : Below w.heap.size w W := by rw [hW]; exact ((alloc_below _ _).alloc (by simp) _).alloc (by simp; omega) _
  have xW : Fr2 W w.heap.size (.slice A na ca) (.slice Bd nb cb) (.slice C nc cc) (.slice D nd cd) := by rw [hW]; exact (Fr2.new _ _ _ _ _).below (alloc_below _ _)
  have xR : Bx W (w.heap.size + 1 + 1) (.slice none 0 0) (.slice none 0 0) := by
    have := Bx.new ((w.alloc (.cells #[.slice A na ca, .slice Bd nb cb] 27)).alloc (.cells #[.slice C nc cc, .slice D nd cd] 27)) (.slice none 0 0) (.slice none 0 0)
    rw [World.size_alloc, World.size_alloc] at this
    rw [hW]; exact this
  have Ra := Lib.hid (ha.below bW)
  have Rb := Lib.hid (hb.below bW)
  have Rc := Lib.hid (hc.below bW)
  have Rd := Lib.hid (hd.below bW)
  have XW := Lib.hid xW
  have XR := Lib.hid xR
  have HW := Lib.hid hW
  obtain ⟨c0, c1, c2, c3⟩ := xW.cells
  clear hna hnb hnc hnd ha hb hc hd hW xW xR
  rcases addFS_cr a b c d with ⟨h3, h4⟩ | ⟨h3, h4⟩
  · have H3 := Lib.hid h3
    have HS := Lib.hid h4
    clear h3 h4
    rw [HW.out] at c0 c1 c2 c3
    go_enter Tryz.func57, Tryz.ntmps57
    go_wp2_with fail
    rw [← HW.out]
    clear c0 c1 c2 c3
    refine (cross_add_any A ca a Bd cb b C cc c D cd d w.heap.size (w.heap.size + 1) _ Ha.out Hb.out Hc.out Hd.out Ra.out Rb.out Rc.out Rd.out XW.out.1 XW.out.2).mono ?_
    rintro e w1 ⟨v1, rfl, hF⟩
    rw [crS_no H3.out] at hF ⊢
    obtain ⟨X, cX, Y, cY, rfl, hX, hY, hap, b1⟩ := hF
    have k1 := bW.trans (b1.mono bW.size)
    have Y1 := Lib.hid (XR.out.below b1)
    clear hX hY hap
    go_wp2_with fail
    refine (bounded_err2 X 0 cX Y 0 cY _ 8 (by decide)).mono ?_
    rintro e w2 ⟨rfl, b2⟩
    have k2 := k1.trans (b2.mono k1.size)
    obtain ⟨r0, r1, f0, f1⟩ := (Y1.out.below b2).cells
    go_wp2_with fail
    exact bodyPost_ret (v := .tuple #[.agg #[.slice none 0 0, .slice none 0 0], .int .i64 8]) (by simp [results, Tryz.f57, go_sem, r0, r1]) rfl (Frac2.mk' HS.out (FracNew.zero ((k2.setCell (p := ⟨w.heap.size + 1 + 1, 0, none⟩) (by show w.heap.size ≤ w.heap.size + 1 + 1; omega) _).setCell (p := ⟨w.heap.size + 1 + 1, 1, none⟩) (by show w.heap.size ≤ w.heap.size + 1 + 1; omega) _)))
  · have H3 := Lib.hid h3
    have HS := Lib.hid h4
    obtain ⟨q1, q2, q3, q4⟩ := bothF_lens Ra.out.dig Rb.out.dig Rc.out.dig Rd.out.dig h3
    have HL1 : Hid ((lowS (val a * val d + val c * val b) (val b * val d)).1.length ≤ 33) := q1
    have HL2 : Hid ((lowS (val a * val d + val c * val b) (val b * val d)).2.length ≤ 33) := q2
    clear q1 q2 q3 q4
    clear h3 h4
    rw [HW.out] at c0 c1 c2 c3
    go_enter Tryz.func57, Tryz.ntmps57
    go_wp2_with fail
    rw [← HW.out]
    clear c0 c1 c2 c3
    refine (cross_add_any A ca a Bd cb b C cc c D cd d w.heap.size (w.heap.size + 1) _ Ha.out Hb.out Hc.out Hd.out Ra.out Rb.out Rc.out Rd.out XW.out.1 XW.out.2).mono ?_
    rintro e w1 ⟨v1, rfl, hF⟩
    rw [crS_yes H3.out] at hF ⊢
    obtain ⟨X, cX, Y, cY, rfl, hX, hY, hap, b1⟩ := hF
    have k1 := bW.trans (b1.mono bW.size)
    have Y1 := Lib.hid (XR.out.below b1)
    have zz : w.heap.size + 1 + 1 + 1 ≤ W.heap.size := by have := XR.out.lt; omega
    have nX0 : Hid (NF (w.heap.size + 1 + 1 + 1) w1 X cX _) := hX.mono zz
    have nY0 : Hid (NF (w.heap.size + 1 + 1 + 1) w1 Y cY _) := hY.mono zz
    have HAP := Lib.hid hap
    clear hX hY hap zz
    go_wp2_with fail
    refine (bounded_any X cX (lowS (val a * val d + val c * val b) (val b * val d)).1 Y cY (lowS (val a * val d + val c * val b) (val b * val d)).2 _ rfl rfl (by have := HL1.out; omega) (by have := HL2.out; omega)).mono ?_
    rintro e w2 ⟨rfl, b2⟩
    have k2 := k1.trans (b2.mono k1.size)
    obtain ⟨r0, r1, f0, f1⟩ := (Y1.out.below b2).cells
    have fin := fun u v => frac2_store (w := w) (g := w.heap.size + 1 + 1) (r := addFS a b c d) HS.out (nX0.out.below b2) (nY0.out.below b2) HAP.out (by omega) k2 u v
    have FIN := Lib.hid fin
    clear fin
    rcases bnd_ways (lowS (val a * val d + val c * val b) (val b * val d)).1 (lowS (val a * val d + val c * val b) (val b * val d)).2 with ⟨i1, i2, i3⟩ | ⟨i1, i3⟩ | ⟨i1, i2, i3⟩
    · have HB : Hid (bndV X cX (lowS (val a * val d + val c * val b) (val b * val d)).1 Y cY (lowS (val a * val d + val c * val b) (val b * val d)).2 = .agg #[.slice X (lowS (val a * val d + val c * val b) (val b * val d)).1.length cX, .slice Y (lowS (val a * val d + val c * val b) (val b * val d)).2.length cY]) := by unfold Hid bndV; rw [if_pos ⟨i1, i2⟩]
      have HI := Lib.hid i3
      rw [HB.out, HI.out]
      have HSI := Lib.hid (HS.out.trans HI.out)
      clear i1 i3 i2
      go_wp2_with fail
      refine bodyPost_ret (v := .tuple #[.agg #[.slice X (lowS (val a * val d + val c * val b) (val b * val d)).1.length cX, .slice Y (lowS (val a * val d + val c * val b) (val b * val d)).2.length cY], .int .i64 0]) (by simp [results, Tryz.f57, go_sem, r0, r1]) rfl ⟨_, by rw [HSI.out], ?_⟩
      rw [← HB.out]
      exact FIN.out _ _
    · have HB : Hid (bndV X cX (lowS (val a * val d + val c * val b) (val b * val d)).1 Y cY (lowS (val a * val d + val c * val b) (val b * val d)).2 = .agg #[.slice none 0 0, .slice none 0 0]) := by unfold Hid bndV; rw [if_neg (fun h => i1 h.1)]
      have HI := Lib.hid i3
      rw [HB.out, HI.out]
      have HSI := Lib.hid (HS.out.trans HI.out)
      clear i1 i3
      go_wp2_with fail
      refine bodyPost_ret (v := .tuple #[.agg #[.slice none 0 0, .slice none 0 0], .int .i64 4]) (by simp [results, Tryz.f57, go_sem, r0, r1]) rfl ⟨_, by rw [HSI.out], ?_⟩
      rw [← HB.out]
      exact FIN.out _ _
    · have HB : Hid (bndV X cX (lowS (val a * val d + val c * val b) (val b * val d)).1 Y cY (lowS (val a * val d + val c * val b) (val b * val d)).2 = .agg #[.slice none 0 0, .slice none 0 0]) := by unfold Hid bndV; rw [if_neg (fun h => i2 h.2)]
      have HI := Lib.hid i3
      rw [HB.out, HI.out]
      have HSI := Lib.hid (HS.out.trans HI.out)
      clear i1 i3 i2
      go_wp2_with fail
      refine bodyPost_ret (v := .tuple #[.agg #[.slice none 0 0, .slice none 0 0], .int .i64 4]) (by simp [results, Tryz.f57, go_sem, r0, r1]) rfl ⟨_, by rw [HSI.out], ?_⟩
      rw [← HB.out]
      exact FIN.out _ _

end Go.Proofs.YtenpkmgbaajeeaaGreat

/- Whether a code of steps is complete: the reference's, and both for any code. -/
namespace Go.Proofs.YtenpkmgbaajeeaaGreat
open Go.RowKit
set_option linter.unusedVariables false
set_option linter.unusedSimpArgs false

def thL (t : Nat → Int) (n : Nat) : List Int := (List.range n).map t
theorem thL_length (t : Nat → Int) (n : Nat) : (thL t n).length = n := by simp [thL]
theorem thL_succ (t : Nat → Int) (n : Nat) : thL t (n + 1) = thL t n ++ [t n] := by simp [thL, List.range_succ]
theorem thL_it {t : Nat → Int} {n i : Nat} (h : i < n) : it (thL t n) i = t i := by rw [it_in (by rw [thL_length]; exact h)]; simp [thL]
theorem mayS_or {d : Nat} {t : Nat → Int} {j v x : Nat} : (decide (∃ u, u < v ∧ mayS d t j u = true ∧ t (u + x) < (u : Int)) || (mayS d t j v && decide (t (v + x) < (v : Int)))) = decide (∃ u, u < v + 1 ∧ mayS d t j u = true ∧ t (u + x) < (u : Int)) := by
  rw [Bool.eq_iff_iff, Bool.or_eq_true, Bool.and_eq_true, decide_eq_true_eq, decide_eq_true_eq, decide_eq_true_eq]
  constructor
  · rintro (⟨u, h1, h2, h3⟩ | ⟨h1, h2⟩)
    · exact ⟨u, by omega, h2, h3⟩
    · exact ⟨v, by omega, h1, h2⟩
  · rintro ⟨u, h1, h2, h3⟩
    by_cases e : u = v
    · subst e; exact .inr ⟨h2, h3⟩
    · exact .inl ⟨u, by omega, h2, h3⟩
theorem mayS_fin {d : Nat} {t : Nat → Int} {j x : Nat} : decide (∃ u, u < d + 1 ∧ mayS d t j u = true ∧ t (u + x) < (u : Int)) = mayS d t (j + 1) x := by
  rw [mayS, decide_eq_decide]
  constructor
  · rintro ⟨v, hv, h1, h3⟩; exact ⟨v, by omega, h1, h3⟩
  · rintro ⟨v, hv, h1, h3⟩; exact ⟨v, by omega, h1, h3⟩
/-- What the next block may weigh, the first v weights of this one looked at. -/
def nextQ (d : Nat) (t : Nat → Int) (j v x : Nat) : Bool := decide (∃ u, u < v ∧ mayS d t j u = true ∧ t (u + x) < (u : Int))
end Go.Proofs.YtenpkmgbaajeeaaGreat

/- The law CodeTails: the walk. -/
namespace Go.Proofs.YtenpkmgbaajeeaaGreat
open Go.RowKit
set_option linter.unusedVariables false
set_option linter.unusedSimpArgs false

theorem frac2_open_ {W w' : World} {e : Ending} {r : (List Nat × List Nat) × Int} (h : Frac2 W w' e r) : ∃ X x Z z, e = .returned (.tuple #[.agg #[.slice X r.1.1.length x, .slice Z r.1.2.length z], .int .i64 r.2]) ∧ NR w' X x r.1.1 ∧ NR w' Z z r.1.2 ∧ Below W.heap.size W w' := by
  obtain ⟨v, rfl, X, x, Z, z, rfl, h1, h2, _, hb⟩ := h
  exact ⟨X, x, Z, z, rfl, h1.nr_, h2.nr_, hb⟩
set_option maxHeartbeats 8000000 in
set_option maxRecDepth 100000 in
theorem Complete_any (s : StV) (w : World) (h : StOK w s) :
    Calls Tryz.prog 61 #[.agg s.cs.toArray] w fun e w' => e = .returned (.tuple #[.bool (cmpSt s).1, .int .i64 (cmpSt s).2]) ∧ Below w.heap.size w w' := by
  cases hok : s.ok with
  | true =>
    have := complete_good s w h hok
    unfold cmpSt
    rw [hok]
    exact this
  | false =>
    have HCK : Hid (∀ W, Below w.heap.size w W → Calls Tryz.prog 21 #[.agg s.cs.toArray] W fun e w' => e = .returned (.int .i64 (ckSt s.ok)) ∧ Below W.heap.size W w') := fun W hW => CheckSteps_any s W (h.below hW)
    have hks := h.k16
    obtain ⟨W0, hW0⟩ : ∃ W : World, W = w.alloc (.cells s.cs.toArray 29) := ⟨_, rfl⟩
    have b0 : Hid (Below w.heap.size w W0) := by unfold Hid; rw [hW0]; exact alloc_below _ _
    have x0 : Hid (Blk W0 w.heap.size 29 s.cs.toArray) := by unfold Hid; rw [hW0]; exact Blk.new w _ _
    have HW0 := Lib.hid hW0
    have HIN := Lib.hid (StV.info (s := s) hks)
    have HS : Hid (cmpSt s = (false, 70)) := by unfold Hid cmpSt; rw [hok]; rfl
    rw [hok] at HCK
    rw [HS.out]
    generalize s.cs.toArray = cs at *
    clear hW0 h hks hok
    go_enter Tryz.func61, Tryz.ntmps61
    go_wp2_with (first
      | (rw [← HW0.out])
      | (refine wpList_load_row rfl 29 (.tmp 1) rfl (w.heap.size) rfl 29 cs (0, 0) _ x0.out Tryz.underlying29 rfl HIN.out ?_)
      | (go_at_call 21; (with_reducible refine (HCK.out _ b0.out).mono ?_); rintro e w1 ⟨rfl, hb⟩; have D1 := Lib.hid (bel_on b0.out hb); clear hb; simp only [ckSt]))
    go_ret2
    exact ⟨rfl, D1.out⟩
end Go.Proofs.YtenpkmgbaajeeaaGreat

/- The law CodeSymmetric: the walk. -/
namespace Go.Proofs.YtenpkmgbaajeeaaGreat
open Go.RowKit
set_option linter.unusedVariables false
set_option linter.unusedSimpArgs false

theorem bin_small {d : Nat} (h : d ≤ 64) : bin (2 * d) d < 2 ^ 200 := Nat.lt_of_le_of_lt (bin_le _ _) (Nat.lt_of_le_of_lt (Nat.pow_le_pow_right (n := 2) (by omega) (show 2 * d ≤ 128 by omega)) (by decide +kernel))
theorem sym_sum {d k X : Nat} (hd : d ≤ 64) (hk : k ≤ 2 * d) (hX : X ≤ k + 1) : addFS (lowS (divsN d k X) (bin (2 * d) d)).1 (lowS (divsN d k X) (bin (2 * d) d)).2 (lowS (divsN d k (k + 1 - X)) (bin (2 * d) d)).1 (lowS (divsN d k (k + 1 - X)) (bin (2 * d) d)).2 = (lowS 1 1, 0) := by
  have hs := divsN_sym hk hX
  have hb := bin_small hd
  have hp : bin (2 * d) d ≠ 0 := by have := bin_pos (a := 2 * d) (b := d) (by omega); omega
  rw [low_add hp hp (by omega) hb (by omega) hb]
  congr 1
  refine low_eq (Nat.mul_ne_zero hp hp) (by omega) ?_
  rw [← Nat.add_mul, hs]; omega
theorem val_is11 : isB (lowS 1 1).1 (lowS 1 1).2 0 1 1 = true := by kernel_rfl
set_option maxHeartbeats 8000000 in
set_option maxRecDepth 100000 in
theorem codeSymmetric_walk (d k x : Int) (w : World) (hd1 : -9223372036854775808 ≤ d) (hd2 : d ≤ 9223372036854775807) (hk1 : -9223372036854775808 ≤ k) (hk2 : k ≤ 9223372036854775807) (hx1 : -9223372036854775808 ≤ x) (hx2 : x ≤ 9223372036854775807) :
    Calls Tryz.prog 13 #[.int .i64 d, .int .i64 k, .int .i64 x] w fun e w' => e = .returned (.bool true) ∧ Below w.heap.size w w' := by
  have HT : Hid (∀ W (y : Int), Calls Tryz.prog 55 #[.int .i64 d, .int .i64 k, .int .i64 y] W fun e w' => ∃ X x' Z z, e = .returned (.tuple #[.agg #[.slice X (tailS d k y).1.1.length x', .slice Z (tailS d k y).1.2.length z], .int .i64 (tailS d k y).2]) ∧ NR w' X x' (tailS d k y).1.1 ∧ NR w' Z z (tailS d k y).1.2 ∧ Below W.heap.size W w') := fun W y => (Tail_any d k y W).mono fun e w' h => frac2_open_ h
  have K0 : Hid (Below w.heap.size w w) := Below.refl _ _
  by_cases h : d < 1 ∨ 64 < d ∨ k < 0 ∨ 2 * d < k ∨ x < -1 ∨ k < x
  · have HT1 : Hid (∀ W, Calls Tryz.prog 55 #[.int .i64 d, .int .i64 k, .int .i64 x] W fun e w' => ∃ X x' Z z, e = .returned (.tuple #[.agg #[.slice X 0 x', .slice Z 0 z], .int .i64 2]) ∧ NR w' X x' [] ∧ NR w' Z z [] ∧ Below W.heap.size W w') := fun W => by
      have := HT.out W x
      rw [tailS_no h] at this
      exact this
    clear HT
    go_enter Tryz.func13, Tryz.ntmps13
    go_wp2_with fail
    refine (alive_any _).mono ?_
    rintro e w1 ⟨rfl, hb1⟩
    have K1 : Hid (Below w.heap.size w w1) := hb1
    clear hb1
    go_wp2_with fail
    refine (HT1.out _).mono ?_
    rintro e w2 ⟨X2, x2, Z2, z2, rfl, gx2, gz2, hb2⟩
    obtain ⟨w2b, hw2⟩ : ∃ W, W = w2.alloc (.cells #[.slice X2 0 x2, .slice Z2 0 z2] 27) := ⟨_, rfl⟩
    have d2 : Below w2.heap.size w2 w2b := by rw [hw2]; exact alloc_bel _ _
    have hbb2 := bel_on hb2 d2
    have K2 : Hid (Below w.heap.size w w2b) := bel_on K1.out hbb2
    have T2 : Hid (Blk w2b w2.heap.size 27 #[.slice X2 0 x2, .slice Z2 0 z2]) := by unfold Hid; rw [hw2]; exact Blk.new _ _ _
    have GX2 := Lib.hid (gx2.below d2)
    have GZ2 := Lib.hid (gz2.below d2)
    have HW2 := Lib.hid hw2
    clear hw2 d2 hbb2 hb2 gx2 gz2
    go_wp2_with (rw [← HW2.out])
    all_goals first | omega | skip
    all_goals (go_ret; exact ⟨by simp, K2.out⟩)
  · obtain ⟨D, rfl⟩ : ∃ D : Nat, d = (D : Int) := ⟨d.toNat, by omega⟩
    obtain ⟨K, rfl⟩ : ∃ K : Nat, k = (K : Int) := ⟨k.toNat, by omega⟩
    obtain ⟨X, hX⟩ : ∃ X : Nat, x + 1 = (X : Int) := ⟨(x + 1).toNat, by omega⟩
    obtain ⟨x2, hx2e⟩ : ∃ q : Int, (K : Int) - x - 1 = q := ⟨_, rfl⟩
    have t1 := tailS_yes hX (show 1 ≤ D by omega) (by omega) (by omega) (show X ≤ K + 1 by omega)
    have t2 := tailS_yes (show x2 + 1 = ((K + 1 - X : Nat) : Int) by omega) (show 1 ≤ D by omega) (by omega) (by omega) (show K + 1 - X ≤ K + 1 by omega)
    have HT1 := Lib.hid (fun W => HT.out W x)
    have HT2 := Lib.hid (fun W => HT.out W x2)
    rw [t1] at HT1
    rw [t2] at HT2
    have HAD : Hid (∀ W A a B b C c E e, NR W A a (lowS (divsN D K X) (bin (2 * D) D)).1 → NR W B b (lowS (divsN D K X) (bin (2 * D) D)).2 → NR W C c (lowS (divsN D K (K + 1 - X)) (bin (2 * D) D)).1 → NR W E e (lowS (divsN D K (K + 1 - X)) (bin (2 * D) D)).2 → Calls Tryz.prog 57 #[.agg #[.slice A (lowS (divsN D K X) (bin (2 * D) D)).1.length a, .slice B (lowS (divsN D K X) (bin (2 * D) D)).2.length b], .agg #[.slice C (lowS (divsN D K (K + 1 - X)) (bin (2 * D) D)).1.length c, .slice E (lowS (divsN D K (K + 1 - X)) (bin (2 * D) D)).2.length e]] W fun e w' => ∃ X x' Z z, e = .returned (.tuple #[.agg #[.slice X (lowS 1 1).1.length x', .slice Z (lowS 1 1).2.length z], .int .i64 0]) ∧ NR w' X x' (lowS 1 1).1 ∧ NR w' Z z (lowS 1 1).2 ∧ Below W.heap.size W w') := fun W A a B b C c E e g1 g2 g3 g4 => (AddFractions_any A a _ B b _ C c _ E e _ W rfl rfl rfl rfl g1 g2 g3 g4).mono fun e w' h => by
      rw [sym_sum (by omega) (by omega) (by omega)] at h
      exact frac2_open_ h
    have HIS : Hid (∀ X cx Z cz W, NR W X cx (lowS 1 1).1 → NR W Z cz (lowS 1 1).2 → Calls Tryz.prog 48 #[.agg #[.slice X (lowS 1 1).1.length cx, .slice Z (lowS 1 1).2.length cz], .int .i64 0, .int .u64 1, .int .u64 1] W fun e w' => e = .returned (.bool true) ∧ Below W.heap.size W w') := fun X cx Z cz W g1 g2 => by
      have := is_any X cx _ Z cz _ 0 1 1 W rfl rfl g1 g2 (by omega) (by omega) (by omega)
      rwa [val_is11] at this
    dsimp only at HT1 HT2
    have f1 : ¬ ((D : Int) < 1) := by omega
    have f2 : ¬ ((64 : Int) < (D : Int)) := by omega
    have f3 : ¬ ((K : Int) < 0) := by omega
    have f4 : ¬ (2 * (D : Int) < (K : Int)) := by omega
    have f5 : ¬ (x < -1) := by omega
    have f6 : ¬ ((K : Int) < x) := by omega
    have g2 : (D : Int) ≤ 64 := by omega
    have g4 : (K : Int) ≤ 128 := by omega
    have g6 : x ≤ 128 := by omega
    have g5 : -1 ≤ x := by omega
    have e1 : IntKind.i64.wrap ((K : Int) - x - 1) = x2 := by rw [IntKind.wrap_i64]; omega
    generalize lowS (divsN D K X) (bin (2 * D) D) = l1 at *
    generalize lowS (divsN D K (K + 1 - X)) (bin (2 * D) D) = l2 at *
    generalize lowS 1 1 = l3 at *
    obtain ⟨l1a, l1b⟩ := l1
    obtain ⟨l2a, l2b⟩ := l2
    obtain ⟨l3a, l3b⟩ := l3
    dsimp only at *
    generalize l1a.length = n1a at *
    generalize l1b.length = n1b at *
    generalize l2a.length = n2a at *
    generalize l2b.length = n2b at *
    generalize l3a.length = n3a at *
    generalize l3b.length = n3b at *
    clear HT t1 t2 h hX
    go_enter Tryz.func13, Tryz.ntmps13
    go_wp2_with fail
    refine (alive_any _).mono ?_
    rintro e w1 ⟨rfl, hb1⟩
    have K1 : Hid (Below w.heap.size w w1) := hb1
    clear hb1
    go_wp2_with fail
    refine (HT1.out _).mono ?_
    rintro e w2 ⟨X2, x2, Z2, z2, rfl, gx2, gz2, hb2⟩
    obtain ⟨w2b, hw2⟩ : ∃ W, W = w2.alloc (.cells #[.slice X2 n1a x2, .slice Z2 n1b z2] 27) := ⟨_, rfl⟩
    have d2 : Below w2.heap.size w2 w2b := by rw [hw2]; exact alloc_bel _ _
    have hbb2 := bel_on hb2 d2
    have K2 : Hid (Below w.heap.size w w2b) := bel_on K1.out hbb2
    have T2 : Hid (Blk w2b w2.heap.size 27 #[.slice X2 n1a x2, .slice Z2 n1b z2]) := by unfold Hid; rw [hw2]; exact Blk.new _ _ _
    have GX2 := Lib.hid (gx2.below d2)
    have GZ2 := Lib.hid (gz2.below d2)
    have HW2 := Lib.hid hw2
    clear hw2 d2 hbb2 hb2 gx2 gz2
    go_wp2_with (rw [← HW2.out])
    refine (HT2.out _).mono ?_
    rintro e w3 ⟨X3, x3, Z3, z3, rfl, gx3, gz3, hb3⟩
    obtain ⟨w3b, hw3⟩ : ∃ W, W = w3.alloc (.cells #[.slice X3 n2a x3, .slice Z3 n2b z3] 27) := ⟨_, rfl⟩
    have d3 : Below w3.heap.size w3 w3b := by rw [hw3]; exact alloc_bel _ _
    have hbb3 := bel_on hb3 d3
    have K3 : Hid (Below w.heap.size w w3b) := bel_on K2.out hbb3
    have T3 : Hid (Blk w3b w3.heap.size 27 #[.slice X3 n2a x3, .slice Z3 n2b z3]) := by unfold Hid; rw [hw3]; exact Blk.new _ _ _
    have GX3 := Lib.hid (gx3.below d3)
    have GZ3 := Lib.hid (gz3.below d3)
    have T3a := Lib.hid (T2.out.below' hbb3)
    have GX3a := Lib.hid (GX2.out.below hbb3)
    have GZ3a := Lib.hid (GZ2.out.below hbb3)
    have HW3 := Lib.hid hw3
    clear hw3 d3 hbb3 hb3 gx3 gz3
    have q0 := T3a.out.cell 0
    have q1 := T3a.out.cell 1
    have q2 := T3.out.cell 0
    have q3 := T3.out.cell 1
    go_wp2_with (rw [← HW3.out])
    clear q0 q1 q2 q3
    refine (HAD.out _ _ _ _ _ _ _ _ _ GX3a.out GZ3a.out GX3.out GZ3.out).mono ?_
    rintro e w4 ⟨X4, x4, Z4, z4, rfl, gx4, gz4, hb4⟩
    obtain ⟨w4b, hw4⟩ : ∃ W, W = w4.alloc (.cells #[.slice X4 n3a x4, .slice Z4 n3b z4] 27) := ⟨_, rfl⟩
    have d4 : Below w4.heap.size w4 w4b := by rw [hw4]; exact alloc_bel _ _
    have hbb4 := bel_on hb4 d4
    have K4 : Hid (Below w.heap.size w w4b) := bel_on K3.out hbb4
    have T4 : Hid (Blk w4b w4.heap.size 27 #[.slice X4 n3a x4, .slice Z4 n3b z4]) := by unfold Hid; rw [hw4]; exact Blk.new _ _ _
    have GX4 := Lib.hid (gx4.below d4)
    have GZ4 := Lib.hid (gz4.below d4)
    have HW4 := Lib.hid hw4
    clear hw4 d4 hbb4 hb4 gx4 gz4
    have q0 := T4.out.cell 0
    have q1 := T4.out.cell 1
    go_wp2_with (rw [← HW4.out])
    refine (HIS.out _ _ _ _ _ GX4.out GZ4.out).mono ?_
    rintro e w5 ⟨rfl, hb5⟩
    have K5 : Hid (Below w.heap.size w w5) := bel_on K4.out hb5
    clear hb5 q0 q1
    go_wp2_with fail
    go_ret
    exact ⟨by simp, K5.out⟩
end Go.Proofs.YtenpkmgbaajeeaaGreat
