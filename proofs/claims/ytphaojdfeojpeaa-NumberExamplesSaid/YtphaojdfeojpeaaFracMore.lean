/-
  Sums and products of fractions: the program's.
-/
import Derived.Test.YtphaojdfeojpeaaFracSum
namespace Go.Proofs.Ytphaojdfeojpeaa
open Go.RowKit
set_option linter.unusedVariables false

def crS (k : List Nat × List Nat) (a b c d : List Nat) : (List Nat × List Nat) × Int := if bothF a b c d = true then (k, 0) else (([], []), 8)
theorem crS_no {k : List Nat × List Nat} {a b c d : List Nat} (h : bothF a b c d = false) : crS k a b c d = (([], []), 8) := by rw [crS, h]; rfl
theorem crS_yes {k : List Nat × List Nat} {a b c d : List Nat} (h : bothF a b c d = true) : crS k a b c d = (k, 0) := by rw [crS, h]; rfl
theorem addFS_cr (a b c d : List Nat) : (bothF a b c d = false ∧ addFS a b c d = (([], []), 8)) ∨ (bothF a b c d = true ∧ addFS a b c d = bndS (lowS (val a * val d + val c * val b) (val b * val d))) := by
  cases h : bothF a b c d
  · exact .inl ⟨rfl, addFS_no h⟩
  · exact .inr ⟨rfl, addFS_yes h⟩
theorem mulFS_cr (a b c d : List Nat) : (bothF a b c d = false ∧ mulFS a b c d = (([], []), 8)) ∨ (bothF a b c d = true ∧ mulFS a b c d = bndS (lowS (val a * val c) (val b * val d))) := by
  cases h : bothF a b c d
  · exact .inl ⟨rfl, mulFS_no h⟩
  · exact .inr ⟨rfl, mulFS_yes h⟩
theorem len_val {x : List Nat} {p : Nat} (hx : Dig x) (h : x.length ≤ p) : (digs (val x)).length ≤ p := digs_len_le (Nat.lt_of_lt_of_le (val_lt hx) (Nat.pow_le_pow_right (by omega) h))
theorem cell_kept {w : World} {G g o : Nat} {u v : Value} {r : Option Value} (hn : G < g) (h : w.cell? ⟨G, o, none⟩ = r) : ((w.setCell ⟨g, 0, none⟩ u).setCell ⟨g, 1, none⟩ v).cell? ⟨G, o, none⟩ = r := by
  rw [World.cell?_setCell_other (h := by intro e; injection e with e1; omega), World.cell?_setCell_other (h := by intro e; injection e with e1; omega)]
  exact h

set_option maxHeartbeats 1000000 in
theorem bounded_err2 (X : Option Addr) (n c : Nat) (Y : Option Addr) (k d : Nat) (w : World) (x : Int) (hx : x ≠ 0) :
    Calls Try.prog 94 #[.agg #[.slice X n c, .slice Y k d], .int .i64 x] w fun e w' => e = .returned (.tuple #[.agg #[.slice none 0 0, .slice none 0 0], .int .i64 x]) ∧ Below w.heap.size w w' := by
  have bW : Below w.heap.size w ((w.alloc (.cells #[.slice X n c, .slice Y k d] 54)).alloc (.cells #[.slice none 0 0, .slice none 0 0] 54)) := (alloc_below _ _).alloc (by simp) _
  obtain ⟨c0, c1, c2, c3⟩ := (Fr2.new w (.slice X n c) (.slice Y k d) (.slice none 0 0) (.slice none 0 0)).cells
  obtain ⟨_, _, f0, f1⟩ := (Fr2.new w (.slice X n c) (.slice Y k d) (.slice none 0 0) (.slice none 0 0)).2.cells
  have t1 : (x != 0) = true := by simpa using hx
  have H := Lib.hid hx
  clear hx
  go_enter Try.func94, Try.ntmps94
  go_wp2_with fail
  exact bodyPost_ret (v := .tuple #[.agg #[.slice none 0 0, .slice none 0 0], .int .i64 x]) (by simp [results, Try.f94, go_sem, c2, c3]) rfl ⟨rfl, (alloc_below _ _).alloc (by simp) _⟩

/-- What two valid fractions' products are. -/
theorem bothF_lens {a b c d : List Nat} (ha : Dig a) (hb : Dig b) (hc : Dig c) (hd : Dig d) (h : bothF a b c d = true) : (lowS (val a * val d + val c * val b) (val b * val d)).1.length ≤ 33 ∧ (lowS (val a * val d + val c * val b) (val b * val d)).2.length ≤ 33 ∧ (lowS (val a * val c) (val b * val d)).1.length ≤ 33 ∧ (lowS (val a * val c) (val b * val d)).2.length ≤ 33 := by
  rcases bothF_ways a b c d with ⟨_, h3⟩ | ⟨_, _, h3⟩ | ⟨h1, h2, _⟩
  · rw [h3] at h; cases h
  · rw [h3] at h; cases h
  obtain ⟨⟨l1, l2⟩, _, _⟩ := vf_parts h1
  obtain ⟨⟨l3, l4⟩, _, _⟩ := vf_parts h2
  have M1 : (digs (val a * val d)).length ≤ 32 := times_len ha hd l1 l4
  have M2 : (digs (val c * val b)).length ≤ 32 := times_len hc hb l3 l2
  have M3 : (digs (val b * val d)).length ≤ 32 := times_len hb hd l2 l4
  have M4 : (digs (val a * val c)).length ≤ 32 := times_len ha hc l1 l3
  have M6 := plus_len M1 M2
  exact ⟨Nat.le_trans (digs_len_mono (Nat.div_le_self _ _)) M6, Nat.le_trans (digs_len_mono (Nat.div_le_self _ _)) (by omega), Nat.le_trans (digs_len_mono (Nat.div_le_self _ _)) (by omega), Nat.le_trans (digs_len_mono (Nat.div_le_self _ _)) (by omega)⟩

set_option maxHeartbeats 4000000 in
set_option maxRecDepth 100000 in
theorem addClo_any (P : Option Addr) (cP : Nat) (x : List Nat) (Q : Option Addr) (cQ : Nat) (y : List Nat) (G H : Nat) (A : Option Addr) (ca : Nat) (a : List Nat) (Bd : Option Addr) (cb : Nat) (b : List Nat) (C : Option Addr) (cc : Nat) (c : List Nat) (D : Option Addr) (cd : Nat) (d : List Nat) (w : World) {nx ny na nb nc nd : Nat} (hnx : x.length = nx) (hny : y.length = ny) (hna : a.length = na) (hnb : b.length = nb) (hnc : c.length = nc) (hnd : d.length = nd)
    (ha : NR w A ca a) (hb : NR w Bd cb b) (hc : NR w C cc c) (hd : NR w D cd d)
    (hx : NR w P cP x) (hy : NR w Q cQ y) (hG : Bx w G (.slice A na ca) (.slice Bd nb cb)) (hH : Bx w H (.slice C nc cc) (.slice D nd cd)) (lx : nx ≤ 32) (ly : ny ≤ 32) (la : na ≤ 16) (lb : nb ≤ 16) (lc : nc ≤ 16) (ld : nd ≤ 16) (hne : digs (val b * val d) ≠ []) :
    Calls Try.prog 96 #[.slice P nx cP, .slice Q ny cQ, .pointer (some ⟨G, 0, none⟩), .pointer (some ⟨H, 0, none⟩)] w fun e w' => ∃ v, e = .returned v ∧ FracNew w w' v (lowS (val x + val y) (val b * val d)) := by
  have Hx := Lib.hid hnx
  have Hy := Lib.hid hny
  have Ha := Lib.hid hna
  have Hb := Lib.hid hnb
  have Hc := Lib.hid hnc
  have Hd := Lib.hid hnd
  have bW : Below w.heap.size w (w.alloc (.cells #[.slice none 0 0, .slice none 0 0] 54)) := alloc_below _ _
  have kD : Below w.heap.size w (w.alloc (.cells #[.slice none 0 0, .slice none 0 0] 54)).drew := bW.drew
  have Rx : Hid (NR (w.alloc (.cells #[.slice none 0 0, .slice none 0 0] 54)).drew P cP x) := (hx.below bW).drew
  have Ry : Hid (NR (w.alloc (.cells #[.slice none 0 0, .slice none 0 0] 54)).drew Q cQ y) := (hy.below bW).drew
  have Ra : Hid (NR (w.alloc (.cells #[.slice none 0 0, .slice none 0 0] 54)).drew A ca a) := (ha.below bW).drew
  have Rb : Hid (NR (w.alloc (.cells #[.slice none 0 0, .slice none 0 0] 54)).drew Bd cb b) := (hb.below bW).drew
  have Rc : Hid (NR (w.alloc (.cells #[.slice none 0 0, .slice none 0 0] 54)).drew C cc c) := (hc.below bW).drew
  have Rd : Hid (NR (w.alloc (.cells #[.slice none 0 0, .slice none 0 0] 54)).drew D cd d) := (hd.below bW).drew
  have xG : Hid (Bx (w.alloc (.cells #[.slice none 0 0, .slice none 0 0] 54)).drew G (.slice A na ca) (.slice Bd nb cb)) := hG.below kD
  have xH : Hid (Bx (w.alloc (.cells #[.slice none 0 0, .slice none 0 0] 54)).drew H (.slice C nc cc) (.slice D nd cd)) := hH.below kD
  have xR : Hid (Bx (w.alloc (.cells #[.slice none 0 0, .slice none 0 0] 54)).drew w.heap.size (.slice none 0 0) (.slice none 0 0)) := Bx.new _ _ _
  have M1 : Hid ((digs (val b * val d)).length ≤ 32) := times_len (p := 16) (q := 16) hb.dig hd.dig (by omega) (by omega)
  have M4 : Hid ((digs (val a * val c)).length ≤ 32) := times_len (p := 16) (q := 16) ha.dig hc.dig (by omega) (by omega)
  have M6 : Hid ((digs (val x + val y)).length ≤ 33) := plus_len (len_val hx.dig (by omega)) (len_val hy.dig (by omega))
  have M5 := Lib.hid hne
  obtain ⟨e0, e1, _, _⟩ := xG.out.cells
  obtain ⟨e2, e3, _, _⟩ := xH.out.cells
  have ZG : G < w.heap.size := hG.lt
  have ZH : H < w.heap.size := hH.lt
  clear hnx hny hna hnb hnc hnd hx hy ha hb hc hd hG hH hne
  go_enter Try.func96, Try.ntmps96
  go_wp2_with fail
  go_region_held3 (fun w' => w'.cell? ⟨G, 0, none⟩ = some (.slice A na ca) ∧ w'.cell? ⟨G, 1, none⟩ = some (.slice Bd nb cb) ∧ w'.cell? ⟨H, 0, none⟩ = some (.slice C nc cc) ∧ w'.cell? ⟨H, 1, none⟩ = some (.slice D nd cd)) ((first | exact ⟨n0, n1, n2, n3⟩ | exact ⟨m0, m1, m2, m3⟩ | exact ⟨l0, l1, l2, l3⟩ | exact ⟨e0, e1, e2, e3⟩ | (refine ⟨?_, ?_, ?_, ?_⟩ <;> (refine cell_kept ?_ ?_ <;> first | omega | assumption)) | go_keep)) (first
    | (go_at_call 79; go_loud (refine (plus_any P cP x Q cQ y _ Hx.out Hy.out Rx.out Ry.out (by omega) (by omega)).mono ?_; rintro e w3 ⟨N, cN, rfl, hN, b3⟩; obtain ⟨l0, l1, _, _⟩ := (Bx.below (xG.out) b3).cells; obtain ⟨l2, l3, _, _⟩ := (Bx.below (xH.out) b3).cells))
    | (go_at_call_of 80 Bd; go_loud (refine (times_any Bd cb b D cd d _ Hb.out Hd.out ((Rb.out).below b3) ((Rd.out).below b3) (by omega) (by omega)).mono ?_; rintro e w4 ⟨M, cM, rfl, hM, b4⟩; obtain ⟨m0, m1, _, _⟩ := (Bx.below (Bx.below (xG.out) b3) b4).cells; obtain ⟨m2, m3, _, _⟩ := (Bx.below (Bx.below (xH.out) b3) b4).cells))
    | (go_at_call 87; go_loud (refine (lowest_any N cN (digs (val x + val y)) M cM (digs (val b * val d)) _ rfl rfl (hN.1.below b4) hM.1 (Trm.digs _) (Trm.digs _) M5.out (by have := M6.out; omega) (by have := M1.out; omega)).mono ?_; rintro e w5 ⟨vL, rfl, X, cX, Y, cY, rfl, hX, hY, hap, b5⟩; rw [val_digs, val_digs] at hX hY hap ⊢; obtain ⟨n0, n1, _, _⟩ := (Bx.below (Bx.below (Bx.below (xG.out) b3) b4) b5).cells; obtain ⟨n2, n3, _, _⟩ := (Bx.below (Bx.below (Bx.below (xH.out) b3) b4) b5).cells; obtain ⟨r0, r1, f0, f1⟩ := (Bx.below (Bx.below (Bx.below (xR.out) b3) b4) b5).cells)))
  all_goals
    have z3 := kD.trans (b3.mono kD.size)
    have z4 := z3.trans (b4.mono z3.size)
    have z5 := z4.trans (b5.mono z4.size)
    have zz : w.heap.size + 1 ≤ w4.heap.size := by have := b3.size; have := b4.size; have : (w.alloc (.cells #[.slice none 0 0, .slice none 0 0] 54)).drew.heap.size = w.heap.size + 1 := (by simp [World.drew]); omega
    have nX : NF (w.heap.size + 1) w5 X cX _ := hX.mono zz
    have nY : NF (w.heap.size + 1) w5 Y cY _ := hY.mono zz
    have fin := fun u v => fracNew_store (w := w) (g := w.heap.size) nX nY hap (Nat.le_refl _) z5 u v
    have FIN := Lib.hid fin
    clear fin nX nY hX hY hap zz
    go_wp2_with fail
    refine bodyPost_ret (v := .agg #[.slice X (lowS (val x + val y) (val b * val d)).1.length cX, .slice Y (lowS (val x + val y) (val b * val d)).2.length cY]) (by simp [results, Try.f96, go_sem, r0, r1]) rfl ⟨_, rfl, ?_⟩
    exact FIN.out _ _

set_option maxHeartbeats 4000000 in
set_option maxRecDepth 100000 in
theorem mulClo_any (P : Option Addr) (cP : Nat) (x : List Nat) (Q : Option Addr) (cQ : Nat) (y : List Nat) (G H : Nat) (A : Option Addr) (ca : Nat) (a : List Nat) (Bd : Option Addr) (cb : Nat) (b : List Nat) (C : Option Addr) (cc : Nat) (c : List Nat) (D : Option Addr) (cd : Nat) (d : List Nat) (w : World) {nx ny na nb nc nd : Nat} (hnx : x.length = nx) (hny : y.length = ny) (hna : a.length = na) (hnb : b.length = nb) (hnc : c.length = nc) (hnd : d.length = nd)
    (ha : NR w A ca a) (hb : NR w Bd cb b) (hc : NR w C cc c) (hd : NR w D cd d)
    (hx : NR w P cP x) (hy : NR w Q cQ y) (hG : Bx w G (.slice A na ca) (.slice Bd nb cb)) (hH : Bx w H (.slice C nc cc) (.slice D nd cd)) (lx : nx ≤ 32) (ly : ny ≤ 32) (la : na ≤ 16) (lb : nb ≤ 16) (lc : nc ≤ 16) (ld : nd ≤ 16) (hne : digs (val b * val d) ≠ []) :
    Calls Try.prog 98 #[.slice P nx cP, .slice Q ny cQ, .pointer (some ⟨G, 0, none⟩), .pointer (some ⟨H, 0, none⟩)] w fun e w' => ∃ v, e = .returned v ∧ FracNew w w' v (lowS (val a * val c) (val b * val d)) := by
  have Hx := Lib.hid hnx
  have Hy := Lib.hid hny
  have Ha := Lib.hid hna
  have Hb := Lib.hid hnb
  have Hc := Lib.hid hnc
  have Hd := Lib.hid hnd
  have bW : Below w.heap.size w (w.alloc (.cells #[.slice none 0 0, .slice none 0 0] 54)) := alloc_below _ _
  have kD : Below w.heap.size w (w.alloc (.cells #[.slice none 0 0, .slice none 0 0] 54)).drew := bW.drew
  have Rx : Hid (NR (w.alloc (.cells #[.slice none 0 0, .slice none 0 0] 54)).drew P cP x) := (hx.below bW).drew
  have Ry : Hid (NR (w.alloc (.cells #[.slice none 0 0, .slice none 0 0] 54)).drew Q cQ y) := (hy.below bW).drew
  have Ra : Hid (NR (w.alloc (.cells #[.slice none 0 0, .slice none 0 0] 54)).drew A ca a) := (ha.below bW).drew
  have Rb : Hid (NR (w.alloc (.cells #[.slice none 0 0, .slice none 0 0] 54)).drew Bd cb b) := (hb.below bW).drew
  have Rc : Hid (NR (w.alloc (.cells #[.slice none 0 0, .slice none 0 0] 54)).drew C cc c) := (hc.below bW).drew
  have Rd : Hid (NR (w.alloc (.cells #[.slice none 0 0, .slice none 0 0] 54)).drew D cd d) := (hd.below bW).drew
  have xG : Hid (Bx (w.alloc (.cells #[.slice none 0 0, .slice none 0 0] 54)).drew G (.slice A na ca) (.slice Bd nb cb)) := hG.below kD
  have xH : Hid (Bx (w.alloc (.cells #[.slice none 0 0, .slice none 0 0] 54)).drew H (.slice C nc cc) (.slice D nd cd)) := hH.below kD
  have xR : Hid (Bx (w.alloc (.cells #[.slice none 0 0, .slice none 0 0] 54)).drew w.heap.size (.slice none 0 0) (.slice none 0 0)) := Bx.new _ _ _
  have M1 : Hid ((digs (val b * val d)).length ≤ 32) := times_len (p := 16) (q := 16) hb.dig hd.dig (by omega) (by omega)
  have M4 : Hid ((digs (val a * val c)).length ≤ 32) := times_len (p := 16) (q := 16) ha.dig hc.dig (by omega) (by omega)
  have M6 : Hid ((digs (val x + val y)).length ≤ 33) := plus_len (len_val hx.dig (by omega)) (len_val hy.dig (by omega))
  have M5 := Lib.hid hne
  obtain ⟨e0, e1, _, _⟩ := xG.out.cells
  obtain ⟨e2, e3, _, _⟩ := xH.out.cells
  have ZG : G < w.heap.size := hG.lt
  have ZH : H < w.heap.size := hH.lt
  clear hnx hny hna hnb hnc hnd hx hy ha hb hc hd hG hH hne
  go_enter Try.func98, Try.ntmps98
  go_wp2_with fail
  go_region_held3 (fun w' => w'.cell? ⟨G, 0, none⟩ = some (.slice A na ca) ∧ w'.cell? ⟨G, 1, none⟩ = some (.slice Bd nb cb) ∧ w'.cell? ⟨H, 0, none⟩ = some (.slice C nc cc) ∧ w'.cell? ⟨H, 1, none⟩ = some (.slice D nd cd)) ((first | exact ⟨n0, n1, n2, n3⟩ | exact ⟨m0, m1, m2, m3⟩ | exact ⟨l0, l1, l2, l3⟩ | exact ⟨e0, e1, e2, e3⟩ | (refine ⟨?_, ?_, ?_, ?_⟩ <;> (refine cell_kept ?_ ?_ <;> first | omega | assumption)) | go_keep)) (first
    | (go_at_call_of 80 A; go_loud (refine (times_any A ca a C cc c _ Ha.out Hc.out Ra.out Rc.out (by omega) (by omega)).mono ?_; rintro e w3 ⟨N, cN, rfl, hN, b3⟩; obtain ⟨l0, l1, _, _⟩ := (Bx.below (xG.out) b3).cells; obtain ⟨l2, l3, _, _⟩ := (Bx.below (xH.out) b3).cells))
    | (go_at_call_of 80 Bd; go_loud (refine (times_any Bd cb b D cd d _ Hb.out Hd.out ((Rb.out).below b3) ((Rd.out).below b3) (by omega) (by omega)).mono ?_; rintro e w4 ⟨M, cM, rfl, hM, b4⟩; obtain ⟨m0, m1, _, _⟩ := (Bx.below (Bx.below (xG.out) b3) b4).cells; obtain ⟨m2, m3, _, _⟩ := (Bx.below (Bx.below (xH.out) b3) b4).cells))
    | (go_at_call 87; go_loud (refine (lowest_any N cN (digs (val a * val c)) M cM (digs (val b * val d)) _ rfl rfl (hN.1.below b4) hM.1 (Trm.digs _) (Trm.digs _) M5.out (by have := M4.out; omega) (by have := M1.out; omega)).mono ?_; rintro e w5 ⟨vL, rfl, X, cX, Y, cY, rfl, hX, hY, hap, b5⟩; rw [val_digs, val_digs] at hX hY hap ⊢; obtain ⟨n0, n1, _, _⟩ := (Bx.below (Bx.below (Bx.below (xG.out) b3) b4) b5).cells; obtain ⟨n2, n3, _, _⟩ := (Bx.below (Bx.below (Bx.below (xH.out) b3) b4) b5).cells; obtain ⟨r0, r1, f0, f1⟩ := (Bx.below (Bx.below (Bx.below (xR.out) b3) b4) b5).cells)))
  all_goals
    have z3 := kD.trans (b3.mono kD.size)
    have z4 := z3.trans (b4.mono z3.size)
    have z5 := z4.trans (b5.mono z4.size)
    have zz : w.heap.size + 1 ≤ w4.heap.size := by have := b3.size; have := b4.size; have : (w.alloc (.cells #[.slice none 0 0, .slice none 0 0] 54)).drew.heap.size = w.heap.size + 1 := (by simp [World.drew]); omega
    have nX : NF (w.heap.size + 1) w5 X cX _ := hX.mono zz
    have nY : NF (w.heap.size + 1) w5 Y cY _ := hY.mono zz
    have fin := fun u v => fracNew_store (w := w) (g := w.heap.size) nX nY hap (Nat.le_refl _) z5 u v
    have FIN := Lib.hid fin
    clear fin nX nY hX hY hap zz
    go_wp2_with fail
    refine bodyPost_ret (v := .agg #[.slice X (lowS (val a * val c) (val b * val d)).1.length cX, .slice Y (lowS (val a * val c) (val b * val d)).2.length cY]) (by simp [results, Try.f98, go_sem, r0, r1]) rfl ⟨_, rfl, ?_⟩
    exact FIN.out _ _

set_option maxHeartbeats 4000000 in
set_option maxRecDepth 100000 in
theorem cross_add_any (A : Option Addr) (ca : Nat) (a : List Nat) (Bd : Option Addr) (cb : Nat) (b : List Nat) (C : Option Addr) (cc : Nat) (c : List Nat) (D : Option Addr) (cd : Nat) (d : List Nat) (G H : Nat) (w : World) {na nb nc nd : Nat} (hna : a.length = na) (hnb : b.length = nb) (hnc : c.length = nc) (hnd : d.length = nd)
    (ha : NR w A ca a) (hb : NR w Bd cb b) (hc : NR w C cc c) (hd : NR w D cd d)
    (hG : Bx w G (.slice A na ca) (.slice Bd nb cb)) (hH : Bx w H (.slice C nc cc) (.slice D nd cd)) :
    Calls Try.prog 95 #[.agg #[.slice A na ca, .slice Bd nb cb], .agg #[.slice C nc cc, .slice D nd cd], .func (.func 96) #[] #[.pointer (some ⟨G, 0, none⟩), .pointer (some ⟨H, 0, none⟩)]] w fun e w' => Frac2 w w' e (crS (lowS (val a * val d + val c * val b) (val b * val d)) a b c d) := by
  have Ha := Lib.hid hna
  have Hb := Lib.hid hnb
  have Hc := Lib.hid hnc
  have Hd := Lib.hid hnd
  obtain ⟨W, hW⟩ : ∃ W : World, W = ((w.alloc (.cells #[.slice A na ca, .slice Bd nb cb] 54)).alloc (.cells #[.slice C nc cc, .slice D nd cd] 54)).alloc (.cells #[.slice none 0 0, .slice none 0 0] 54) := ⟨_, rfl⟩
  have bW : Below w.heap.size w W := by rw [hW]; exact ((alloc_below _ _).alloc (by simp) _).alloc (by simp; omega) _
  have xW : Fr2 W w.heap.size (.slice A na ca) (.slice Bd nb cb) (.slice C nc cc) (.slice D nd cd) := by rw [hW]; exact (Fr2.new _ _ _ _ _).below (alloc_below _ _)
  have xR : Bx W (w.heap.size + 1 + 1) (.slice none 0 0) (.slice none 0 0) := by
    have := Bx.new ((w.alloc (.cells #[.slice A na ca, .slice Bd nb cb] 54)).alloc (.cells #[.slice C nc cc, .slice D nd cd] 54)) (.slice none 0 0) (.slice none 0 0)
    rw [World.size_alloc, World.size_alloc] at this
    rw [hW]; exact this
  have Ra := Lib.hid (ha.below bW)
  have Rb := Lib.hid (hb.below bW)
  have Rc := Lib.hid (hc.below bW)
  have Rd := Lib.hid (hd.below bW)
  have XW := Lib.hid xW
  have XR := Lib.hid xR
  have HW := Lib.hid hW
  obtain ⟨c0, c1, c2, c3⟩ := xW.cells
  clear hna hnb hnc hnd ha hb hc hd hW xW xR
  rcases bothF_ways a b c d with ⟨h1, h3⟩ | ⟨h1, h2, h3⟩ | ⟨h1, h2, h3⟩
  · have H1 := Lib.hid h1
    have H3 := Lib.hid h3
    have HS : Hid (crS (lowS (val a * val d + val c * val b) (val b * val d)) a b c d = (([], []), 8)) := crS_no h3
    clear hG hH
    clear h1 h3
    rw [HW.out] at c0 c1 c2 c3
    go_enter Try.func95, Try.ntmps95
    go_wp2_with fail
    rw [← HW.out]
    clear c0 c1 c2 c3
    refine (CheckFraction_any A ca a Bd cb b _ Ha.out Hb.out Ra.out Rb.out).mono ?_
    rintro e w1 ⟨rfl, b1⟩
    rw [cfS_no H1.out]
    have X1 := Lib.hid (XW.out.below b1)
    have Y1 := Lib.hid (XR.out.below b1)
    have k1 := bW.trans (b1.mono bW.size)
    obtain ⟨d0, d1, d2, d3⟩ := X1.out.cells
    obtain ⟨r0, r1, f0, f1⟩ := Y1.out.cells
    go_wp2_with fail
    exact bodyPost_ret (v := .tuple #[.agg #[.slice none 0 0, .slice none 0 0], .int .i64 8]) (by simp [results, Try.f95, go_sem, r0, r1]) rfl (Frac2.mk' HS.out (FracNew.zero ((k1.setCell (p := ⟨w.heap.size + 1 + 1, 0, none⟩) (by show w.heap.size ≤ w.heap.size + 1 + 1; omega) _).setCell (p := ⟨w.heap.size + 1 + 1, 1, none⟩) (by show w.heap.size ≤ w.heap.size + 1 + 1; omega) _)))
  · have H1 := Lib.hid h1
    have H3 := Lib.hid h3
    have H2 := Lib.hid h2
    have HS : Hid (crS (lowS (val a * val d + val c * val b) (val b * val d)) a b c d = (([], []), 8)) := crS_no h3
    clear hG hH
    clear h1 h3 h2
    rw [HW.out] at c0 c1 c2 c3
    go_enter Try.func95, Try.ntmps95
    go_wp2_with fail
    rw [← HW.out]
    clear c0 c1 c2 c3
    refine (CheckFraction_any A ca a Bd cb b _ Ha.out Hb.out Ra.out Rb.out).mono ?_
    rintro e w1 ⟨rfl, b1⟩
    rw [cfS_yes H1.out]
    have X1 := Lib.hid (XW.out.below b1)
    have Y1 := Lib.hid (XR.out.below b1)
    have k1 := bW.trans (b1.mono bW.size)
    obtain ⟨d0, d1, d2, d3⟩ := X1.out.cells
    obtain ⟨r0, r1, f0, f1⟩ := Y1.out.cells
    have Ra1 := Lib.hid (Ra.out.below b1)
    have Rb1 := Lib.hid (Rb.out.below b1)
    have Rc1 := Lib.hid (Rc.out.below b1)
    have Rd1 := Lib.hid (Rd.out.below b1)
    clear b1
    clear r0 r1 f0 f1
    go_wp2_with fail
    refine (CheckFraction_any C cc c D cd d _ Hc.out Hd.out Rc1.out Rd1.out).mono ?_
    rintro e w2 ⟨rfl, b2⟩
    rw [cfS_no H2.out]
    have X2 := Lib.hid (X1.out.below b2)
    have Y2 := Lib.hid (Y1.out.below b2)
    have k2 := k1.trans (b2.mono k1.size)
    clear d0 d1 d2 d3
    obtain ⟨r0, r1, f0, f1⟩ := Y2.out.cells
    go_wp2_with fail
    exact bodyPost_ret (v := .tuple #[.agg #[.slice none 0 0, .slice none 0 0], .int .i64 8]) (by simp [results, Try.f95, go_sem, r0, r1]) rfl (Frac2.mk' HS.out (FracNew.zero ((k2.setCell (p := ⟨w.heap.size + 1 + 1, 0, none⟩) (by show w.heap.size ≤ w.heap.size + 1 + 1; omega) _).setCell (p := ⟨w.heap.size + 1 + 1, 1, none⟩) (by show w.heap.size ≤ w.heap.size + 1 + 1; omega) _)))
  · have H1 := Lib.hid h1
    have H3 := Lib.hid h3
    have H2 := Lib.hid h2
    obtain ⟨⟨l1, l2⟩, ⟨t1, t2⟩, n1⟩ := vf_parts h1
    obtain ⟨⟨l3, l4⟩, ⟨t3, t4⟩, n2⟩ := vf_parts h2
    have L1 : na ≤ 16 := by have := Ha.out; omega
    have L2 : nb ≤ 16 := by have := Hb.out; omega
    have L3 : nc ≤ 16 := by have := Hc.out; omega
    have L4 : nd ≤ 16 := by have := Hd.out; omega
    have M1 : Hid ((digs (val a * val d)).length ≤ 32) := times_len Ra.out.dig Rd.out.dig l1 l4
    have M2 : Hid ((digs (val c * val b)).length ≤ 32) := times_len Rc.out.dig Rb.out.dig l3 l2
    have M3 : Hid ((digs (val b * val d)).length ≤ 32) := times_len Rb.out.dig Rd.out.dig l2 l4
    have M4 : Hid ((digs (val a * val c)).length ≤ 32) := times_len Ra.out.dig Rc.out.dig l1 l3
    have M5 : Hid (digs (val b * val d) ≠ []) := digs_ne (Nat.mul_ne_zero (val_ne_of t2 n1) (val_ne_of t4 n2))
    have M6 : Hid ((digs (val a * val d + val c * val b)).length ≤ 33) := plus_len M1.out M2.out
    have HS : Hid (crS (lowS (val a * val d + val c * val b) (val b * val d)) a b c d = ((lowS (val a * val d + val c * val b) (val b * val d)), 0)) := crS_yes h3
    have HG := Lib.hid hG
    have HH := Lib.hid hH
    clear hG hH
    clear l1 l2 l3 l4 t1 t2 t3 t4 n1 n2
    clear h1 h3 h2
    rw [HW.out] at c0 c1 c2 c3
    go_enter Try.func95, Try.ntmps95
    go_wp2_with fail
    rw [← HW.out]
    clear c0 c1 c2 c3
    refine (CheckFraction_any A ca a Bd cb b _ Ha.out Hb.out Ra.out Rb.out).mono ?_
    rintro e w1 ⟨rfl, b1⟩
    rw [cfS_yes H1.out]
    have X1 := Lib.hid (XW.out.below b1)
    have Y1 := Lib.hid (XR.out.below b1)
    have k1 := bW.trans (b1.mono bW.size)
    obtain ⟨d0, d1, d2, d3⟩ := X1.out.cells
    obtain ⟨r0, r1, f0, f1⟩ := Y1.out.cells
    have Ra1 := Lib.hid (Ra.out.below b1)
    have Rb1 := Lib.hid (Rb.out.below b1)
    have Rc1 := Lib.hid (Rc.out.below b1)
    have Rd1 := Lib.hid (Rd.out.below b1)
    clear b1
    clear r0 r1 f0 f1
    go_wp2_with fail
    refine (CheckFraction_any C cc c D cd d _ Hc.out Hd.out Rc1.out Rd1.out).mono ?_
    rintro e w2 ⟨rfl, b2⟩
    rw [cfS_yes H2.out]
    have X2 := Lib.hid (X1.out.below b2)
    have Y2 := Lib.hid (Y1.out.below b2)
    have k2 := k1.trans (b2.mono k1.size)
    clear d0 d1 d2 d3
    have Ra2 := Lib.hid (Ra1.out.below b2)
    have Rb2 := Lib.hid (Rb1.out.below b2)
    have Rc2 := Lib.hid (Rc1.out.below b2)
    have Rd2 := Lib.hid (Rd1.out.below b2)
    clear b2 Ra1 Rb1 Rc1 Rd1 X1
    obtain ⟨e0, e1, e2, e3⟩ := (show Fr2 w2.drew w.heap.size (.slice A na ca) (.slice Bd nb cb) (.slice C nc cc) (.slice D nd cd) from X2.out).cells
    have XD : Hid (Fr2 w2.drew w.heap.size (.slice A na ca) (.slice Bd nb cb) (.slice C nc cc) (.slice D nd cd)) := X2.out
    have kD := k2.drew
    have XYD : w.heap.size + 1 + 1 < w2.heap.size := Y2.out.lt
    have HG2 := Lib.hid (HG.out.below k2)
    have HH2 := Lib.hid (HH.out.below k2)
    go_wp2_with fail
    go_region_held3 (fun w' => w'.cell? ⟨w.heap.size, 0, none⟩ = some (.slice A na ca) ∧ w'.cell? ⟨w.heap.size, 1, none⟩ = some (.slice Bd nb cb) ∧ w'.cell? ⟨w.heap.size + 1, 0, none⟩ = some (.slice C nc cc) ∧ w'.cell? ⟨w.heap.size + 1, 1, none⟩ = some (.slice D nd cd)) ((first | exact ⟨n0, n1, n2, n3⟩ | exact ⟨m0, m1, m2, m3⟩ | exact ⟨l0, l1, l2, l3⟩ | exact ⟨e0, e1, e2, e3⟩ | (refine ⟨?_, ?_, ?_, ?_⟩ <;> (rw [World.cell?_setCell_other (h := by simp), World.cell?_setCell_other (h := by simp)]; assumption)) | go_keep)) (first
      | (go_at_call_of 80 A; go_loud (refine (times_any A ca a D cd d _ Ha.out Hd.out Ra2.out.drew Rd2.out.drew (by omega) (by omega)).mono ?_; rintro e w3 ⟨P, cP, rfl, hP, b3⟩; obtain ⟨l0, l1, l2, l3⟩ := (Fr2.below (XD.out) b3).cells))
      | (go_at_call_of 80 C; go_loud (refine (times_any C cc c Bd cb b _ Hc.out Hb.out (Rc2.out.drew.below b3) (Rb2.out.drew.below b3) (by omega) (by omega)).mono ?_; rintro e w4 ⟨Q, cQ, rfl, hQ, b4⟩; obtain ⟨m0, m1, m2, m3⟩ := (Fr2.below (Fr2.below (XD.out) b3) b4).cells))
      | (go_at_call 96; go_loud (refine (addClo_any P cP (digs (val a * val d)) Q cQ (digs (val c * val b)) G H A ca a Bd cb b C cc c D cd d _ rfl rfl Ha.out Hb.out Hc.out Hd.out ((Ra2.out.drew.below b3).below b4) ((Rb2.out.drew.below b3).below b4) ((Rc2.out.drew.below b3).below b4) ((Rd2.out.drew.below b3).below b4) (hP.1.below b4) hQ.1 (Bx.below (Bx.below (show Bx w2.drew G _ _ from HG2.out) b3) b4) (Bx.below (Bx.below (show Bx w2.drew H _ _ from HH2.out) b3) b4) M1.out M2.out L1 L2 L3 L4 M5.out).mono ?_; rintro e w5 ⟨vL, rfl, X, cX, Y, cY, rfl, hX, hY, hap, b5⟩; rw [val_digs, val_digs] at hX hY hap ⊢; obtain ⟨n0, n1, n2, n3⟩ := (Fr2.below (Fr2.below (Fr2.below (XD.out) b3) b4) b5).cells; obtain ⟨r0, r1, f0, f1⟩ := (Bx.below (Bx.below (Bx.below ((show Bx w2.drew (w.heap.size + 1 + 1) (.slice none 0 0) (.slice none 0 0) from Y2.out)) b3) b4) b5).cells)))
    all_goals
      have z3 := kD.trans (b3.mono kD.size)
      have z4 := z3.trans (b4.mono z3.size)
      have z5 := z4.trans (b5.mono z4.size)
      have zz : w.heap.size + 1 + 1 + 1 ≤ w4.heap.size := by have := b3.size; have := b4.size; have : w2.drew.heap.size = w2.heap.size := rfl; omega
      have nX : NF (w.heap.size + 1 + 1 + 1) w5 X cX _ := hX.mono zz
      have nY : NF (w.heap.size + 1 + 1 + 1) w5 Y cY _ := hY.mono zz
      have fin := fun u v => fracNew_store (w := w) (g := w.heap.size + 1 + 1) nX nY hap (by omega) z5 u v
      have FIN := Lib.hid fin
      clear fin nX nY hX hY hap zz
      go_wp2_with fail
      refine bodyPost_ret (v := .tuple #[.agg #[.slice X (lowS (val a * val d + val c * val b) (val b * val d)).1.length cX, .slice Y (lowS (val a * val d + val c * val b) (val b * val d)).2.length cY], .int .i64 0]) (by simp [results, Try.f95, go_sem, r0, r1]) rfl ⟨_, by rw [HS.out], ?_⟩
      rw [HS.out]
      exact FIN.out _ _

set_option maxHeartbeats 4000000 in
set_option maxRecDepth 100000 in
theorem cross_mul_any (A : Option Addr) (ca : Nat) (a : List Nat) (Bd : Option Addr) (cb : Nat) (b : List Nat) (C : Option Addr) (cc : Nat) (c : List Nat) (D : Option Addr) (cd : Nat) (d : List Nat) (G H : Nat) (w : World) {na nb nc nd : Nat} (hna : a.length = na) (hnb : b.length = nb) (hnc : c.length = nc) (hnd : d.length = nd)
    (ha : NR w A ca a) (hb : NR w Bd cb b) (hc : NR w C cc c) (hd : NR w D cd d)
    (hG : Bx w G (.slice A na ca) (.slice Bd nb cb)) (hH : Bx w H (.slice C nc cc) (.slice D nd cd)) :
    Calls Try.prog 95 #[.agg #[.slice A na ca, .slice Bd nb cb], .agg #[.slice C nc cc, .slice D nd cd], .func (.func 98) #[] #[.pointer (some ⟨G, 0, none⟩), .pointer (some ⟨H, 0, none⟩)]] w fun e w' => Frac2 w w' e (crS (lowS (val a * val c) (val b * val d)) a b c d) := by
  have Ha := Lib.hid hna
  have Hb := Lib.hid hnb
  have Hc := Lib.hid hnc
  have Hd := Lib.hid hnd
  obtain ⟨W, hW⟩ : ∃ W : World, W = ((w.alloc (.cells #[.slice A na ca, .slice Bd nb cb] 54)).alloc (.cells #[.slice C nc cc, .slice D nd cd] 54)).alloc (.cells #[.slice none 0 0, .slice none 0 0] 54) := ⟨_, rfl⟩
  have bW : Below w.heap.size w W := by rw [hW]; exact ((alloc_below _ _).alloc (by simp) _).alloc (by simp; omega) _
  have xW : Fr2 W w.heap.size (.slice A na ca) (.slice Bd nb cb) (.slice C nc cc) (.slice D nd cd) := by rw [hW]; exact (Fr2.new _ _ _ _ _).below (alloc_below _ _)
  have xR : Bx W (w.heap.size + 1 + 1) (.slice none 0 0) (.slice none 0 0) := by
    have := Bx.new ((w.alloc (.cells #[.slice A na ca, .slice Bd nb cb] 54)).alloc (.cells #[.slice C nc cc, .slice D nd cd] 54)) (.slice none 0 0) (.slice none 0 0)
    rw [World.size_alloc, World.size_alloc] at this
    rw [hW]; exact this
  have Ra := Lib.hid (ha.below bW)
  have Rb := Lib.hid (hb.below bW)
  have Rc := Lib.hid (hc.below bW)
  have Rd := Lib.hid (hd.below bW)
  have XW := Lib.hid xW
  have XR := Lib.hid xR
  have HW := Lib.hid hW
  obtain ⟨c0, c1, c2, c3⟩ := xW.cells
  clear hna hnb hnc hnd ha hb hc hd hW xW xR
  rcases bothF_ways a b c d with ⟨h1, h3⟩ | ⟨h1, h2, h3⟩ | ⟨h1, h2, h3⟩
  · have H1 := Lib.hid h1
    have H3 := Lib.hid h3
    have HS : Hid (crS (lowS (val a * val c) (val b * val d)) a b c d = (([], []), 8)) := crS_no h3
    clear hG hH
    clear h1 h3
    rw [HW.out] at c0 c1 c2 c3
    go_enter Try.func95, Try.ntmps95
    go_wp2_with fail
    rw [← HW.out]
    clear c0 c1 c2 c3
    refine (CheckFraction_any A ca a Bd cb b _ Ha.out Hb.out Ra.out Rb.out).mono ?_
    rintro e w1 ⟨rfl, b1⟩
    rw [cfS_no H1.out]
    have X1 := Lib.hid (XW.out.below b1)
    have Y1 := Lib.hid (XR.out.below b1)
    have k1 := bW.trans (b1.mono bW.size)
    obtain ⟨d0, d1, d2, d3⟩ := X1.out.cells
    obtain ⟨r0, r1, f0, f1⟩ := Y1.out.cells
    go_wp2_with fail
    exact bodyPost_ret (v := .tuple #[.agg #[.slice none 0 0, .slice none 0 0], .int .i64 8]) (by simp [results, Try.f95, go_sem, r0, r1]) rfl (Frac2.mk' HS.out (FracNew.zero ((k1.setCell (p := ⟨w.heap.size + 1 + 1, 0, none⟩) (by show w.heap.size ≤ w.heap.size + 1 + 1; omega) _).setCell (p := ⟨w.heap.size + 1 + 1, 1, none⟩) (by show w.heap.size ≤ w.heap.size + 1 + 1; omega) _)))
  · have H1 := Lib.hid h1
    have H3 := Lib.hid h3
    have H2 := Lib.hid h2
    have HS : Hid (crS (lowS (val a * val c) (val b * val d)) a b c d = (([], []), 8)) := crS_no h3
    clear hG hH
    clear h1 h3 h2
    rw [HW.out] at c0 c1 c2 c3
    go_enter Try.func95, Try.ntmps95
    go_wp2_with fail
    rw [← HW.out]
    clear c0 c1 c2 c3
    refine (CheckFraction_any A ca a Bd cb b _ Ha.out Hb.out Ra.out Rb.out).mono ?_
    rintro e w1 ⟨rfl, b1⟩
    rw [cfS_yes H1.out]
    have X1 := Lib.hid (XW.out.below b1)
    have Y1 := Lib.hid (XR.out.below b1)
    have k1 := bW.trans (b1.mono bW.size)
    obtain ⟨d0, d1, d2, d3⟩ := X1.out.cells
    obtain ⟨r0, r1, f0, f1⟩ := Y1.out.cells
    have Ra1 := Lib.hid (Ra.out.below b1)
    have Rb1 := Lib.hid (Rb.out.below b1)
    have Rc1 := Lib.hid (Rc.out.below b1)
    have Rd1 := Lib.hid (Rd.out.below b1)
    clear b1
    clear r0 r1 f0 f1
    go_wp2_with fail
    refine (CheckFraction_any C cc c D cd d _ Hc.out Hd.out Rc1.out Rd1.out).mono ?_
    rintro e w2 ⟨rfl, b2⟩
    rw [cfS_no H2.out]
    have X2 := Lib.hid (X1.out.below b2)
    have Y2 := Lib.hid (Y1.out.below b2)
    have k2 := k1.trans (b2.mono k1.size)
    clear d0 d1 d2 d3
    obtain ⟨r0, r1, f0, f1⟩ := Y2.out.cells
    go_wp2_with fail
    exact bodyPost_ret (v := .tuple #[.agg #[.slice none 0 0, .slice none 0 0], .int .i64 8]) (by simp [results, Try.f95, go_sem, r0, r1]) rfl (Frac2.mk' HS.out (FracNew.zero ((k2.setCell (p := ⟨w.heap.size + 1 + 1, 0, none⟩) (by show w.heap.size ≤ w.heap.size + 1 + 1; omega) _).setCell (p := ⟨w.heap.size + 1 + 1, 1, none⟩) (by show w.heap.size ≤ w.heap.size + 1 + 1; omega) _)))
  · have H1 := Lib.hid h1
    have H3 := Lib.hid h3
    have H2 := Lib.hid h2
    obtain ⟨⟨l1, l2⟩, ⟨t1, t2⟩, n1⟩ := vf_parts h1
    obtain ⟨⟨l3, l4⟩, ⟨t3, t4⟩, n2⟩ := vf_parts h2
    have L1 : na ≤ 16 := by have := Ha.out; omega
    have L2 : nb ≤ 16 := by have := Hb.out; omega
    have L3 : nc ≤ 16 := by have := Hc.out; omega
    have L4 : nd ≤ 16 := by have := Hd.out; omega
    have M1 : Hid ((digs (val a * val d)).length ≤ 32) := times_len Ra.out.dig Rd.out.dig l1 l4
    have M2 : Hid ((digs (val c * val b)).length ≤ 32) := times_len Rc.out.dig Rb.out.dig l3 l2
    have M3 : Hid ((digs (val b * val d)).length ≤ 32) := times_len Rb.out.dig Rd.out.dig l2 l4
    have M4 : Hid ((digs (val a * val c)).length ≤ 32) := times_len Ra.out.dig Rc.out.dig l1 l3
    have M5 : Hid (digs (val b * val d) ≠ []) := digs_ne (Nat.mul_ne_zero (val_ne_of t2 n1) (val_ne_of t4 n2))
    have M6 : Hid ((digs (val a * val d + val c * val b)).length ≤ 33) := plus_len M1.out M2.out
    have HS : Hid (crS (lowS (val a * val c) (val b * val d)) a b c d = ((lowS (val a * val c) (val b * val d)), 0)) := crS_yes h3
    have HG := Lib.hid hG
    have HH := Lib.hid hH
    clear hG hH
    clear l1 l2 l3 l4 t1 t2 t3 t4 n1 n2
    clear h1 h3 h2
    rw [HW.out] at c0 c1 c2 c3
    go_enter Try.func95, Try.ntmps95
    go_wp2_with fail
    rw [← HW.out]
    clear c0 c1 c2 c3
    refine (CheckFraction_any A ca a Bd cb b _ Ha.out Hb.out Ra.out Rb.out).mono ?_
    rintro e w1 ⟨rfl, b1⟩
    rw [cfS_yes H1.out]
    have X1 := Lib.hid (XW.out.below b1)
    have Y1 := Lib.hid (XR.out.below b1)
    have k1 := bW.trans (b1.mono bW.size)
    obtain ⟨d0, d1, d2, d3⟩ := X1.out.cells
    obtain ⟨r0, r1, f0, f1⟩ := Y1.out.cells
    have Ra1 := Lib.hid (Ra.out.below b1)
    have Rb1 := Lib.hid (Rb.out.below b1)
    have Rc1 := Lib.hid (Rc.out.below b1)
    have Rd1 := Lib.hid (Rd.out.below b1)
    clear b1
    clear r0 r1 f0 f1
    go_wp2_with fail
    refine (CheckFraction_any C cc c D cd d _ Hc.out Hd.out Rc1.out Rd1.out).mono ?_
    rintro e w2 ⟨rfl, b2⟩
    rw [cfS_yes H2.out]
    have X2 := Lib.hid (X1.out.below b2)
    have Y2 := Lib.hid (Y1.out.below b2)
    have k2 := k1.trans (b2.mono k1.size)
    clear d0 d1 d2 d3
    have Ra2 := Lib.hid (Ra1.out.below b2)
    have Rb2 := Lib.hid (Rb1.out.below b2)
    have Rc2 := Lib.hid (Rc1.out.below b2)
    have Rd2 := Lib.hid (Rd1.out.below b2)
    clear b2 Ra1 Rb1 Rc1 Rd1 X1
    obtain ⟨e0, e1, e2, e3⟩ := (show Fr2 w2.drew w.heap.size (.slice A na ca) (.slice Bd nb cb) (.slice C nc cc) (.slice D nd cd) from X2.out).cells
    have XD : Hid (Fr2 w2.drew w.heap.size (.slice A na ca) (.slice Bd nb cb) (.slice C nc cc) (.slice D nd cd)) := X2.out
    have kD := k2.drew
    have XYD : w.heap.size + 1 + 1 < w2.heap.size := Y2.out.lt
    have HG2 := Lib.hid (HG.out.below k2)
    have HH2 := Lib.hid (HH.out.below k2)
    go_wp2_with fail
    go_region_held3 (fun w' => w'.cell? ⟨w.heap.size, 0, none⟩ = some (.slice A na ca) ∧ w'.cell? ⟨w.heap.size, 1, none⟩ = some (.slice Bd nb cb) ∧ w'.cell? ⟨w.heap.size + 1, 0, none⟩ = some (.slice C nc cc) ∧ w'.cell? ⟨w.heap.size + 1, 1, none⟩ = some (.slice D nd cd)) ((first | exact ⟨n0, n1, n2, n3⟩ | exact ⟨m0, m1, m2, m3⟩ | exact ⟨l0, l1, l2, l3⟩ | exact ⟨e0, e1, e2, e3⟩ | (refine ⟨?_, ?_, ?_, ?_⟩ <;> (rw [World.cell?_setCell_other (h := by simp), World.cell?_setCell_other (h := by simp)]; assumption)) | go_keep)) (first
      | (go_at_call_of 80 A; go_loud (refine (times_any A ca a D cd d _ Ha.out Hd.out Ra2.out.drew Rd2.out.drew (by omega) (by omega)).mono ?_; rintro e w3 ⟨P, cP, rfl, hP, b3⟩; obtain ⟨l0, l1, l2, l3⟩ := (Fr2.below (XD.out) b3).cells))
      | (go_at_call_of 80 C; go_loud (refine (times_any C cc c Bd cb b _ Hc.out Hb.out (Rc2.out.drew.below b3) (Rb2.out.drew.below b3) (by omega) (by omega)).mono ?_; rintro e w4 ⟨Q, cQ, rfl, hQ, b4⟩; obtain ⟨m0, m1, m2, m3⟩ := (Fr2.below (Fr2.below (XD.out) b3) b4).cells))
      | (go_at_call 98; go_loud (refine (mulClo_any P cP (digs (val a * val d)) Q cQ (digs (val c * val b)) G H A ca a Bd cb b C cc c D cd d _ rfl rfl Ha.out Hb.out Hc.out Hd.out ((Ra2.out.drew.below b3).below b4) ((Rb2.out.drew.below b3).below b4) ((Rc2.out.drew.below b3).below b4) ((Rd2.out.drew.below b3).below b4) (hP.1.below b4) hQ.1 (Bx.below (Bx.below (show Bx w2.drew G _ _ from HG2.out) b3) b4) (Bx.below (Bx.below (show Bx w2.drew H _ _ from HH2.out) b3) b4) M1.out M2.out L1 L2 L3 L4 M5.out).mono ?_; rintro e w5 ⟨vL, rfl, X, cX, Y, cY, rfl, hX, hY, hap, b5⟩; obtain ⟨n0, n1, n2, n3⟩ := (Fr2.below (Fr2.below (Fr2.below (XD.out) b3) b4) b5).cells; obtain ⟨r0, r1, f0, f1⟩ := (Bx.below (Bx.below (Bx.below ((show Bx w2.drew (w.heap.size + 1 + 1) (.slice none 0 0) (.slice none 0 0) from Y2.out)) b3) b4) b5).cells)))
    all_goals
      have z3 := kD.trans (b3.mono kD.size)
      have z4 := z3.trans (b4.mono z3.size)
      have z5 := z4.trans (b5.mono z4.size)
      have zz : w.heap.size + 1 + 1 + 1 ≤ w4.heap.size := by have := b3.size; have := b4.size; have : w2.drew.heap.size = w2.heap.size := rfl; omega
      have nX : NF (w.heap.size + 1 + 1 + 1) w5 X cX _ := hX.mono zz
      have nY : NF (w.heap.size + 1 + 1 + 1) w5 Y cY _ := hY.mono zz
      have fin := fun u v => fracNew_store (w := w) (g := w.heap.size + 1 + 1) nX nY hap (by omega) z5 u v
      have FIN := Lib.hid fin
      clear fin nX nY hX hY hap zz
      go_wp2_with fail
      refine bodyPost_ret (v := .tuple #[.agg #[.slice X (lowS (val a * val c) (val b * val d)).1.length cX, .slice Y (lowS (val a * val c) (val b * val d)).2.length cY], .int .i64 0]) (by simp [results, Try.f95, go_sem, r0, r1]) rfl ⟨_, by rw [HS.out], ?_⟩
      rw [HS.out]
      exact FIN.out _ _

end Go.Proofs.Ytphaojdfeojpeaa
