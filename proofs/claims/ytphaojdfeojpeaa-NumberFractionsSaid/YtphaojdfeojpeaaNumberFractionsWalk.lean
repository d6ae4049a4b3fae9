/-
  The walk of the law NumberFractions.
-/
import Derived.Test.YtphaojdfeojpeaaNatSame
import Derived.Test.YtphaojdfeojpeaaFracTopA
import Derived.Test.YtphaojdfeojpeaaFracTopM
namespace Go.Proofs.Ytphaojdfeojpeaa
open Go.RowKit
set_option linter.unusedVariables false

/-- What the law's arguments read in a world. -/
structure Six (w0 W : World) (A : Option Addr) (ca : Nat) (a : List Nat) (Bd : Option Addr) (cb : Nat) (b : List Nat) (F : Option Addr) (cf : Nat) (f : List Nat) (F2 : Option Addr) (cf2 : Nat) (f2 : List Nat) (G : Option Addr) (cg : Nat) (g : List Nat) (G2 : Option Addr) (cg2 : Nat) (g2 : List Nat) (X : Option Addr) (cx : Nat) (X2 : Option Addr) (cx2 : Nat) (gx : Nat) : Prop where
  ra : NR W A ca a
  rb : NR W Bd cb b
  rf : NR W F cf f
  rf2 : NR W F2 cf2 f2
  rg : NR W G cg g
  rg2 : NR W G2 cg2 g2
  rx : NR W X cx f
  rx2 : NR W X2 cx2 f2
  bf : Bx W w0.heap.size (.slice F f.length cf) (.slice F2 f2.length cf2)
  bg : Bx W (w0.heap.size + 1) (.slice G g.length cg) (.slice G2 g2.length cg2)
  bx : Bx W gx (.slice X f.length cx) (.slice X2 f2.length cx2)
  bel : Below w0.heap.size w0 W
theorem Six.step {w0 W W' : World} {A : Option Addr} {ca : Nat} {a : List Nat} {Bd : Option Addr} {cb : Nat} {b : List Nat} {F : Option Addr} {cf : Nat} {f : List Nat} {F2 : Option Addr} {cf2 : Nat} {f2 : List Nat} {G : Option Addr} {cg : Nat} {g : List Nat} {G2 : Option Addr} {cg2 : Nat} {g2 : List Nat} {X : Option Addr} {cx : Nat} {X2 : Option Addr} {cx2 : Nat} {gx : Nat}
    (h : Six w0 W A ca a Bd cb b F cf f F2 cf2 f2 G cg g G2 cg2 g2 X cx X2 cx2 gx) (k : Below W.heap.size W W') : Six w0 W' A ca a Bd cb b F cf f F2 cf2 f2 G cg g G2 cg2 g2 X cx X2 cx2 gx :=
  ⟨h.ra.below k, h.rb.below k, h.rf.below k, h.rf2.below k, h.rg.below k, h.rg2.below k, h.rx.below k, h.rx2.below k, h.bf.below k, h.bg.below k, h.bx.below k, h.bel.trans (k.mono h.bel.size)⟩

theorem Bx.old {w w' : World} {B g : Nat} {u v : Value} (h : Bx w g u v) (hg : g < B) (k : Below B w w') : Bx w' g u v := (k.block g hg).trans h
theorem Bx.far {w : World} {g : Nat} {u v : Value} (h : Bx w g u v) {p : Addr} (hp : p.block ≠ g) (x : Value) : Bx (w.setCell p x) g u v := by
  unfold Bx at *
  rw [← h]
  simp [World.setCell, Array.getElem?_modify, hp]
theorem Bx.store {w : World} {g : Nat} {u v : Value} (h : Bx w g u v) (x y : Value) : Bx ((w.setCell ⟨g, 0, none⟩ x).setCell ⟨g, 1, none⟩ y) g x y := by
  unfold Bx at *
  simp [World.setCell, Array.getElem?_modify, h]
/-- The two boxes of the law's results, and the newest result's numbers. -/
structure Cur (wB W : World) (gc gd : Nat) (u1 u2 v1 v2 : Value) (N : Nat) (C : Option Addr) (cc : Nat) (c : List Nat) (C2 : Option Addr) (cc2 : Nat) (c2 : List Nat) : Prop where
  bc : Bx W gc u1 u2
  bd : Bx W gd v1 v2
  k : Below wB.heap.size wB W
  n : NF N W C cc c
  n2 : NF N W C2 cc2 c2
theorem Cur.step {wB W W' : World} {gc gd : Nat} {u1 u2 v1 v2 : Value} {N : Nat} {C : Option Addr} {cc : Nat} {c : List Nat} {C2 : Option Addr} {cc2 : Nat} {c2 : List Nat} (h : Cur wB W gc gd u1 u2 v1 v2 N C cc c C2 cc2 c2) (k : Below W.heap.size W W') : Cur wB W' gc gd u1 u2 v1 v2 N C cc c C2 cc2 c2 :=
  ⟨h.bc.below k, h.bd.below k, h.k.trans (k.mono h.k.size), h.n.below k, h.n2.below k⟩
theorem Cur.setC {wB W : World} {gc gd : Nat} {u1 u2 v1 v2 : Value} {N : Nat} {C : Option Addr} {cc : Nat} {c : List Nat} {C2 : Option Addr} {cc2 : Nat} {c2 : List Nat} (h : Cur wB W gc gd u1 u2 v1 v2 N C cc c C2 cc2 c2) (hc : gc < N) (hn : gc < gd) (hB : wB.heap.size ≤ gc) (x y : Value) :
    Cur wB ((W.setCell ⟨gc, 0, none⟩ x).setCell ⟨gc, 1, none⟩ y) gc gd x y v1 v2 N C cc c C2 cc2 c2 :=
  ⟨h.bc.store x y, (h.bd.far (p := ⟨gc, 0, none⟩) (Nat.ne_of_lt hn) x).far (p := ⟨gc, 1, none⟩) (Nat.ne_of_lt hn) y, (h.k.setCell (p := ⟨gc, 0, none⟩) hB _).setCell (p := ⟨gc, 1, none⟩) hB _, (h.n.far (p := ⟨gc, 0, none⟩) hc x).far (p := ⟨gc, 1, none⟩) hc y, (h.n2.far (p := ⟨gc, 0, none⟩) hc x).far (p := ⟨gc, 1, none⟩) hc y⟩
theorem Cur.setD {wB W : World} {gc gd : Nat} {u1 u2 v1 v2 : Value} {N : Nat} {C : Option Addr} {cc : Nat} {c : List Nat} {C2 : Option Addr} {cc2 : Nat} {c2 : List Nat} (h : Cur wB W gc gd u1 u2 v1 v2 N C cc c C2 cc2 c2) (hc : gd < N) (hn : gc < gd) (hB : wB.heap.size ≤ gc) (x y : Value) :
    Cur wB ((W.setCell ⟨gd, 0, none⟩ x).setCell ⟨gd, 1, none⟩ y) gc gd u1 u2 x y N C cc c C2 cc2 c2 :=
  ⟨(h.bc.far (p := ⟨gd, 0, none⟩) (Nat.ne_of_gt hn) x).far (p := ⟨gd, 1, none⟩) (Nat.ne_of_gt hn) y, h.bd.store x y, (h.k.setCell (p := ⟨gd, 0, none⟩) (Nat.le_of_lt (Nat.lt_of_le_of_lt hB hn)) _).setCell (p := ⟨gd, 1, none⟩) (Nat.le_of_lt (Nat.lt_of_le_of_lt hB hn)) _, (h.n.far (p := ⟨gd, 0, none⟩) hc x).far (p := ⟨gd, 1, none⟩) hc y, (h.n2.far (p := ⟨gd, 0, none⟩) hc x).far (p := ⟨gd, 1, none⟩) hc y⟩
/-- The cells of the boxes of the law. -/
theorem cells8 {W : World} {g1 g2 g3 g4 : Nat} {a1 a2 b1 b2 c1 c2 d1 d2 : Value} (h1 : Bx W g1 a1 a2) (h2 : Bx W g2 b1 b2) (h3 : Bx W g3 c1 c2) (h4 : Bx W g4 d1 d2) :
    W.cell? ⟨g1, 0, none⟩ = some a1 ∧ W.cell? ⟨g1, 1, none⟩ = some a2 ∧ W.cell? ⟨g2, 0, none⟩ = some b1 ∧ W.cell? ⟨g2, 1, none⟩ = some b2 ∧ W.cell? ⟨g3, 0, none⟩ = some c1 ∧ W.cell? ⟨g3, 1, none⟩ = some c2 ∧ W.cell? ⟨g4, 0, none⟩ = some d1 ∧ W.cell? ⟨g4, 1, none⟩ = some d2 :=
  ⟨h1.cells.1, h1.cells.2.1, h2.cells.1, h2.cells.2.1, h3.cells.1, h3.cells.2.1, h4.cells.1, h4.cells.2.1⟩

set_option maxHeartbeats 8000000 in
set_option maxRecDepth 100000 in
theorem numberFractions_walk (A : Option Addr) (ca : Nat) (a : List Nat) (Bd : Option Addr) (cb : Nat) (b : List Nat) (F : Option Addr) (cf : Nat) (f : List Nat) (F2 : Option Addr) (cf2 : Nat) (f2 : List Nat) (G : Option Addr) (cg : Nat) (g : List Nat) (G2 : Option Addr) (cg2 : Nat) (g2 : List Nat) (w : World) (ha : NR w A ca a) (hb : NR w Bd cb b) (hf : NR w F cf f) (hf2 : NR w F2 cf2 f2) (hg : NR w G cg g) (hg2 : NR w G2 cg2 g2) :
    Calls Try.prog 6 #[.slice A a.length ca, .slice Bd b.length cb, .agg #[.slice F f.length cf, .slice F2 f2.length cf2], .agg #[.slice G g.length cg, .slice G2 g2.length cg2]] w fun e w' => e = .returned (.bool true) ∧ Below w.heap.size w w' := by
  obtain ⟨W, hW⟩ : ∃ W : World, W = (w.alloc (.cells #[.slice F f.length cf, .slice F2 f2.length cf2] 54)).alloc (.cells #[.slice G g.length cg, .slice G2 g2.length cg2] 54) := ⟨_, rfl⟩
  have bW : Below w.heap.size w W := by rw [hW]; exact (alloc_below _ _).alloc (by simp) _
  have xW : Fr2 W w.heap.size (.slice F f.length cf) (.slice F2 f2.length cf2) (.slice G g.length cg) (.slice G2 g2.length cg2) := by rw [hW]; exact Fr2.new _ _ _ _ _
  have XW := Lib.hid xW
  have HW := Lib.hid hW
  have kD := bW.drew
  have Ra := Lib.hid (ha.below bW)
  have Rb := Lib.hid (hb.below bW)
  have Rf := Lib.hid (hf.below bW)
  have Rf2 := Lib.hid (hf2.below bW)
  have Rg := Lib.hid (hg.below bW)
  have Rg2 := Lib.hid (hg2.below bW)
  have OA := Lib.hid ha
  have OB := Lib.hid hb
  have OF := Lib.hid hf
  have OF2 := Lib.hid hf2
  have OG := Lib.hid hg
  have OG2 := Lib.hid hg2
  obtain ⟨e0, e1, e2, e3⟩ := (show Fr2 W.drew w.heap.size (.slice F f.length cf) (.slice F2 f2.length cf2) (.slice G g.length cg) (.slice G2 g2.length cg2) from xW).cells
  obtain ⟨E0, E1, _, _⟩ := (show Fr2 (W.alloc (.cells #[.slice none 0 0, .slice none 0 0] 54)).drew w.heap.size (.slice F f.length cf) (.slice F2 f2.length cf2) (.slice G g.length cg) (.slice G2 g2.length cg2) from xW.below (alloc_below _ _).drew).cells
  clear hW xW ha hb hf hf2 hg hg2
  go_enter Try.func6, Try.ntmps6
  go_wp2_with fail
  rw [← HW.out]
  go_region_held3 (fun w' => w'.cell? ⟨w.heap.size, 0, none⟩ = some (.slice F f.length cf) ∧ w'.cell? ⟨w.heap.size, 1, none⟩ = some (.slice F2 f2.length cf2)) ((first | exact ⟨m0, m1⟩ | exact ⟨l0, l1⟩ | exact ⟨e0, e1⟩ | exact ⟨E0, E1⟩ | (refine ⟨?_, ?_⟩ <;> (refine cell_kept ?_ ?_ <;> first | omega | assumption)) | go_keep)) (first
    | (go_at_call_of 34 F; go_loud (refine (twin_any F cf f _ rfl (by first | exact Rf.out.drew | exact (Rf.out.alloc _).drew)).mono ?_; rintro e w1 ⟨X, cx, rfl, hX, b1⟩; have K1 : Below w.heap.size w w1 := (by first | exact kD.trans (b1.mono kD.size) | exact (bW.alloc bW.size _).drew.trans (b1.mono (bW.alloc bW.size _).drew.size)); have XF1 : Fr2 w1 w.heap.size (.slice F f.length cf) (.slice F2 f2.length cf2) (.slice G g.length cg) (.slice G2 g2.length cg2) := (by first | exact Fr2.below (w := W.drew) XW.out b1 | exact Fr2.below (w := (W.alloc (.cells #[.slice none 0 0, .slice none 0 0] 54)).drew) (XW.out.below (alloc_below _ _).drew) b1); have NX1 := hX.1; obtain ⟨l0, l1, _, _⟩ := XF1.1.cells))
    | (go_at_call_of 34 F2; go_loud (refine (twin_any F2 cf2 f2 _ rfl (by first | exact OF2.out.below K1 | exact (OF2.out.below K1).alloc _)).mono ?_; rintro e w2 ⟨X2, cx2, rfl, hX2, b2⟩; have K2 : Below w.heap.size w w2 := (by first | exact K1.trans (b2.mono K1.size) | exact (K1.alloc K1.size _).trans (b2.mono (K1.alloc K1.size _).size)); have XF2 : Fr2 w2 w.heap.size (.slice F f.length cf) (.slice F2 f2.length cf2) (.slice G g.length cg) (.slice G2 g2.length cg2) := (by first | exact XF1.below b2 | exact (XF1.below (alloc_below _ _)).below b2); have NX2 : NR w2 X cx f := (by first | exact NX1.below b2 | exact (NX1.below (alloc_below _ _)).below b2); (first | have BZ : Bx w2 w1.heap.size (.slice none 0 0) (.slice none 0 0) := Bx.below (Bx.new w1 (.slice none 0 0) (.slice none 0 0)) b2 | have BZ : Bx w2 W.heap.size (.slice none 0 0) (.slice none 0 0) := Bx.below (Bx.below (w := (W.alloc (.cells #[.slice none 0 0, .slice none 0 0] 54)).drew) (Bx.new W (.slice none 0 0) (.slice none 0 0)) b1) b2 | have BZ := True.intro); (first | obtain ⟨r0, r1, g0, g1⟩ := BZ.cells | skip); have sz1 : w.heap.size + 1 < w1.heap.size := XF1.lt; have sz0 : w.heap.size + 1 < W.heap.size := XW.out.lt; obtain ⟨m0, m1, _, _⟩ := XF2.1.cells)))
  all_goals
    (first | (have chk : True := BZ; obtain ⟨gx, hgx⟩ : ∃ x, x = w2.heap.size := ⟨_, rfl⟩; obtain ⟨wB, hB⟩ : ∃ V : World, V = w2.alloc (.cells #[.slice X f.length cx, .slice X2 f2.length cx2] 54) := ⟨_, rfl⟩; have kB : Below w.heap.size w wB := (by rw [hB]; exact K2.alloc K2.size _); have xB : Fr2 wB w.heap.size (.slice F f.length cf) (.slice F2 f2.length cf2) (.slice G g.length cg) (.slice G2 g2.length cg2) := (by rw [hB]; exact XF2.below (alloc_below _ _)); have nX : NR wB X cx f := (by rw [hB]; exact NX2.below (alloc_below _ _)); have nX2 : NR wB X2 cx2 f2 := (by rw [hB]; exact hX2.1.below (alloc_below _ _)); have bX : Bx wB gx (.slice X f.length cx) (.slice X2 f2.length cx2) := (by rw [hB, hgx]; exact Bx.new _ _ _); have HB := Lib.hid hB; have HGX := Lib.hid hgx; clear hB hgx) | (have chk : Bx w2 w1.heap.size (.slice none 0 0) (.slice none 0 0) := BZ; obtain ⟨gx, hgx⟩ : ∃ x, x = w1.heap.size := ⟨_, rfl⟩; obtain ⟨wB, hB⟩ : ∃ V : World, V = (w2.setCell ⟨gx, 0, none⟩ (.slice X f.length cx)).setCell ⟨gx, 1, none⟩ (.slice X2 f2.length cx2) := ⟨_, rfl⟩; have KB : Below w1.heap.size w1 wB := (by rw [hB, hgx]; exact ((((alloc_below _ _).trans (b2.mono (by simp))).setCell (p := ⟨w1.heap.size, 0, none⟩) (Nat.le_refl _) _).setCell (p := ⟨w1.heap.size, 1, none⟩) (Nat.le_refl _) _)); have kB : Below w.heap.size w wB := K1.trans (KB.mono K1.size); have xB : Fr2 wB w.heap.size (.slice F f.length cf) (.slice F2 f2.length cf2) (.slice G g.length cg) (.slice G2 g2.length cg2) := XF1.below KB; have nX : NR wB X cx f := NX1.below KB; have nX2 : NR wB X2 cx2 f2 := (by rw [hB, hgx]; exact ((hX2.far (p := ⟨w1.heap.size, 0, none⟩) (by simp) _).far (p := ⟨w1.heap.size, 1, none⟩) (by simp) _).1); have bX : Bx wB gx (.slice X f.length cx) (.slice X2 f2.length cx2) := (by rw [hB, hgx]; exact Bx.store BZ _ _); have HB := Lib.hid hB; have HGX := Lib.hid hgx; clear hB hgx) | (have chk : Bx w2 W.heap.size (.slice none 0 0) (.slice none 0 0) := BZ; obtain ⟨gx, hgx⟩ : ∃ x, x = W.heap.size := ⟨_, rfl⟩; obtain ⟨wB, hB⟩ : ∃ V : World, V = (w2.setCell ⟨gx, 0, none⟩ (.slice X f.length cx)).setCell ⟨gx, 1, none⟩ (.slice X2 f2.length cx2) := ⟨_, rfl⟩; have sz2 : W.heap.size + 1 ≤ w1.heap.size := (by have := b1.size; have h : (W.alloc (.cells #[.slice none 0 0, .slice none 0 0] 54)).drew.heap.size = W.heap.size + 1 := (by simp [World.drew]); omega); have KB : Below W.heap.size W wB := (by rw [hB, hgx]; exact (((((alloc_below W _).drew.trans (b1.mono (by simp))).trans (b2.mono (Nat.le_trans (Nat.le_succ _) sz2))).setCell (p := ⟨W.heap.size, 0, none⟩) (Nat.le_refl _) _).setCell (p := ⟨W.heap.size, 1, none⟩) (Nat.le_refl _) _)); have kB : Below w.heap.size w wB := bW.trans (KB.mono bW.size); have xB : Fr2 wB w.heap.size (.slice F f.length cf) (.slice F2 f2.length cf2) (.slice G g.length cg) (.slice G2 g2.length cg2) := XW.out.below KB; have nX : NR wB X cx f := (by rw [hB, hgx]; exact (((hX.below b2).far (p := ⟨W.heap.size, 0, none⟩) (by simp [World.drew]) _).far (p := ⟨W.heap.size, 1, none⟩) (by simp [World.drew]) _).1); have nX2 : NR wB X2 cx2 f2 := (by rw [hB, hgx]; exact ((hX2.far (p := ⟨W.heap.size, 0, none⟩) (Nat.lt_of_succ_le sz2) _).far (p := ⟨W.heap.size, 1, none⟩) (Nat.lt_of_succ_le sz2) _).1); have bX : Bx wB gx (.slice X f.length cx) (.slice X2 f2.length cx2) := (by rw [hB, hgx]; exact Bx.store BZ _ _); have HB := Lib.hid hB; have HGX := Lib.hid hgx; clear hB hgx))
    have H : Hid (Six w wB A ca a Bd cb b F cf f F2 cf2 f2 G cg g G2 cg2 g2 X cx X2 cx2 gx) := ⟨OA.out.below kB, OB.out.below kB, OF.out.below kB, OF2.out.below kB, OG.out.below kB, OG2.out.below kB, nX, nX2, xB.1, xB.2, bX, kB⟩
    have hgl : gx < wB.heap.size := H.out.bx.lt
    obtain ⟨r, hr⟩ : ∃ r, ratS a b = r := ⟨_, rfl⟩
    have HR := Lib.hid hr
    clear hr kB xB nX nX2 bX hX hX2 b1 b2 e0 e1 e2 e3 E0 E1 BZ NX1 NX2 XF1 XF2
    try clear l0 l1
    try clear m0 m1
    try clear chk
    try clear KB
    try clear sz2
    try clear r0 r1 g0 g1
    go_wp2_with fail
    rw [← HGX.out, ← HB.out]
    refine (Ratio_any A ca a Bd cb b _ rfl rfl H.out.ra H.out.rb).mono ?_
    rintro e w3 ⟨v, rfl, hF⟩
    rw [HR.out] at hF ⊢
    obtain ⟨C, cc, C2, cc2, rfl, hC, hC2, hap, b3⟩ := hF
    have HC := Lib.hid hC.1
    have HC2 := Lib.hid hC2.1
    clear hC hC2 hap
    go_wp2_with fail
    obtain ⟨wC, hCw⟩ : ∃ V : World, V = w3.alloc (.cells #[.slice C r.1.1.length cc, .slice C2 r.1.2.length cc2] 54) := ⟨_, rfl⟩
    obtain ⟨gc, hgc⟩ : ∃ x, x = w3.heap.size := ⟨_, rfl⟩
    have HCw := Lib.hid hCw
    have HGC := Lib.hid hgc
    have kC : Below wB.heap.size wB wC := by rw [hCw]; exact b3.alloc b3.size _
    have bC : Hid (Bx wC gc (.slice C r.1.1.length cc) (.slice C2 r.1.2.length cc2)) := by rw [hCw, hgc]; exact Bx.new _ _ _
    have HC := Lib.hid (show NR wC C cc r.1.1 by rw [hCw]; exact HC.out.below (alloc_below _ _))
    have HC2 := Lib.hid (show NR wC C2 cc2 r.1.2 by rw [hCw]; exact HC2.out.below (alloc_below _ _))
    have gB : wB.heap.size ≤ gc := by have := b3.size; omega
    have gCl : gc < wC.heap.size := bC.out.lt
    clear hCw hgc b3
    rw [← HGC.out, ← HCw.out]
    refine (refRatio_any A ca a Bd cb b _ rfl rfl (H.out.step kC).ra (H.out.step kC).rb).mono ?_
    rintro e w4 ⟨v, rfl, hF⟩
    rw [HR.out] at hF ⊢
    obtain ⟨D, cd, D2, cd2, rfl, hD, hD2, hap, b4⟩ := hF
    have HD := Lib.hid hD.1
    have HD2 := Lib.hid hD2.1
    clear hD hD2 hap
    go_wp2_with fail
    obtain ⟨wD, hDw⟩ : ∃ V : World, V = w4.alloc (.cells #[.slice D r.1.1.length cd, .slice D2 r.1.2.length cd2] 54) := ⟨_, rfl⟩
    obtain ⟨gd, hgd⟩ : ∃ x, x = w4.heap.size := ⟨_, rfl⟩
    have HDw := Lib.hid hDw
    have HGD := Lib.hid hgd
    have kCD : Below wC.heap.size wC wD := by rw [hDw]; exact b4.alloc b4.size _
    have kD : Below wB.heap.size wB wD := kC.trans (kCD.mono kC.size)
    have bD : Hid (Bx wD gd (.slice D r.1.1.length cd) (.slice D2 r.1.2.length cd2)) := by rw [hDw, hgd]; exact Bx.new _ _ _
    have bC := Lib.hid (bC.out.below kCD)
    have HC := Lib.hid (HC.out.below kCD)
    have HC2 := Lib.hid (HC2.out.below kCD)
    have HD := Lib.hid (show NR wD D cd r.1.1 by rw [hDw]; exact HD.out.below (alloc_below _ _))
    have HD2 := Lib.hid (show NR wD D2 cd2 r.1.2 by rw [hDw]; exact HD2.out.below (alloc_below _ _))
    have gCD : gc < gd := by rw [hgd]; have := b4.size; have h : gc < wC.heap.size := gCl; omega
    have gD : gd < wD.heap.size := bD.out.lt
    clear hDw hgd b4 kCD kC
    rw [← HGD.out, ← HDw.out]
    have HK := Lib.hid (H.out.step kD)
    have X8 : Hid (Bx wD.drew gc _ _ ∧ Bx wD.drew gd _ _ ∧ Bx wD.drew gx _ _ ∧ Bx wD.drew w.heap.size _ _) := ⟨bC.out, bD.out, HK.out.bx, HK.out.bf⟩
    obtain ⟨e0, e1, e2, e3, e4, e5, e6, e7⟩ := cells8 X8.out.1 X8.out.2.1 X8.out.2.2.1 X8.out.2.2.2
    clear bC bD
    go_region_held3 (fun w' => w'.cell? ⟨gc, 0, none⟩ = some (.slice C r.1.1.length cc) ∧ w'.cell? ⟨gc, 1, none⟩ = some (.slice C2 r.1.2.length cc2) ∧ w'.cell? ⟨gd, 0, none⟩ = some (.slice D r.1.1.length cd) ∧ w'.cell? ⟨gd, 1, none⟩ = some (.slice D2 r.1.2.length cd2) ∧ w'.cell? ⟨gx, 0, none⟩ = some (.slice X f.length cx) ∧ w'.cell? ⟨gx, 1, none⟩ = some (.slice X2 f2.length cx2) ∧ w'.cell? ⟨w.heap.size, 0, none⟩ = some (.slice F f.length cf) ∧ w'.cell? ⟨w.heap.size, 1, none⟩ = some (.slice F2 f2.length cf2)) ((first | exact ⟨n0, n1, n2, n3, n4, n5, n6, n7⟩ | exact ⟨m0, m1, m2, m3, m4, m5, m6, m7⟩ | exact ⟨l0, l1, l2, l3, l4, l5, l6, l7⟩ | exact ⟨e0, e1, e2, e3, e4, e5, e6, e7⟩ | go_keep)) (first
      | (go_at_call 37; go_loud (refine (SameFraction_any C cc r.1.1 C2 cc2 r.1.2 D cd r.1.1 D2 cd2 r.1.2 _ rfl rfl rfl rfl HC.out.drew HC2.out.drew HD.out.drew HD2.out.drew).mono ?_; rintro e w5 ⟨rfl, b5⟩; rw [sameB_self, sameB_self]; obtain ⟨l0, l1, l2, l3, l4, l5, l6, l7⟩ := cells8 (Bx.below (X8.out.1) b5) (Bx.below (X8.out.2.1) b5) (Bx.below (X8.out.2.2.1) b5) (Bx.below (X8.out.2.2.2) b5)))
      | (go_at_call 38; go_loud (refine (CheckFraction_any X cx f X2 cx2 f2 _ rfl rfl ((HK.out.rx.drew).below b5) ((HK.out.rx2.drew).below b5)).mono ?_; rintro e w6 ⟨rfl, b6⟩; obtain ⟨m0, m1, m2, m3, m4, m5, m6, m7⟩ := cells8 (Bx.below (Bx.below (X8.out.1) b5) b6) (Bx.below (Bx.below (X8.out.2.1) b5) b6) (Bx.below (Bx.below (X8.out.2.2.1) b5) b6) (Bx.below (Bx.below (X8.out.2.2.2) b5) b6)))
      | (go_at_call 39; go_loud (refine (refCheckFraction_any F cf f F2 cf2 f2 _ rfl rfl (((HK.out.rf.drew).below b5).below b6) (((HK.out.rf2.drew).below b5).below b6)).mono ?_; rintro e w7 ⟨rfl, b7⟩; obtain ⟨n0, n1, n2, n3, n4, n5, n6, n7⟩ := cells8 (Bx.below (Bx.below (Bx.below (X8.out.1) b5) b6) b7) (Bx.below (Bx.below (Bx.below (X8.out.2.1) b5) b6) b7) (Bx.below (Bx.below (Bx.below (X8.out.2.2.1) b5) b6) b7) (Bx.below (Bx.below (Bx.below (X8.out.2.2.2) b5) b6) b7))))
    all_goals
      have k7 : Below wB.heap.size wB w7 := ((kD.drew.trans (b5.mono kD.size)).trans (b6.mono (Nat.le_trans kD.size b5.size))).trans (b7.mono (Nat.le_trans (Nat.le_trans kD.size b5.size) b6.size))
      have H7 := Lib.hid (H.out.step k7)
      have C7 := Lib.hid (Bx.below (Bx.below (Bx.below X8.out.1 b5) b6) b7)
      have D7 := Lib.hid (Bx.below (Bx.below (Bx.below X8.out.2.1 b5) b6) b7)
      clear b5 b6 b7 HK X8 HC HC2 HD HD2
      try clear l0 l1 l2 l3 l4 l5 l6 l7 m0 m1 m2 m3 m4 m5 m6 m7 n0 n1 n2 n3 n4 n5 n6 n7
      clear e0 e1 e2 e3 e4 e5 e6 e7
      obtain ⟨x0, x1, _, _⟩ := H7.out.bx.cells
      obtain ⟨y0, y1, _, _⟩ := H7.out.bg.cells
      generalize cfS f f2 = q
      go_wp2_with fail
      refine (CompareFractions_any X cx f X2 cx2 f2 G cg g G2 cg2 g2 _ rfl rfl rfl rfl H7.out.rx H7.out.rx2 H7.out.rg H7.out.rg2).mono ?_
      rintro e w8 ⟨rfl, b8⟩
      have H8 := Lib.hid (H7.out.step b8)
      have k8 := k7.trans (b8.mono k7.size)
      have C8 := Lib.hid (C7.out.below b8)
      have D8 := Lib.hid (D7.out.below b8)
      clear x0 x1 y0 y1 H7 C7 D7 b8
      obtain ⟨z0, z1, _, _⟩ := H8.out.bf.cells
      obtain ⟨y0, y1, _, _⟩ := H8.out.bg.cells
      go_wp2_with fail
      refine (refCompareFractions_any F cf f F2 cf2 f2 G cg g G2 cg2 g2 _ rfl rfl rfl rfl H8.out.rf H8.out.rf2 H8.out.rg H8.out.rg2).mono ?_
      rintro e w9 ⟨rfl, b9⟩
      have H9 := Lib.hid (H8.out.step b9)
      have k9 := k8.trans (b9.mono k8.size)
      have C9 := Lib.hid (C8.out.below b9)
      have D9 := Lib.hid (D8.out.below b9)
      clear z0 z1 y0 y1 H8 C8 D8 b9 k8 k7
      generalize cmpFS f f2 g g2 = cq
      have gN : gd < w9.heap.size := D9.out.lt
      obtain ⟨x0, x1, _, _⟩ := H9.out.bx.cells
      obtain ⟨y0, y1, _, _⟩ := H9.out.bg.cells
      obtain ⟨rAdd, hr⟩ : ∃ r, addFS f f2 g g2 = r := ⟨_, rfl⟩
      have HRAdd := Lib.hid hr
      clear hr
      go_wp2_with fail
      refine (AddFractions_any X cx f X2 cx2 f2 G cg g G2 cg2 g2 _ rfl rfl rfl rfl H9.out.rx H9.out.rx2 H9.out.rg H9.out.rg2).mono ?_
      rintro e wAdd1 ⟨v, rfl, hF⟩
      rw [HRAdd.out] at hF ⊢
      obtain ⟨C, cc, C2, cc2, rfl, hC, hC2, hap, b1⟩ := hF
      have HAP := Lib.hid hap
      have K1 : Hid (Cur wB wAdd1 gc gd _ _ _ _ (w9.heap.size) C cc rAdd.1.1 C2 cc2 rAdd.1.2) := ⟨C9.out.below b1, D9.out.below b1, k9.trans (b1.mono k9.size), hC, hC2⟩
      clear hC hC2 hap x0 x1 y0 y1 b1
      obtain ⟨c0, c1, c2, c3⟩ := K1.out.bc.cells
      have H1 := Lib.hid (H.out.step K1.out.k)
      obtain ⟨z0, z1, _, _⟩ := H1.out.bf.cells
      obtain ⟨y0, y1, _, _⟩ := H1.out.bg.cells
      have V1 := Lib.hid (K1.out.setC (Nat.lt_trans gCD gN) gCD gB (.slice C rAdd.1.1.length cc) (.slice C2 rAdd.1.2.length cc2))
      have J1 := Lib.hid (H.out.step V1.out.k)
      obtain ⟨p0, p1, _, _⟩ := J1.out.bf.cells
      obtain ⟨p2, p3, _, _⟩ := J1.out.bg.cells
      go_wp2_with fail
      refine (refAddFractions_any F cf f F2 cf2 f2 G cg g G2 cg2 g2 _ rfl rfl rfl rfl J1.out.rf J1.out.rf2 J1.out.rg J1.out.rg2).mono ?_
      rintro e wAdd2 ⟨v, rfl, hF⟩
      rw [HRAdd.out] at hF ⊢
      obtain ⟨D, cd, D2, cd2, rfl, hD, hD2, hap, b2⟩ := hF
      have K2 := Lib.hid (V1.out.step b2)
      have gsz : gd + 1 ≤ ((wAdd1.setCell ⟨gc, 0, none⟩ (.slice C rAdd.1.1.length cc)).setCell ⟨gc, 1, none⟩ (.slice C2 rAdd.1.2.length cc2)).heap.size := V1.out.bd.lt
      have HD := Lib.hid (hD.mono gsz)
      have HD2 := Lib.hid (hD2.mono gsz)
      clear gsz
      clear hD hD2 hap b2 K1 V1 J1 H1 p0 p1 p2 p3 c0 c1 c2 c3 z0 z1 y0 y1
      obtain ⟨c0, c1, _, _⟩ := K2.out.bc.cells
      obtain ⟨d0, d1, d2, d3⟩ := K2.out.bd.cells
      have V2 := Lib.hid (K2.out.setD gN gCD gB (.slice D rAdd.1.1.length cd) (.slice D2 rAdd.1.2.length cd2))
      have gDw : wB.heap.size ≤ gd := Nat.le_of_lt (Nat.lt_of_le_of_lt gB gCD)
      have ED := Lib.hid ((HD.out.far (p := ⟨gd, 0, none⟩) (Nat.lt_succ_self _) (.slice D rAdd.1.1.length cd)).far (p := ⟨gd, 1, none⟩) (Nat.lt_succ_self _) (.slice D2 rAdd.1.2.length cd2)).1
      have ED2 := Lib.hid ((HD2.out.far (p := ⟨gd, 0, none⟩) (Nat.lt_succ_self _) (.slice D rAdd.1.1.length cd)).far (p := ⟨gd, 1, none⟩) (Nat.lt_succ_self _) (.slice D2 rAdd.1.2.length cd2)).1
      obtain ⟨u0, u1, _, _⟩ := V2.out.bc.cells
      obtain ⟨s0, s1, _, _⟩ := V2.out.bd.cells
      go_wp2_with fail
      refine (SameFraction_any C cc rAdd.1.1 C2 cc2 rAdd.1.2 D cd rAdd.1.1 D2 cd2 rAdd.1.2 _ rfl rfl rfl rfl V2.out.n.1 V2.out.n2.1 ED.out ED2.out).mono ?_
      rintro e wAdd3 ⟨rfl, b3⟩
      rw [sameB_self, sameB_self]
      have K3 := Lib.hid (V2.out.step b3)
      clear b3 V2 K2 ED ED2 HD HD2 c0 c1 d0 d1 d2 d3 u0 u1 s0 s1
      obtain ⟨c0, c1, _, _⟩ := K3.out.bc.cells
      go_wp2_with fail
      refine (spoil_any (w9.heap.size) C cc rAdd.1.1 _ rfl K3.out.n).mono ?_
      rintro e wAdd34 ⟨⟨vv, rfl⟩, b4, ho⟩
      have gNc := Nat.lt_trans gCD gN
      have hs0 : wB.heap.size ≤ w9.heap.size := k9.size
      have k4 := K3.out.k.trans (b4.mono hs0)
      have C4 := Lib.hid (K3.out.bc.old gNc b4)
      have D4 := Lib.hid (K3.out.bd.old gN b4)
      have n4 := Lib.hid (K3.out.n2.onlyAt HAP.out ho K3.out.n.some)
      clear ho c0 c1 K3 b4
      obtain ⟨c0, c1, _, _⟩ := C4.out.cells
      go_wp2_with fail
      refine (spoil_any (w9.heap.size) C2 cc2 rAdd.1.2 _ rfl n4.out).mono ?_
      rintro e wAdd35 ⟨⟨vv, rfl⟩, b5, ho⟩
      have kAdd := k4.trans (b5.mono hs0)
      have CAdd := Lib.hid (C4.out.old gNc b5)
      have DAdd := Lib.hid (D4.out.old gN b5)
      clear ho c0 c1 C4 D4 n4 b5 k4 gN gNc hs0 HAP
      have HAdd := Lib.hid (H.out.step kAdd)
      have gN : gd < wAdd35.heap.size := DAdd.out.lt
      obtain ⟨x0, x1, _, _⟩ := HAdd.out.bx.cells
      obtain ⟨y0, y1, _, _⟩ := HAdd.out.bg.cells
      obtain ⟨rMul, hr⟩ : ∃ r, mulFS f f2 g g2 = r := ⟨_, rfl⟩
      have HRMul := Lib.hid hr
      clear hr
      go_wp2_with fail
      refine (MulFractions_any X cx f X2 cx2 f2 G cg g G2 cg2 g2 _ rfl rfl rfl rfl HAdd.out.rx HAdd.out.rx2 HAdd.out.rg HAdd.out.rg2).mono ?_
      rintro e wMul1 ⟨v, rfl, hF⟩
      rw [HRMul.out] at hF ⊢
      obtain ⟨C, cc, C2, cc2, rfl, hC, hC2, hap, b1⟩ := hF
      have HAP := Lib.hid hap
      have K1 : Hid (Cur wB wMul1 gc gd _ _ _ _ (wAdd35.heap.size) C cc rMul.1.1 C2 cc2 rMul.1.2) := ⟨CAdd.out.below b1, DAdd.out.below b1, kAdd.trans (b1.mono kAdd.size), hC, hC2⟩
      clear hC hC2 hap x0 x1 y0 y1 b1
      obtain ⟨c0, c1, c2, c3⟩ := K1.out.bc.cells
      have H1 := Lib.hid (H.out.step K1.out.k)
      obtain ⟨z0, z1, _, _⟩ := H1.out.bf.cells
      obtain ⟨y0, y1, _, _⟩ := H1.out.bg.cells
      have V1 := Lib.hid (K1.out.setC (Nat.lt_trans gCD gN) gCD gB (.slice C rMul.1.1.length cc) (.slice C2 rMul.1.2.length cc2))
      have J1 := Lib.hid (H.out.step V1.out.k)
      obtain ⟨p0, p1, _, _⟩ := J1.out.bf.cells
      obtain ⟨p2, p3, _, _⟩ := J1.out.bg.cells
      go_wp2_with fail
      refine (refMulFractions_any F cf f F2 cf2 f2 G cg g G2 cg2 g2 _ rfl rfl rfl rfl J1.out.rf J1.out.rf2 J1.out.rg J1.out.rg2).mono ?_
      rintro e wMul2 ⟨v, rfl, hF⟩
      rw [HRMul.out] at hF ⊢
      obtain ⟨D, cd, D2, cd2, rfl, hD, hD2, hap, b2⟩ := hF
      have K2 := Lib.hid (V1.out.step b2)
      have gsz : gd + 1 ≤ ((wMul1.setCell ⟨gc, 0, none⟩ (.slice C rMul.1.1.length cc)).setCell ⟨gc, 1, none⟩ (.slice C2 rMul.1.2.length cc2)).heap.size := V1.out.bd.lt
      have HD := Lib.hid (hD.mono gsz)
      have HD2 := Lib.hid (hD2.mono gsz)
      clear gsz
      clear hD hD2 hap b2 K1 V1 J1 H1 p0 p1 p2 p3 c0 c1 c2 c3 z0 z1 y0 y1
      obtain ⟨c0, c1, _, _⟩ := K2.out.bc.cells
      obtain ⟨d0, d1, d2, d3⟩ := K2.out.bd.cells
      have V2 := Lib.hid (K2.out.setD gN gCD gB (.slice D rMul.1.1.length cd) (.slice D2 rMul.1.2.length cd2))
      have gDw : wB.heap.size ≤ gd := Nat.le_of_lt (Nat.lt_of_le_of_lt gB gCD)
      have ED := Lib.hid ((HD.out.far (p := ⟨gd, 0, none⟩) (Nat.lt_succ_self _) (.slice D rMul.1.1.length cd)).far (p := ⟨gd, 1, none⟩) (Nat.lt_succ_self _) (.slice D2 rMul.1.2.length cd2)).1
      have ED2 := Lib.hid ((HD2.out.far (p := ⟨gd, 0, none⟩) (Nat.lt_succ_self _) (.slice D rMul.1.1.length cd)).far (p := ⟨gd, 1, none⟩) (Nat.lt_succ_self _) (.slice D2 rMul.1.2.length cd2)).1
      obtain ⟨u0, u1, _, _⟩ := V2.out.bc.cells
      obtain ⟨s0, s1, _, _⟩ := V2.out.bd.cells
      go_wp2_with fail
      refine (SameFraction_any C cc rMul.1.1 C2 cc2 rMul.1.2 D cd rMul.1.1 D2 cd2 rMul.1.2 _ rfl rfl rfl rfl V2.out.n.1 V2.out.n2.1 ED.out ED2.out).mono ?_
      rintro e wMul3 ⟨rfl, b3⟩
      rw [sameB_self, sameB_self]
      have K3 := Lib.hid (V2.out.step b3)
      clear b3 V2 K2 ED ED2 HD HD2 c0 c1 d0 d1 d2 d3 u0 u1 s0 s1
      obtain ⟨c0, c1, _, _⟩ := K3.out.bc.cells
      go_wp2_with fail
      refine (spoil_any (wAdd35.heap.size) C cc rMul.1.1 _ rfl K3.out.n).mono ?_
      rintro e wMul34 ⟨⟨vv, rfl⟩, b4, ho⟩
      have gNc := Nat.lt_trans gCD gN
      have hs0 : wB.heap.size ≤ wAdd35.heap.size := kAdd.size
      have k4 := K3.out.k.trans (b4.mono hs0)
      have C4 := Lib.hid (K3.out.bc.old gNc b4)
      have D4 := Lib.hid (K3.out.bd.old gN b4)
      have n4 := Lib.hid (K3.out.n2.onlyAt HAP.out ho K3.out.n.some)
      clear ho c0 c1 K3 b4
      obtain ⟨c0, c1, _, _⟩ := C4.out.cells
      go_wp2_with fail
      refine (spoil_any (wAdd35.heap.size) C2 cc2 rMul.1.2 _ rfl n4.out).mono ?_
      rintro e wMul35 ⟨⟨vv, rfl⟩, b5, ho⟩
      have kMul := k4.trans (b5.mono hs0)
      have CMul := Lib.hid (C4.out.old gNc b5)
      have DMul := Lib.hid (D4.out.old gN b5)
      clear ho c0 c1 C4 D4 n4 b5 k4 gN gNc hs0 HAP
      have HMul := Lib.hid (H.out.step kMul)
      have gN : gd < wMul35.heap.size := DMul.out.lt
      obtain ⟨x0, x1, _, _⟩ := HMul.out.bx.cells
      obtain ⟨z0, z1, _, _⟩ := HMul.out.bf.cells
      go_wp2_with fail
      refine (SameFraction_any X cx f X2 cx2 f2 F cf f F2 cf2 f2 _ rfl rfl rfl rfl HMul.out.rx HMul.out.rx2 HMul.out.rf HMul.out.rf2).mono ?_
      rintro e wz ⟨rfl, bz⟩
      rw [sameB_self, sameB_self]
      go_wp2_with fail
      go_ret
      exact ⟨rfl, (HMul.out.step bz).bel⟩
end Go.Proofs.Ytphaojdfeojpeaa
