/-
  The examples that every outright law asks first.
-/
import Derived.Test.YtphaojdfeojpeaaFracWalks
import Derived.Test.YtphaojdfeojpeaaParseWalks
import Derived.Test.YtphaojdfeojpeaaNumberModularWalk
import Derived.Test.YtphaojdfeojpeaaGroupWalks
import Derived.Deep.RegionHeld3
namespace Go.Proofs.Ytphaojdfeojpeaa
open Go.RowKit
set_option linter.unusedVariables false

theorem digs_one {x : Nat} (h0 : x ≠ 0) (h : x < 4294967296) : digs x = [x] := by
  rw [digs_pos h0, show x / 4294967296 = 0 from by omega, show x % 4294967296 = x from by omega]
  rfl
theorem digs_cons {x y : Nat} (h0 : x + 4294967296 * y ≠ 0) (h : x < 4294967296) : digs (x + 4294967296 * y) = x :: digs y := by
  rw [digs_pos h0, show (x + 4294967296 * y) / 4294967296 = y from by omega, show (x + 4294967296 * y) % 4294967296 = x from by omega]
theorem digs_01 : digs 4294967296 = [0, 1] := by
  have := digs_cons (x := 0) (y := 1) (by omega) (by omega)
  rw [digs_one (x := 1) (by omega) (by omega)] at this
  exact this
theorem digs_001 : digs 18446744073709551616 = [0, 0, 1] := by
  have := digs_cons (x := 0) (y := 4294967296) (by omega) (by omega)
  rw [digs_01] at this
  exact this
theorem digs_51 : digs 4294967301 = [5, 1] := by
  have := digs_cons (x := 5) (y := 1) (by omega) (by omega)
  rw [digs_one (x := 1) (by omega) (by omega)] at this
  exact this
theorem bothB_yes {a b : List Nat} (h1 : validB a = true) (h2 : validB b = true) : bothB a b = true := by unfold bothB; rw [h1, h2]; rfl
theorem validB_of {n : Nat} (h : (digs n).length ≤ 16) : validB (digs n) = true := by rw [validB_digs]; simpa using h
theorem addS_digs {x y : Nat} (h1 : (digs x).length ≤ 16) (h2 : (digs y).length ≤ 16) : addS (digs x) (digs y) = limS (x + y) := by rw [addS, bothB_yes (validB_of h1) (validB_of h2), if_pos rfl, val_digs, val_digs]
theorem mulS_digs {x y : Nat} (h1 : (digs x).length ≤ 16) (h2 : (digs y).length ≤ 16) : mulS (digs x) (digs y) = limS (x * y) := by rw [mulS, bothB_yes (validB_of h1) (validB_of h2), if_pos rfl, val_digs, val_digs]
theorem divS_digs {x y : Nat} (h1 : (digs x).length ≤ 16) (h2 : (digs y).length ≤ 16) (hy : y ≠ 0) : divS (digs x) (digs y) = (digs (x / y), digs (x % y), 0) := by rw [divS, bothB_yes (validB_of h1) (validB_of h2), if_pos rfl, if_neg (digs_ne hy), val_digs, val_digs]
theorem gcdS_digs {x y : Nat} (h1 : (digs x).length ≤ 16) (h2 : (digs y).length ≤ 16) : gcdS (digs x) (digs y) = (digs (gcdN x y), 0) := by rw [gcdS, bothB_yes (validB_of h1) (validB_of h2), if_pos rfl, val_digs, val_digs]
theorem ratS_digs {x y : Nat} (h1 : (digs x).length ≤ 16) (h2 : (digs y).length ≤ 16) (hy : y ≠ 0) : ratS (digs x) (digs y) = (lowS x y, 0) := by rw [ratS, bothB_yes (validB_of h1) (validB_of h2), if_pos rfl, if_neg (digs_ne hy), val_digs, val_digs]
theorem len_small {x : Nat} (h : x < 18446744073709551616) : (digs x).length ≤ 16 := Nat.le_trans (digs_len_le (k := 2) (by omega)) (by omega)

theorem al_add : addS (digs 4294967295) (digs 1) = ([0, 1], 0) := by rw [addS_digs (len_small (by omega)) (len_small (by omega)), show 4294967295 + 1 = 4294967296 from rfl, limS_yes (len_small (by omega)), digs_01]
theorem al_mul : mulS (digs 4294967296) (digs 4294967296) = ([0, 0, 1], 0) := by
  rw [mulS_digs (len_small (by omega)) (len_small (by omega)), show 4294967296 * 4294967296 = 18446744073709551616 from rfl, limS_yes (by rw [digs_001]; simp), digs_001]
theorem al_div : divS (digs 100) (digs 7) = ([14], [2], 0) := by rw [divS_digs (len_small (by omega)) (len_small (by omega)) (by omega), show 100 / 7 = 14 from rfl, show 100 % 7 = 2 from rfl, digs_one (x := 14) (by omega) (by omega), digs_one (x := 2) (by omega) (by omega)]
theorem al_gcd : gcdS (digs 12) (digs 18) = ([6], 0) := by rw [gcdS_digs (len_small (by omega)) (len_small (by omega)), show gcdN 12 18 = 6 from rfl, digs_one (x := 6) (by omega) (by omega)]
theorem al_rat : ratS (digs 6) (digs 4) = (([3], [2]), 0) := by rw [ratS_digs (len_small (by omega)) (len_small (by omega)) (by omega), lowS, show gcdN 6 4 = 2 from rfl, show 6 / 2 = 3 from rfl, show 4 / 2 = 2 from rfl, digs_one (x := 3) (by omega) (by omega), digs_one (x := 2) (by omega) (by omega)]
/-- The text of 2^64. -/
def bigT : List UInt8 := [49, 56, 52, 52, 54, 55, 52, 52, 48, 55, 51, 55, 48, 57, 53, 53, 49, 54, 49, 54]
theorem al_txt : txtS [0, 0, 1] = (strB bigT, 0) := by
  have e : val [0, 0, 1] = 18446744073709551616 := rfl
  have hv : validB [0, 0, 1] = true := by decide
  rw [txtS, hv, if_pos rfl, e]
  have h : (decR 18446744073709551616).reverse = bigT := by
    rw [decR_big (by omega)]
    simp only [show 18446744073709551616 / 10 = 1844674407370955161 from rfl]
    iterate 18 (rw [decR_big (by omega)]; simp only [Nat.reduceDiv])
    rw [decR_small (by omega)]
    decide
  rw [h]
theorem al_parse : parseS bigT = ([0, 0, 1], 0) := by
  have hf : formB bigT = true := by decide
  have hv : decV bigT = 18446744073709551616 := by decide
  rw [parseS, hf, if_pos rfl, hv, limS_yes (by rw [digs_001]; simp), digs_001]
theorem al_pow : powm 3 4 7 = 4 := rfl
theorem al_inv : invV 3 7 = .tuple #[.int .u64 5, .int .i64 0] := by
  have h : Nat.gcd 3 7 = 1 := rfl
  rw [invV, if_pos h, ← inv_is (a := 3) (m := 7) (x := 5) (by omega) rfl]
  rfl
theorem al_prime : primeB 2 = true := by decide +kernel
theorem al_grp : grpE 23 11 2 = 0 := grpE_yes (by decide +kernel)
theorem al_grp2 : grpE 23 11 5 = 13 := grpE_no (by decide +kernel)
theorem strB_of (l : List UInt8) : (strB l).toList = l := by rw [ByteArray.toList_eq]; rfl

/-- A block made of some digits. -/
theorem NR.lit (w : World) (l : List Nat) (cs : Array Value) (hc : cs = cellsN l) (hd : Dig l) (n : Nat) (hn : l.length = n) (hs : n ≤ 1000) : NR (w.alloc (.cells cs 85)) (some ⟨w.heap.size, 0, none⟩) n l := by
  subst hc hn
  have : BlkN (w.alloc (.cells (cellsN l) 85)) w.heap.size l := ⟨heap_alloc_new _ _, hd⟩
  exact (this.nf (B := 0) (Nat.zero_le _) (Nat.le_refl _) (by omega) (by omega)).1
theorem dig_small {l : List Nat} (h : l.all (fun x => decide (x < 4294967296)) = true) : Dig l := fun x hx => by
  have := List.all_eq_true.1 h x hx
  simpa using this

set_option maxHeartbeats 400000 in
theorem n_any (x : Nat) (w : World) {X : Int} (hX : X = x) (h : x < 18446744073709551616) :
    Calls Try.prog 64 #[.int .u64 X] w fun e w' => ∃ A' c', e = .returned (.slice A' (digs x).length c') ∧ NF w.heap.size w' A' c' (digs x) ∧ Below w.heap.size w w' := by
  subst hX
  have H := Lib.hid h
  clear h
  go_enter Try.func64, Try.ntmps64
  go_wp2_with fail
  refine (refOf_any x _ H.out).mono ?_
  rintro e w1 ⟨A', c', rfl, h1, h2⟩
  go_wp2_with fail
  go_ret
  exact ⟨A', c', rfl, h1, h2⟩
set_option maxHeartbeats 1000000 in
theorem fraction_any (x y : Nat) (w : World) {X Y : Int} (hX : X = x) (hY : Y = y) (hx : x < 18446744073709551616) (hy : y < 18446744073709551616) :
    Calls Try.prog 67 #[.int .u64 X, .int .u64 Y] w fun e w' => ∃ v, e = .returned v ∧ FracNew w w' v (digs x, digs y) := by
  subst hX hY
  have H1 := Lib.hid hx
  have H2 := Lib.hid hy
  have b0 := alloc_below w (.cells #[.slice none 0 0, .slice none 0 0] 54)
  have x0 := Bx.new w (.slice none 0 0) (.slice none 0 0)
  have HX0 := Lib.hid x0
  clear hx hy x0
  go_enter Try.func67, Try.ntmps67
  go_wp2_with fail
  refine (n_any x _ rfl H1.out).mono ?_
  rintro e w1 ⟨X, c, rfl, hX, b1⟩
  go_wp2_with fail
  refine (n_any y _ rfl H2.out).mono ?_
  rintro e w2 ⟨Y, d, rfl, hY, b2⟩
  have z1 : w.heap.size + 1 ≤ w1.heap.size := by have := b1.size; simpa using this
  have HXN : Hid (NF (w.heap.size + 1) w2 X c (digs x)) := (hX.below b2).mono (by simp)
  have HYN : Hid (NF (w.heap.size + 1) w2 Y d (digs y)) := hY.mono z1
  have HAP : Hid (Apart X (digs x) Y (digs y)) := fun n1 n2 g1 o1 g2 o2 x1 x2 => by
    obtain ⟨b1', o1', e1', h1', _⟩ := hX.1.2.2.2 n1
    obtain ⟨b2', o2', e2', h2', _⟩ := hY.2 n2
    rw [x1] at e1'
    rw [x2] at e2'
    injection e1' with e1'
    injection e1' with e1'
    injection e2' with e2'
    injection e2' with e2'
    omega
  have k1 := b0.trans (b1.mono b0.size)
  have k2 := k1.trans (b2.mono k1.size)
  obtain ⟨c0, c1, f0, f1⟩ := ((HX0.out.below b1).below b2).cells
  clear hX hY b0 b1 b2 k1 z1
  go_wp2_with fail
  exact bodyPost_ret (v := .agg #[.slice X (digs x).length c, .slice Y (digs y).length d]) (by simp [results, Try.f67, go_sem, c0, c1]) rfl ⟨_, rfl, fracNew_store HXN.out HYN.out HAP.out (Nat.le_refl _) k2 _ _⟩
/-- Whether a call returned a number with these digits. -/
def isB (a : List Nat) (e : Int) (b : List Nat) : Bool := decide (e = 0) && sameB a b
set_option maxHeartbeats 400000 in
theorem is_any (A : Option Addr) (ca : Nat) (a : List Nat) (e : Int) (Bd : Option Addr) (cb : Nat) (b : List Nat) (w : World) {na nb : Nat} (hna : a.length = na) (hnb : b.length = nb) (ha : NR w A ca a) (hb : NR w Bd cb b) :
    Calls Try.prog 63 #[.slice A na ca, .int .i64 e, .slice Bd nb cb] w fun e' w' => e' = .returned (.bool (isB a e b)) ∧ Below w.heap.size w w' := by
  have Ha := Lib.hid hna
  have Hb := Lib.hid hnb
  have Ra := Lib.hid ha
  have Rb := Lib.hid hb
  by_cases h : e = 0
  · have t1 : (e == 0) = true := by simpa using h
    have HS : Hid (isB a e b = sameB a b) := by unfold Hid isB; rw [h]; rfl
    have H := Lib.hid h
    clear hna hnb ha hb h
    go_enter Try.func63, Try.ntmps63
    go_wp2_with fail
    refine (Same_any A ca a Bd cb b _ Ha.out Hb.out Ra.out Rb.out).mono ?_
    rintro e w1 ⟨rfl, b1⟩
    go_wp2_with fail
    go_ret
    exact ⟨ret_bool HS.out.symm, b1⟩
  · have t1 : (e == 0) = false := by simpa using h
    have HS : Hid (isB a e b = false) := by unfold Hid isB; simp [h]
    have H := Lib.hid h
    clear hna hnb ha hb h
    go_enter Try.func63, Try.ntmps63
    go_wp2_with fail
    go_ret
    exact ⟨ret_bool HS.out.symm, Below.refl _ _⟩
theorem isB_yes (a : List Nat) : isB a 0 a = true := by simp [isB, sameB]

set_option maxHeartbeats 2000000 in
set_option maxRecDepth 100000 in
theorem alive_any (w : World) : Calls Try.prog 61 #[] w fun e w' => e = .returned (.bool true) ∧ Below w.heap.size w w' := by
  have k : Below w.heap.size w w := Below.refl _ _
  go_enter Try.func61, Try.ntmps61
  go_wp2_with fail
  refine (n_any 4294967295 _ rfl (by omega)).mono ?_
  rintro e w1 ⟨N1, cn1, rfl, hn, b1⟩
  replace k := k.trans (b1.mono k.size)
  have HN1 := Lib.hid (hn.1)
  clear b1
  go_wp2_with fail
  refine (n_any 1 _ rfl (by omega)).mono ?_
  rintro e w2 ⟨N2, cn2, rfl, hn, b2⟩
  replace HN1 := Lib.hid (HN1.out.below b2)
  replace k := k.trans (b2.mono k.size)
  have HN2 := Lib.hid (hn.1)
  clear b2
  go_wp2_with fail
  refine (Add_any N1 cn1 (digs 4294967295) N2 cn2 (digs 1) _ rfl rfl HN1.out HN2.out).mono ?_
  rintro e w3 ⟨R3, cr3, rfl, hr, b3⟩
  replace HN1 := Lib.hid (HN1.out.below b3)
  replace HN2 := Lib.hid (HN2.out.below b3)
  replace k := k.trans (b3.mono k.size)
  rw [al_add] at hr ⊢
  have HR3 : Hid (NR w3 R3 cr3 [0, 1]) := hr.1
  clear b3
  go_wp2_with fail
  refine (n_any 4294967296 _ rfl (by omega)).mono ?_
  rintro e w4 ⟨N4, cn4, rfl, hn, b4⟩
  replace HN1 := Lib.hid (HN1.out.below b4)
  replace HN2 := Lib.hid (HN2.out.below b4)
  replace HR3 := Lib.hid (HR3.out.below b4)
  replace k := k.trans (b4.mono k.size)
  have HN4 := Lib.hid (hn.1)
  clear b4
  go_wp2_with fail
  refine (n_any 4294967296 _ rfl (by omega)).mono ?_
  rintro e w5 ⟨N5, cn5, rfl, hn, b5⟩
  replace HN1 := Lib.hid (HN1.out.below b5)
  replace HN2 := Lib.hid (HN2.out.below b5)
  replace HR3 := Lib.hid (HR3.out.below b5)
  replace HN4 := Lib.hid (HN4.out.below b5)
  replace k := k.trans (b5.mono k.size)
  have HN5 := Lib.hid (hn.1)
  clear b5
  go_wp2_with fail
  refine (Mul_any N4 cn4 (digs 4294967296) N5 cn5 (digs 4294967296) _ rfl rfl HN4.out HN5.out).mono ?_
  rintro e w6 ⟨R6, cr6, rfl, hr, b6⟩
  replace HN1 := Lib.hid (HN1.out.below b6)
  replace HN2 := Lib.hid (HN2.out.below b6)
  replace HR3 := Lib.hid (HR3.out.below b6)
  replace HN4 := Lib.hid (HN4.out.below b6)
  replace HN5 := Lib.hid (HN5.out.below b6)
  replace k := k.trans (b6.mono k.size)
  rw [al_mul] at hr ⊢
  have HR6 : Hid (NR w6 R6 cr6 [0, 0, 1]) := hr.1
  clear b6
  go_wp2_with fail
  refine (n_any 100 _ rfl (by omega)).mono ?_
  rintro e w7 ⟨N7, cn7, rfl, hn, b7⟩
  replace HN1 := Lib.hid (HN1.out.below b7)
  replace HN2 := Lib.hid (HN2.out.below b7)
  replace HR3 := Lib.hid (HR3.out.below b7)
  replace HN4 := Lib.hid (HN4.out.below b7)
  replace HN5 := Lib.hid (HN5.out.below b7)
  replace HR6 := Lib.hid (HR6.out.below b7)
  replace k := k.trans (b7.mono k.size)
  have HN7 := Lib.hid (hn.1)
  clear b7
  go_wp2_with fail
  refine (n_any 7 _ rfl (by omega)).mono ?_
  rintro e w8 ⟨N8, cn8, rfl, hn, b8⟩
  replace HN1 := Lib.hid (HN1.out.below b8)
  replace HN2 := Lib.hid (HN2.out.below b8)
  replace HR3 := Lib.hid (HR3.out.below b8)
  replace HN4 := Lib.hid (HN4.out.below b8)
  replace HN5 := Lib.hid (HN5.out.below b8)
  replace HR6 := Lib.hid (HR6.out.below b8)
  replace HN7 := Lib.hid (HN7.out.below b8)
  replace k := k.trans (b8.mono k.size)
  have HN8 := Lib.hid (hn.1)
  clear b8
  go_wp2_with fail
  refine (Div_any N7 cn7 (digs 100) N8 cn8 (digs 7) _ rfl rfl HN7.out HN8.out).mono ?_
  rintro e w9 ⟨Q9, cq9, R9, cr9, rfl, hq, hr, hap, b9⟩
  replace HN1 := Lib.hid (HN1.out.below b9)
  replace HN2 := Lib.hid (HN2.out.below b9)
  replace HR3 := Lib.hid (HR3.out.below b9)
  replace HN4 := Lib.hid (HN4.out.below b9)
  replace HN5 := Lib.hid (HN5.out.below b9)
  replace HR6 := Lib.hid (HR6.out.below b9)
  replace HN7 := Lib.hid (HN7.out.below b9)
  replace HN8 := Lib.hid (HN8.out.below b9)
  replace k := k.trans (b9.mono k.size)
  rw [al_div] at hq hr hap ⊢
  have HQ9 : Hid (NR w9 Q9 cq9 [14]) := hq.1
  have HR9 : Hid (NR w9 R9 cr9 [2]) := hr.1
  clear b9
  go_wp2_with fail
  refine (n_any 12 _ rfl (by omega)).mono ?_
  rintro e w10 ⟨N10, cn10, rfl, hn, b10⟩
  replace HN1 := Lib.hid (HN1.out.below b10)
  replace HN2 := Lib.hid (HN2.out.below b10)
  replace HR3 := Lib.hid (HR3.out.below b10)
  replace HN4 := Lib.hid (HN4.out.below b10)
  replace HN5 := Lib.hid (HN5.out.below b10)
  replace HR6 := Lib.hid (HR6.out.below b10)
  replace HN7 := Lib.hid (HN7.out.below b10)
  replace HN8 := Lib.hid (HN8.out.below b10)
  replace HQ9 := Lib.hid (HQ9.out.below b10)
  replace HR9 := Lib.hid (HR9.out.below b10)
  replace k := k.trans (b10.mono k.size)
  have HN10 := Lib.hid (hn.1)
  clear b10
  go_wp2_with fail
  refine (n_any 18 _ rfl (by omega)).mono ?_
  rintro e w11 ⟨N11, cn11, rfl, hn, b11⟩
  replace HN1 := Lib.hid (HN1.out.below b11)
  replace HN2 := Lib.hid (HN2.out.below b11)
  replace HR3 := Lib.hid (HR3.out.below b11)
  replace HN4 := Lib.hid (HN4.out.below b11)
  replace HN5 := Lib.hid (HN5.out.below b11)
  replace HR6 := Lib.hid (HR6.out.below b11)
  replace HN7 := Lib.hid (HN7.out.below b11)
  replace HN8 := Lib.hid (HN8.out.below b11)
  replace HQ9 := Lib.hid (HQ9.out.below b11)
  replace HR9 := Lib.hid (HR9.out.below b11)
  replace HN10 := Lib.hid (HN10.out.below b11)
  replace k := k.trans (b11.mono k.size)
  have HN11 := Lib.hid (hn.1)
  clear b11
  go_wp2_with fail
  refine (Gcd_any N10 cn10 (digs 12) N11 cn11 (digs 18) _ rfl rfl HN10.out HN11.out).mono ?_
  rintro e w12 ⟨R12, cr12, rfl, hr, b12⟩
  replace HN1 := Lib.hid (HN1.out.below b12)
  replace HN2 := Lib.hid (HN2.out.below b12)
  replace HR3 := Lib.hid (HR3.out.below b12)
  replace HN4 := Lib.hid (HN4.out.below b12)
  replace HN5 := Lib.hid (HN5.out.below b12)
  replace HR6 := Lib.hid (HR6.out.below b12)
  replace HN7 := Lib.hid (HN7.out.below b12)
  replace HN8 := Lib.hid (HN8.out.below b12)
  replace HQ9 := Lib.hid (HQ9.out.below b12)
  replace HR9 := Lib.hid (HR9.out.below b12)
  replace HN10 := Lib.hid (HN10.out.below b12)
  replace HN11 := Lib.hid (HN11.out.below b12)
  replace k := k.trans (b12.mono k.size)
  rw [al_gcd] at hr ⊢
  have HR12 : Hid (NR w12 R12 cr12 [6]) := hr.1
  clear b12
  go_wp2_with fail
  clear HN1
  clear HN2
  clear HN4
  clear HN5
  clear HN7
  clear HN8
  clear HN10
  clear HN11
  refine (is_any R3 cr3 [0, 1] 0 _ 2 [0, 1] _ rfl rfl (HR3.out.alloc _) (NR.lit _ [0, 1] _ rfl (dig_small (by decide)) 2 rfl (by omega))).mono ?_
  rintro e w13 ⟨rfl, b13⟩
  rw [isB_yes]
  replace HR3 := Lib.hid ((HR3.out.alloc _).below b13)
  replace HR6 := Lib.hid ((HR6.out.alloc _).below b13)
  replace HQ9 := Lib.hid ((HQ9.out.alloc _).below b13)
  replace HR9 := Lib.hid ((HR9.out.alloc _).below b13)
  replace HR12 := Lib.hid ((HR12.out.alloc _).below b13)
  replace k := (k.alloc k.size _).trans (b13.mono (by have := k.size; simp; omega))
  clear b13
  go_wp2_with fail
  refine (is_any R6 cr6 [0, 0, 1] 0 _ 3 [0, 0, 1] _ rfl rfl (HR6.out.alloc _) (NR.lit _ [0, 0, 1] _ rfl (dig_small (by decide)) 3 rfl (by omega))).mono ?_
  rintro e w14 ⟨rfl, b14⟩
  rw [isB_yes]
  replace HR3 := Lib.hid ((HR3.out.alloc _).below b14)
  replace HR6 := Lib.hid ((HR6.out.alloc _).below b14)
  replace HQ9 := Lib.hid ((HQ9.out.alloc _).below b14)
  replace HR9 := Lib.hid ((HR9.out.alloc _).below b14)
  replace HR12 := Lib.hid ((HR12.out.alloc _).below b14)
  replace k := (k.alloc k.size _).trans (b14.mono (by have := k.size; simp; omega))
  clear b14
  go_wp2_with fail
  refine (is_any Q9 cq9 [14] 0 _ 1 [14] _ rfl rfl (HQ9.out.alloc _) (NR.lit _ [14] _ rfl (dig_small (by decide)) 1 rfl (by omega))).mono ?_
  rintro e w15 ⟨rfl, b15⟩
  rw [isB_yes]
  replace HR3 := Lib.hid ((HR3.out.alloc _).below b15)
  replace HR6 := Lib.hid ((HR6.out.alloc _).below b15)
  replace HQ9 := Lib.hid ((HQ9.out.alloc _).below b15)
  replace HR9 := Lib.hid ((HR9.out.alloc _).below b15)
  replace HR12 := Lib.hid ((HR12.out.alloc _).below b15)
  replace k := (k.alloc k.size _).trans (b15.mono (by have := k.size; simp; omega))
  clear b15
  go_wp2_with fail
  refine (is_any R9 cr9 [2] 0 _ 1 [2] _ rfl rfl (HR9.out.alloc _) (NR.lit _ [2] _ rfl (dig_small (by decide)) 1 rfl (by omega))).mono ?_
  rintro e w16 ⟨rfl, b16⟩
  rw [isB_yes]
  replace HR3 := Lib.hid ((HR3.out.alloc _).below b16)
  replace HR6 := Lib.hid ((HR6.out.alloc _).below b16)
  replace HQ9 := Lib.hid ((HQ9.out.alloc _).below b16)
  replace HR9 := Lib.hid ((HR9.out.alloc _).below b16)
  replace HR12 := Lib.hid ((HR12.out.alloc _).below b16)
  replace k := (k.alloc k.size _).trans (b16.mono (by have := k.size; simp; omega))
  clear b16
  go_wp2_with fail
  refine (is_any R12 cr12 [6] 0 _ 1 [6] _ rfl rfl (HR12.out.alloc _) (NR.lit _ [6] _ rfl (dig_small (by decide)) 1 rfl (by omega))).mono ?_
  rintro e w17 ⟨rfl, b17⟩
  rw [isB_yes]
  replace HR3 := Lib.hid ((HR3.out.alloc _).below b17)
  replace HR6 := Lib.hid ((HR6.out.alloc _).below b17)
  replace HQ9 := Lib.hid ((HQ9.out.alloc _).below b17)
  replace HR9 := Lib.hid ((HR9.out.alloc _).below b17)
  replace HR12 := Lib.hid ((HR12.out.alloc _).below b17)
  replace k := (k.alloc k.size _).trans (b17.mono (by have := k.size; simp; omega))
  clear b17
  go_wp2_with fail
  refine (Of_any 4294967301 _ (by omega)).mono ?_
  rintro e w18 ⟨O18, co18, rfl, ho, b18⟩
  replace HR3 := Lib.hid (HR3.out.below b18)
  replace HR6 := Lib.hid (HR6.out.below b18)
  replace HQ9 := Lib.hid (HQ9.out.below b18)
  replace HR9 := Lib.hid (HR9.out.below b18)
  replace HR12 := Lib.hid (HR12.out.below b18)
  replace k := k.trans (b18.mono k.size)
  rw [digs_51] at ho ⊢
  have HO18 : Hid (NR w18 O18 co18 [5, 1]) := ho.1
  clear b18
  go_wp2_with fail
  refine (is_any O18 co18 [5, 1] 0 _ 2 [5, 1] _ rfl rfl (HO18.out.alloc _) (NR.lit _ [5, 1] _ rfl (dig_small (by decide)) 2 rfl (by omega))).mono ?_
  rintro e w19 ⟨rfl, b19⟩
  rw [isB_yes]
  replace HR3 := Lib.hid ((HR3.out.alloc _).below b19)
  replace HR6 := Lib.hid ((HR6.out.alloc _).below b19)
  replace HQ9 := Lib.hid ((HQ9.out.alloc _).below b19)
  replace HR9 := Lib.hid ((HR9.out.alloc _).below b19)
  replace HR12 := Lib.hid ((HR12.out.alloc _).below b19)
  replace HO18 := Lib.hid ((HO18.out.alloc _).below b19)
  replace k := (k.alloc k.size _).trans (b19.mono (by have := k.size; simp; omega))
  clear b19
  go_wp2_with fail
  clear HR3
  clear HQ9
  clear HR9
  clear HR12
  clear HO18
  refine (Text_any R6 cr6 [0, 0, 1] _ rfl HR6.out).mono ?_
  rintro e w20 ⟨rfl, b20⟩
  replace HR6 := Lib.hid (HR6.out.below b20)
  replace k := k.trans (b20.mono k.size)
  rw [al_txt]
  clear b20
  go_wp2_with fail
  refine (Parse_any (strB bigT) bigT (strB_of _) _ (by rw [strB_size]; decide)).mono ?_
  rintro e w21 ⟨P21, cp21, rfl, hp, b21⟩
  clear HR6
  replace k := k.trans (b21.mono k.size)
  rw [al_parse] at hp ⊢
  have HP : Hid (NR w21 P21 cp21 [0, 0, 1]) := hp.1
  clear b21
  go_wp2_with fail
  refine (n_any 6 _ rfl (by omega)).mono ?_
  rintro e w22 ⟨N22, cn22, rfl, hn, b22⟩
  replace HP := Lib.hid (HP.out.below b22)
  replace k := k.trans (b22.mono k.size)
  have HN22 := Lib.hid (hn.1)
  clear b22
  go_wp2_with fail
  refine (n_any 4 _ rfl (by omega)).mono ?_
  rintro e w23 ⟨N23, cn23, rfl, hn, b23⟩
  replace HP := Lib.hid (HP.out.below b23)
  replace HN22 := Lib.hid (HN22.out.below b23)
  replace k := k.trans (b23.mono k.size)
  have HN23 := Lib.hid (hn.1)
  clear b23
  go_wp2_with fail
  refine (Ratio_any N22 cn22 (digs 6) N23 cn23 (digs 4) _ rfl rfl HN22.out HN23.out).mono ?_
  rintro e w24 ⟨v, rfl, X, cx, Y, cy, rfl, hX, hY, hap, b24⟩
  clear HN22
  clear HN23
  replace HP := Lib.hid (HP.out.below b24)
  replace k := k.trans (b24.mono k.size)
  rw [al_rat] at hX hY hap ⊢
  have HX : Hid (NR w24 X cx [3]) := hX.1
  have HY : Hid (NR w24 Y cy [2]) := hY.1
  clear b24
  clear hX hY hap hp hn hr hq ho
  go_wp2_with fail
  have BX := Lib.hid (Bx.new w24 (.slice X 1 cx) (.slice Y 1 cy))
  have z24 : w24.heap.size < (w24.alloc (.cells #[.slice X 1 cx, .slice Y 1 cy] 54)).heap.size := by simp
  replace HP := Lib.hid (HP.out.alloc (.cells #[.slice X 1 cx, .slice Y 1 cy] 54))
  replace HX := Lib.hid (HX.out.alloc (.cells #[.slice X 1 cx, .slice Y 1 cy] 54))
  replace HY := Lib.hid (HY.out.alloc (.cells #[.slice X 1 cx, .slice Y 1 cy] 54))
  replace k := k.alloc k.size (.cells #[.slice X 1 cx, .slice Y 1 cy] 54)
  refine (PowMod_yes 3 4 7 (by omega) (by omega) (by omega) (by omega) _).mono ?_
  rintro e w25 ⟨rfl, rfl⟩
  rw [al_pow]
  go_wp2_with fail
  refine (InvMod_any 3 7 (by omega) (by omega) (by omega) _).mono ?_
  rintro e w26 ⟨rfl, hq26⟩
  rw [al_inv]
  have b26 := hq26.below (B := (w24.alloc (.cells #[.slice X 1 cx, .slice Y 1 cy] 54)).heap.size)
  replace HP := Lib.hid (HP.out.below b26)
  replace HX := Lib.hid (HX.out.below b26)
  replace HY := Lib.hid (HY.out.below b26)
  replace BX := Lib.hid (BX.out.below b26)
  replace k := k.trans (b26.mono k.size)
  clear b26 hq26 z24
  have hst : (strB bigT).toList = bigT := strB_of _
  have kD := k.drew
  go_wp2_with fail
  obtain ⟨d0, d1, _, _⟩ := (show Bx w26.drew w24.heap.size (.slice X 1 cx) (.slice Y 1 cy) from BX.out).cells
  obtain ⟨a0, a1, _, _⟩ := (Bx.below (w := w26.drew) BX.out (alloc_below w26.drew (.cells #[.int .u32 0, .int .u32 0, .int .u32 1] 85))).cells
  go_region_held3 (fun w' => w'.cell? ⟨w24.heap.size, 0, none⟩ = some (.slice X 1 cx) ∧ w'.cell? ⟨w24.heap.size, 1, none⟩ = some (.slice Y 1 cy)) ((first | exact ⟨l0, l1⟩ | exact ⟨j0, j1⟩ | exact ⟨i0, i1⟩ | exact ⟨a0, a1⟩ | exact ⟨d0, d1⟩)) (first
    | (go_at_call 63; go_loud (refine (is_any P21 cp21 [0, 0, 1] 0 _ 3 [0, 0, 1] _ rfl rfl (HP.out.drew.alloc _) (NR.lit _ [0, 0, 1] _ rfl (dig_small (by decide)) 3 rfl (by omega))).mono ?_; rintro e wI ⟨rfl, bI⟩; rw [isB_yes]; obtain ⟨i0, i1, _, _⟩ := (Bx.below (w := w26.drew.alloc (.cells #[.int .u32 0, .int .u32 0, .int .u32 1] 85)) (Bx.below (w := w26.drew) BX.out (alloc_below _ _)) bI).cells))
    | (go_at_call 67; go_loud (refine (fraction_any 3 2 _ rfl rfl (by omega) (by omega)).mono ?_; rintro e wF ⟨vF, rfl, F, cF, F2, cF2, rfl, hF, hF2, hapF, bF⟩; obtain ⟨j0, j1, _, _⟩ := (Bx.below (Bx.below (w := w26.drew.alloc (.cells #[.int .u32 0, .int .u32 0, .int .u32 1] 85)) (Bx.below (w := w26.drew) BX.out (alloc_below _ _)) bI) bF).cells))
    | (go_at_call 37; go_loud (refine (SameFraction_any X cx [3] Y cy [2] F cF (digs 3) F2 cF2 (digs 2) _ rfl rfl rfl rfl (((HX.out.drew.alloc _).below bI).below bF) (((HY.out.drew.alloc _).below bI).below bF) hF.1 hF2.1).mono ?_; rintro e wS ⟨rfl, bS⟩; rw [show (sameB [3] (digs 3) && sameB [2] (digs 2)) = true from by rw [digs_one (x := 3) (by omega) (by omega), digs_one (x := 2) (by omega) (by omega)]; decide]; obtain ⟨l0, l1, _, _⟩ := (Bx.below (Bx.below (Bx.below (w := w26.drew.alloc (.cells #[.int .u32 0, .int .u32 0, .int .u32 1] 85)) (Bx.below (w := w26.drew) BX.out (alloc_below _ _)) bI) bF) bS).cells)))
  all_goals
    have kI := (kD.alloc kD.size (.cells #[.int .u32 0, .int .u32 0, .int .u32 1] 85)).trans (bI.mono (by have := k.size; simp; omega))
    have kF := kI.trans (bF.mono kI.size)
    have kS := kF.trans (bS.mono kF.size)
    clear hF hF2 hapF bI bF bS kI kF kD k
    clear d0 d1 a0 a1 i0 i1 j0 j1 l0 l1 hst
    go_wp2_with fail
    refine (Prime_yes 2 (by omega) _).mono ?_
    rintro e w30 ⟨rfl, rfl⟩
    rw [al_prime]
    go_wp2_with fail
    refine (CheckGroup_any 23 11 2 (by omega) (by omega) (by omega) _).mono ?_
    rintro e w31 ⟨rfl, b31⟩
    rw [al_grp]
    have k31 := kS.trans (b31.mono kS.size)
    go_wp2_with fail
    refine (CheckGroup_any 23 11 5 (by omega) (by omega) (by omega) _).mono ?_
    rintro e w32 ⟨rfl, b32⟩
    rw [al_grp2]
    have k32 := k31.trans (b32.mono k31.size)
    go_wp2_with fail
    go_ret
    exact ⟨rfl, k32⟩
end Go.Proofs.Ytphaojdfeojpeaa
