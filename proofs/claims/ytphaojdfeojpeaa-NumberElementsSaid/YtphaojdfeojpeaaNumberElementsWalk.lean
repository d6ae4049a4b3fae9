/-
  The walk of the law NumberElements.
-/
import Derived.Test.YtphaojdfeojpeaaOutAid
import Derived.Test.YtphaojdfeojpeaaPlainGroup
namespace Go.Proofs.Ytphaojdfeojpeaa
open Go.RowKit
set_option linter.unusedVariables false

theorem group_parts {p q g : Nat} (h : groupB p q g = true) : primeF p = true ∧ primeF q = true ∧ 2 ≤ g ∧ g < p ∧ powm g q p = 1 := by
  rcases group_ways p q g with ⟨_, e⟩ | ⟨_, _, e⟩ | ⟨_, _, _, e⟩ | ⟨_, _, _, _, e⟩ | ⟨_, _, _, _, _, e⟩ | ⟨_, _, _, _, _, _, e⟩ | ⟨h1, h2, h3, h4, h5, h6, e⟩
  · rw [e] at h; cases h
  · rw [e] at h; cases h
  · rw [e] at h; cases h
  · rw [e] at h; cases h
  · rw [e] at h; cases h
  · rw [e] at h; cases h
  · exact ⟨h1, h2, h4, h5, h6⟩
theorem primeF_parts {p : Nat} (h : primeF p = true) : p ≤ 1048575 ∧ primeB p = true := by
  simpa [primeF] using h
/-- A block of three cells: a group of the call's own. -/
def Bg (w : World) (b p q g : Nat) : Prop := w.heap[b]? = some (.cells #[.int .u64 p, .int .u64 q, .int .u64 g] 32 (0, 0))
theorem Bg.new (w : World) (p q g : Nat) : Bg (w.alloc (.cells #[.int .u64 p, .int .u64 q, .int .u64 g] 32)) w.heap.size p q g := heap_alloc_new _ _
theorem Bg.lt {w : World} {b p q g : Nat} (h : Bg w b p q g) : b < w.heap.size := (Array.getElem?_eq_some_iff.1 h).1
theorem Bg.below {w w' : World} {b p q g : Nat} (h : Bg w b p q g) (k : Below w.heap.size w w') : Bg w' b p q g := (k.block b h.lt).trans h
theorem Bg.cells {w : World} {b p q g : Nat} (h : Bg w b p q g) : w.cell? ⟨b, 0, none⟩ = some (.int .u64 p) ∧ w.cell? ⟨b, 1, none⟩ = some (.int .u64 q) ∧ w.cell? ⟨b, 2, none⟩ = some (.int .u64 g) := by
  have h1 : w.heap[b]? = _ := h
  exact ⟨by simp [World.cell?, h1], by simp [World.cell?, h1], by simp [World.cell?, h1]⟩

set_option maxHeartbeats 4000000 in
set_option maxRecDepth 100000 in
theorem numberElements_walk (p q g i j : Nat) (hp : p < 18446744073709551616) (hq : q < 18446744073709551616) (hg : g < 18446744073709551616) (hi : i < 18446744073709551616) (hj : j < 18446744073709551616) (w : World) :
    Calls Try.prog 12 #[.agg #[.int .u64 p, .int .u64 q, .int .u64 g], .int .u64 i, .int .u64 j] w fun e w' => e = .returned (.bool true) ∧ Below w.heap.size w w' := by
  have Hp := Lib.hid hp
  have Hq := Lib.hid hq
  have Hg := Lib.hid hg
  have Hi := Lib.hid hi
  have Hj := Lib.hid hj
  have HX0 := Lib.hid (Bg.new w p q g)
  have k0 := alloc_below w (.cells #[.int .u64 p, .int .u64 q, .int .u64 g] 32)
  rcases bool_ways (groupB p q g) with h | h
  · have H := Lib.hid h
    have HE : Hid (grpE p q g = 13) := grpE_no h
    clear hp hq hg hi hj h
    go_enter Try.func12, Try.ntmps12
    go_wp2_with fail
    refine (alive_any _).mono ?_
    rintro e w1 ⟨rfl, b1⟩
    have HX1 := Lib.hid (HX0.out.below b1)
    have k1 := k0.trans (b1.mono k0.size)
    obtain ⟨c0, c1, c2⟩ := HX1.out.cells
    go_wp2_with fail
    refine (refValidGroup_any p q g Hp.out Hq.out Hg.out _).mono ?_
    rintro e w2 ⟨rfl, b2⟩
    rw [H.out]
    have HX2 := Lib.hid (HX1.out.below b2)
    have k2 := k1.trans (b2.mono k1.size)
    obtain ⟨c0', c1', c2'⟩ := HX2.out.cells
    clear c0 c1 c2
    go_wp2_with fail
    refine (CheckGroup_any p q g Hp.out Hq.out Hg.out _).mono ?_
    rintro e w3 ⟨rfl, b3⟩
    rw [HE.out]
    have k3 := k2.trans (b3.mono k2.size)
    go_wp2_with fail
    go_ret
    exact ⟨rfl, k3⟩
  · have H := Lib.hid h
    have HE : Hid (grpE p q g = 0) := grpE_yes h
    obtain ⟨g1, g2, g3, g4, g5⟩ := group_parts h
    obtain ⟨p1, p2⟩ := primeF_parts g1
    obtain ⟨q1, q2⟩ := primeF_parts g2
    have hpp := primeB_spec p1 p2
    have hqq := primeB_spec q1 q2
    have HP1 := Lib.hid p1
    have HP2 := Lib.hid p2
    have HQ1 := Lib.hid q1
    have HQ2 := Lib.hid q2
    have L1 : Hid (1 ≤ p) := by unfold Hid; omega
    have L2 : Hid (p < 4294967296) := by unfold Hid; omega
    have HEL := Lib.hid (elements hpp.2 hqq.2 hqq.1 g3 g4 g5 i j)
    obtain ⟨ri, hri⟩ : ∃ r, i % q = r := ⟨_, rfl⟩
    obtain ⟨rj, hrj⟩ : ∃ r, j % q = r := ⟨_, rfl⟩
    have hrii : (i : Int) % q = ri := by rw [← hri, Int.natCast_emod]
    have hrji : (j : Int) % q = rj := by rw [← hrj, Int.natCast_emod]
    have hrit : (i : Int).tmod q = ri := by rw [Int.tmod_eq_emod_of_nonneg (by omega)]; exact hrii
    have hrjt : (j : Int).tmod q = rj := by rw [Int.tmod_eq_emod_of_nonneg (by omega)]; exact hrji
    have hq1 : (1 : Int) ≤ q := by omega
    have hq2 : (q : Int) ≠ 0 := by omega
    have hq0 : ((q : Int) == 0) = false := by rw [beq_eq_false_iff_ne]; omega
    rw [hri, hrj] at HEL
    have hqn : ¬ q = 0 := by omega
    clear hp hq hg hi hj h g1 g2 g3 g4 g5 p1 p2 q1 q2 hpp hqq hri hrj
    go_enter Try.func12, Try.ntmps12
    go_wp2_with fail
    refine (alive_any _).mono ?_
    rintro e w1 ⟨rfl, b1⟩
    have HX1 := Lib.hid (HX0.out.below b1)
    have k1 := k0.trans (b1.mono k0.size)
    obtain ⟨c0, c1, c2⟩ := HX1.out.cells
    go_wp2_with fail
    refine (refValidGroup_any p q g Hp.out Hq.out Hg.out _).mono ?_
    rintro e w2 ⟨rfl, b2⟩
    rw [H.out]
    have HX2 := Lib.hid (HX1.out.below b2)
    have k2 := k1.trans (b2.mono k1.size)
    obtain ⟨d0, d1, d2⟩ := HX2.out.cells
    clear c0 c1 c2 b1 b2 k0 k1
    go_wp2_with fail
    refine (PowMod_yes g i p Hg.out Hi.out L1.out L2.out _).mono ?_
    rintro e w3 ⟨rfl, rfl⟩
    go_wp2_with fail
    refine (PowMod_yes g j p Hg.out Hj.out L1.out L2.out _).mono ?_
    rintro e w3 ⟨rfl, rfl⟩
    generalize powm g i p = x at *
    generalize powm g j p = y at *
    go_wp2_with fail
    refine (Prime_yes p HP1.out _).mono ?_
    rintro e w3 ⟨rfl, rfl⟩
    rw [HP2.out]
    go_wp2_with fail
    refine (Prime_yes q HQ1.out _).mono ?_
    rintro e w3 ⟨rfl, rfl⟩
    rw [HQ2.out]
    have kD := k2.drew
    have e0 : w2.drew.cell? ⟨w.heap.size, 0, none⟩ = some (.int .u64 p) := d0
    have e1 : w2.drew.cell? ⟨w.heap.size, 1, none⟩ = some (.int .u64 q) := d1
    have e2 : w2.drew.cell? ⟨w.heap.size, 2, none⟩ = some (.int .u64 g) := d2
    have HXD : Hid (Bg w2.drew w.heap.size p q g) := HX2.out
    rcases Nat.decEq x y with hxy | hxy
    · have t1 : ((x : Int) == y) = false := by rw [beq_eq_false_iff_ne]; omega
      have t1' : (x == y) = false := by rw [beq_eq_false_iff_ne]; exact hxy
      have hr : ri ≠ rj := fun e => hxy (HEL.out.2 e)
      have t2 : ((ri : Int) == rj) = false := by rw [beq_eq_false_iff_ne]; omega
      have t2' : (ri == rj) = false := by rw [beq_eq_false_iff_ne]; exact hr
      clear hxy hr
      go_wp2_with fail
      go_region_held3 (fun w' => w'.cell? ⟨w.heap.size, 0, none⟩ = some (.int .u64 p) ∧ w'.cell? ⟨w.heap.size, 1, none⟩ = some (.int .u64 q) ∧ w'.cell? ⟨w.heap.size, 2, none⟩ = some (.int .u64 g)) ((first | exact ⟨l0, l1, l2⟩ | exact ⟨e0, e1, e2⟩)) (first
        | (go_at_call 25; go_loud (refine (CheckGroup_any p q g Hp.out Hq.out Hg.out _).mono ?_; rintro e wC ⟨rfl, bC⟩; rw [HE.out]; obtain ⟨l0, l1, l2⟩ := (HXD.out.below bC).cells)))
      all_goals
        have kC := kD.trans (bC.mono kD.size)
        go_wp2_with fail
        go_ret
        exact ⟨rfl, kC⟩
    · subst hxy
      have t1 : ((x : Int) == x) = true := by simp
      have hr : ri = rj := HEL.out.1 rfl
      subst hr
      go_wp2_with fail
      go_region_held3 (fun w' => w'.cell? ⟨w.heap.size, 0, none⟩ = some (.int .u64 p) ∧ w'.cell? ⟨w.heap.size, 1, none⟩ = some (.int .u64 q) ∧ w'.cell? ⟨w.heap.size, 2, none⟩ = some (.int .u64 g)) ((first | exact ⟨l0, l1, l2⟩ | exact ⟨e0, e1, e2⟩)) (first
        | (go_at_call 25; go_loud (refine (CheckGroup_any p q g Hp.out Hq.out Hg.out _).mono ?_; rintro e wC ⟨rfl, bC⟩; rw [HE.out]; obtain ⟨l0, l1, l2⟩ := (HXD.out.below bC).cells)))
      all_goals
        have kC := kD.trans (bC.mono kD.size)
        go_wp2_with fail
        go_ret
        exact ⟨rfl, kC⟩
end Go.Proofs.Ytphaojdfeojpeaa
