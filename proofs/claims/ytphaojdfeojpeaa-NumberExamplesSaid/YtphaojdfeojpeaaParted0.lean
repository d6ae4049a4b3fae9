/-
  parted: what it hands back; the case of a smaller number.
-/
import Derived.Test.YtphaojdfeojpeaaPartWalks3
import Derived.Test.YtphaojdfeojpeaaShelf
import Derived.Lib.ItoaNum
import Derived.Deep.Cut
import Derived.Deep.CutRange
import Derived.Deep.CutBlock
import Derived.Deep.DeepCutAuto
import Derived.Deep.LoopGhost
import Derived.Deep.RegionHeld3
namespace Go.Proofs.Ytphaojdfeojpeaa
open Go.RowKit
set_option linter.unusedVariables false

/-- Two numbers that do not lie in one block. -/
def Apart (A : Option Addr) (a : List Nat) (B : Option Addr) (b : List Nat) : Prop := a ≠ [] → b ≠ [] → ∀ g o h p, A = some ⟨g, o, none⟩ → B = some ⟨h, p, none⟩ → g ≠ h
/-- What 'parted' hands back. -/
def PartOut (w w' : World) (e : Ending) (x y : Nat) : Prop :=
  ∃ Q cq R cr, e = .returned (.tuple #[.slice Q (digs (x / y)).length cq, .slice R (digs (x % y)).length cr]) ∧ NF w.heap.size w' Q cq (digs (x / y)) ∧ NF w.heap.size w' R cr (digs (x % y)) ∧ Apart Q (digs (x / y)) R (digs (x % y)) ∧ Below w.heap.size w w'
theorem tuple_two {a b c d : Value} (h : a = c) (h2 : b = d) : Ending.returned (.tuple #[a, b]) = .returned (.tuple #[c, d]) := by rw [h, h2]

/-- How far the first digit of a divisor is from the top. -/
theorem top_shift (t : Nat) (h0 : t ≠ 0) (h : t < 4294967296) : ∃ s : Nat, s ≤ 31 ∧ (32 : Int) - (Lib.bitLen t : Int) = s ∧ 2147483648 ≤ t * 2 ^ s ∧ t * 2 ^ s < 4294967296 := by
  obtain ⟨h1, h2, h3⟩ := Lib.bitLenAux_bounds 64 t (by omega) h0
  have hb : Lib.bitLen t = Lib.bitLenAux 64 t := rfl
  rw [hb]
  generalize Lib.bitLenAux 64 t = L at h1 h2 h3 ⊢
  have hL : L ≤ 32 := by
    rcases Nat.lt_or_ge 32 L with h4 | h4
    · exfalso
      have : 2 ^ 32 ≤ 2 ^ (L - 1) := Nat.pow_le_pow_right (by omega) (by omega)
      omega
    · exact h4
  obtain ⟨k, rfl⟩ : ∃ k, L = k + 1 := ⟨L - 1, by omega⟩
  have e1 : 2 ^ k * 2 ^ (31 - k) = 2147483648 := by rw [← Nat.pow_add, show k + (31 - k) = 31 from by omega]
  have e2 : 2 ^ (k + 1) * 2 ^ (31 - k) = 4294967296 := by rw [← Nat.pow_add, show k + 1 + (31 - k) = 32 from by omega]
  refine ⟨31 - k, by omega, by omega, ?_, ?_⟩
  · rw [← e1]; exact Nat.mul_le_mul_right _ (by simpa using h2)
  · rw [← e2]; exact Nat.mul_lt_mul_of_pos_right h3 (Nat.two_pow_pos _)

set_option maxHeartbeats 1000000 in
set_option maxRecDepth 100000 in
theorem parted_less (A : Option Addr) (ca : Nat) (a : List Nat) (Bd : Option Addr) (cb : Nat) (b : List Nat) (w : World) {na nb : Nat} (hna : a.length = na) (hnb : b.length = nb) (ha : NR w A ca a) (hb : NR w Bd cb b) (ta : Trm a) (tb : Trm b) (hl : val a < val b) :
    Calls Try.prog 75 #[.slice A na ca, .slice Bd nb cb] w fun e w' => PartOut w w' e (val a) (val b) := by
  have Ha := Lib.hid hna
  have Hb := Lib.hid hnb
  have HC := Lib.hid (cmpN_lt hl)
  have hb0 : Below w.heap.size w ((w.alloc (.cells #[.slice A na ca] 41)).alloc (.cells #[.slice Bd nb cb] 41)) := ((Below.refl _ _).alloc (Nat.le_refl _) _).alloc (by simp) _
  have Ra := Lib.hid (ha.below hb0)
  have Rb := Lib.hid (hb.below hb0)
  have hq : val a / val b = 0 := Nat.div_eq_of_lt hl
  have hr : val a % val b = val a := Nat.mod_eq_of_lt hl
  unfold PartOut
  rw [hq, hr, digs_val ha.dig ta]
  clear hna hnb ha hb hl hq hr
  go_enter Try.func75, Try.ntmps75
  go_wp2_with fail
  refine (order_any A ca a Bd cb b _ Ha.out Hb.out Ra.out Rb.out ta tb).mono ?_
  rintro e w1 ⟨rfl, hb1⟩
  rw [HC.out]
  have c2 : w1.cell? ⟨w.heap.size, 0, none⟩ = some (.slice A na ca) := (hb1.cell (p := ⟨w.heap.size, 0, none⟩) (by simp <;> omega)).trans (by simp)
  go_wp2_with fail
  refine (Clone_any A ca a w1 Ha.out (Ra.out.below hb1)).mono ?_
  rintro e w2 ⟨A', c', rfl, hnf, hb2⟩
  go_wp2_with fail
  go_ret2
  have hs : w.heap.size ≤ w1.heap.size := Nat.le_trans hb0.size hb1.size
  exact ⟨none, 0, A', c', tuple_two rfl (by rw [Ha.out]; rfl), NF.nil _ _, hnf.mono hs, fun h => absurd rfl h, (hb0.trans (hb1.mono hb0.size)).trans (hb2.mono hs)⟩

end Go.Proofs.Ytphaojdfeojpeaa
