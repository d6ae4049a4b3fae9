/-
  Plain laws on primes and groups. No program in sight.
-/
import Derived.Test.YtphaojdfeojpeaaPlainMod
namespace Go.Proofs.Ytphaojdfeojpeaa
open Go.RowKit
set_option linter.unusedVariables false

/-- No number from 2 on whose square is at most n divides n (asked up to 1024, which is enough below 2^20). -/
def noDiv (n : Nat) : Bool := (List.range 1025).all fun c => decide (c < 2) || decide (n < c * c) || (n % c != 0)
/-- A prime of at most 2^20 - 1. -/
def primeB (n : Nat) : Bool := decide (2 ≤ n) && noDiv n

theorem noDiv_spec {n : Nat} (hn : n ≤ 1048575) : noDiv n = true ↔ ∀ c, 2 ≤ c → c * c ≤ n → n % c ≠ 0 := by
  unfold noDiv
  rw [List.all_eq_true]
  constructor
  · intro h c h2 hc
    have hlt : c < 1025 := by
      rcases Nat.lt_or_ge c 1025 with h' | h'
      · exact h'
      · have : 1025 * 1025 ≤ c * c := Nat.mul_le_mul h' h'
        omega
    have := h c (List.mem_range.2 hlt)
    simp only [Bool.or_eq_true, decide_eq_true_eq, bne_iff_ne] at this
    rcases this with (h3 | h3) | h3
    · omega
    · omega
    · exact h3
  · intro h c _
    simp only [Bool.or_eq_true, decide_eq_true_eq, bne_iff_ne]
    by_cases h2 : c < 2
    · exact .inl (.inl h2)
    · by_cases hc : n < c * c
      · exact .inl (.inr hc)
      · exact .inr (h c (by omega) (by omega))

theorem primeB_small {n : Nat} (h : n < 2) : primeB n = false := by simp [primeB]; omega
theorem primeB_found {n c : Nat} (hn : n ≤ 1048575) (h2 : 2 ≤ c) (hc : c * c ≤ n) (hd : n % c = 0) : primeB n = false := by
  cases h : noDiv n with
  | false => simp [primeB, h]
  | true => exact absurd hd ((noDiv_spec hn).1 h c h2 hc)
theorem primeB_end {n d : Nat} (hn : n ≤ 1048575) (h2 : 2 ≤ n) (hd : n < d * d) (h : ∀ c, 2 ≤ c → c < d → n % c ≠ 0) : primeB n = true := by
  have : noDiv n = true := (noDiv_spec hn).2 fun c hc hcc => h c hc (by
    rcases Nat.lt_or_ge c d with h' | h'
    · exact h'
    · have : d * d ≤ c * c := Nat.mul_le_mul h' h'
      omega)
  simp [primeB, this, h2]

/-- A prime that is not too large. -/
def primeF (n : Nat) : Bool := decide (n ≤ 1048575) && primeB n
theorem primeF_le {n : Nat} (h : primeF n = true) : 2 ≤ n ∧ n ≤ 1048575 := by
  simp only [primeF, primeB, Bool.and_eq_true, decide_eq_true_eq] at h
  omega
/-- Is a group valid? -/
def groupB (p q g : Nat) : Bool :=
  primeF p && primeF q && ((p - 1) % q == 0) && decide (2 ≤ g) && decide (g < p) && (powm g q p == 1)
/-- What CheckGroup returns. -/
def grpE (p q g : Nat) : Int := if groupB p q g = true then 0 else 13
theorem grpE_yes {p q g : Nat} (h : groupB p q g = true) : grpE p q g = 0 := by simp [grpE, h]
theorem grpE_no {p q g : Nat} (h : groupB p q g = false) : grpE p q g = 13 := by simp [grpE, h]
/-- The ways through the tests of a group. -/
theorem group_ways (p q g : Nat) :
    (primeF p = false ∧ groupB p q g = false) ∨ (primeF p = true ∧ primeF q = false ∧ groupB p q g = false) ∨
    (primeF p = true ∧ primeF q = true ∧ (p - 1) % q ≠ 0 ∧ groupB p q g = false) ∨ (primeF p = true ∧ primeF q = true ∧ (p - 1) % q = 0 ∧ g < 2 ∧ groupB p q g = false) ∨
    (primeF p = true ∧ primeF q = true ∧ (p - 1) % q = 0 ∧ 2 ≤ g ∧ p ≤ g ∧ groupB p q g = false) ∨
    (primeF p = true ∧ primeF q = true ∧ (p - 1) % q = 0 ∧ 2 ≤ g ∧ g < p ∧ powm g q p ≠ 1 ∧ groupB p q g = false) ∨
    (primeF p = true ∧ primeF q = true ∧ (p - 1) % q = 0 ∧ 2 ≤ g ∧ g < p ∧ powm g q p = 1 ∧ groupB p q g = true) := by
  unfold groupB
  cases primeF p
  · simp
  cases primeF q
  · simp
  by_cases h3 : (p - 1) % q = 0
  · by_cases h4 : 2 ≤ g
    · by_cases h5 : g < p
      · by_cases h6 : powm g q p = 1
        · simp [h3, h4, h5, h6]
        · simp [h3, h4, h5, h6]
      · simp [h3, h4, h5]; omega
    · simp [h3, h4]; omega
  · simp [h3]
end Go.Proofs.Ytphaojdfeojpeaa
