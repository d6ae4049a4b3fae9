/-
  Primes, inverses and the elements of a group: plain laws. No program in sight.
-/
import Derived.Test.YtphaojdfeojpeaaPlainPrime
import Derived.Test.YtphaojdfeojpeaaPlainMod
namespace Go.Proofs.Ytphaojdfeojpeaa
open Go.RowKit
set_option linter.unusedVariables false

theorem primeB_spec {n : Nat} (hn : n ≤ 1048575) (h : primeB n = true) : 2 ≤ n ∧ ∀ c, 2 ≤ c → c < n → n % c ≠ 0 := by
  unfold primeB at h
  simp only [Bool.and_eq_true, decide_eq_true_eq] at h
  obtain ⟨h1, h2⟩ := h
  have h3 := (noDiv_spec hn).1 h2
  refine ⟨h1, fun c hc hcn hd => ?_⟩
  obtain ⟨d, hd'⟩ := Nat.dvd_of_mod_eq_zero hd
  have hd2 : 2 ≤ d := by
    rcases (by omega : d = 0 ∨ d = 1 ∨ 2 ≤ d) with e | e | e
    · rw [e] at hd'; omega
    · rw [e] at hd'; omega
    · exact e
  rcases Nat.le_total c d with e | e
  · exact h3 c hc (by rw [hd']; exact Nat.mul_le_mul_left _ e) hd
  · exact h3 d hd2 (by rw [hd']; exact Nat.mul_le_mul_right _ e) (by rw [hd']; exact Nat.mul_mod_left _ _)
theorem primeB_prod {a b : Nat} (ha : 2 ≤ a) (hb : 2 ≤ b) (h : a * b ≤ 1048575) : primeB (a * b) = false := by
  rcases Nat.le_total a b with e | e
  · exact primeB_found h ha (Nat.mul_le_mul_left _ e) (Nat.mul_mod_right _ _)
  · exact primeB_found h hb (Nat.mul_le_mul_right _ e) (Nat.mul_mod_left _ _)
theorem euJ_end (a m : Nat) (hm : 1 ≤ m) : ∀ (f r x s y : Nat), x ≤ f → EuJ a m r x s y → ∃ s' y', EuJ a m (Nat.gcd a m) 0 s' y' := by
  intro f
  induction f with
  | zero =>
    intro r x s y hx h
    obtain rfl : x = 0 := by omega
    rw [h.gcd] at h
    exact ⟨s, y, h⟩
  | succ f ih =>
    intro r x s y hx h
    rcases Nat.eq_zero_or_pos x with h0 | h0
    · subst h0
      rw [h.gcd] at h
      exact ⟨s, y, h⟩
    · exact ih _ _ _ _ (by have := Nat.mod_lt r h0; omega) (h.step h0 hm)
theorem inv_spec {a m : Nat} (hm : 1 ≤ m) (h : Nat.gcd a m = 1) : invm a m < m ∧ a * invm a m % m = 1 % m := by
  obtain ⟨s, y, hs⟩ := euJ_end a m hm m _ _ _ _ (Nat.le_refl _) (EuJ.start a m hm)
  rw [h] at hs
  have e := hs.inv
  obtain ⟨_, _, _, h1, _, hk, _⟩ := hs
  rw [← e]
  exact ⟨h1, inv_of_cong h1 hk⟩
theorem prime_coprime {p a : Nat} (hp : ∀ c, 2 ≤ c → c < p → p % c ≠ 0) (h2 : 2 ≤ p) (ha : a % p ≠ 0) : Nat.gcd a p = 1 := by
  have hd := Nat.gcd_dvd_right a p
  have hle := Nat.le_of_dvd (by omega) hd
  have h0 : Nat.gcd a p ≠ 0 := by
    intro e
    have := Nat.gcd_eq_zero_iff.1 e
    omega
  rcases (by omega : Nat.gcd a p = 1 ∨ (2 ≤ Nat.gcd a p ∧ Nat.gcd a p < p) ∨ Nat.gcd a p = p) with e | ⟨e1, e2⟩ | e
  · exact e
  · exact absurd (Nat.mod_eq_zero_of_dvd hd) (hp _ e1 e2)
  · have := Nat.gcd_dvd_left a p
    rw [e] at this
    exact absurd (Nat.mod_eq_zero_of_dvd this) ha
theorem powm_one_mul {g q p : Nat} (h1 : 1 < p) (h : powm g q p = 1) (k : Nat) : g ^ (q * k) % p = 1 := by
  unfold powm at h
  rw [Nat.pow_mul, Nat.pow_mod, h, Nat.one_pow, Nat.mod_eq_of_lt h1]
/-- g to the i is as i modulo the order. -/
theorem powm_order {g q p : Nat} (h1 : 1 < p) (h : powm g q p = 1) (i : Nat) : powm g i p = powm g (i % q) p := by
  unfold powm
  conv => lhs; rw [← Nat.div_add_mod i q, Nat.pow_add, Nat.mul_mod, powm_one_mul h1 h, Nat.one_mul, Nat.mod_mod]
theorem cancel_pow {g p x : Nat} (hc : Nat.gcd g p = 1) (k : Nat) {y : Nat} (hxy : y ≤ x) (h : g ^ k * x % p = g ^ k * y % p) : p ∣ x - y := by
  have h2 : p ∣ g ^ k * (x - y) := by
    rw [Nat.mul_sub]
    exact Nat.dvd_of_mod_eq_zero (Nat.sub_mod_eq_zero_of_mod_eq h)
  have h3 : Nat.Coprime p (g ^ k) := by
    apply Nat.Coprime.symm
    exact Nat.Coprime.pow_left k hc
  exact h3.dvd_of_dvd_mul_left h2
/-- In a group of prime order two powers are one exactly if their exponents are one modulo the order. -/
theorem elements {g q p : Nat} (hp : ∀ c, 2 ≤ c → c < p → p % c ≠ 0) (hq : ∀ c, 2 ≤ c → c < q → q % c ≠ 0) (h2 : 2 ≤ q) (hg : 2 ≤ g) (hgp : g < p) (h : powm g q p = 1) (i j : Nat) : powm g i p = powm g j p ↔ i % q = j % q := by
  have hp1 : 1 < p := by omega
  have hgc : Nat.gcd g p = 1 := prime_coprime hp (by omega) (by rw [Nat.mod_eq_of_lt hgp]; omega)
  constructor
  · intro e
    rw [powm_order hp1 h i, powm_order hp1 h j] at e
    have hi := Nat.mod_lt i (show 0 < q by omega)
    have hj := Nat.mod_lt j (show 0 < q by omega)
    generalize i % q = a at *
    generalize j % q = b at *
    -- the case a ≤ b, then by symmetry
    have key : ∀ a b : Nat, a < q → b < q → a ≤ b → powm g a p = powm g b p → a = b := by
      intro a b ha hb hab e
      rcases Nat.eq_or_lt_of_le hab with h3 | h3
      · exact h3
      · exfalso
        obtain ⟨d, rfl⟩ : ∃ d, b = a + d := ⟨b - a, by omega⟩
        have hd0 : d % q ≠ 0 := by rw [Nat.mod_eq_of_lt (by omega)]; omega
        unfold powm at e
        rw [Nat.pow_add] at e
        have e2 : g ^ a * (g ^ d) % p = g ^ a * 1 % p := by rw [Nat.mul_one]; exact e.symm
        have h4 := cancel_pow hgc a (Nat.one_le_pow _ _ (by omega)) e2
        have h5 : g ^ d % p = 1 := by
          obtain ⟨t, ht⟩ := h4
          have h6 := Nat.one_le_pow d g (by omega)
          have h7 : g ^ d = 1 + p * t := by omega
          rw [h7, Nat.add_mul_mod_self_left, Nat.mod_eq_of_lt hp1]
        have hc := prime_coprime hq h2 hd0
        obtain ⟨u1, u2⟩ := inv_spec (a := d) (m := q) (by omega) hc
        have u3 : d * invm d q % q = 1 := by rw [u2, Nat.mod_eq_of_lt (by omega)]
        have h8 := powm_order hp1 h (d * invm d q)
        rw [u3] at h8
        have h9 : powm g (d * invm d q) p = 1 := by
          unfold powm
          rw [Nat.pow_mul, Nat.pow_mod, h5, Nat.one_pow, Nat.mod_eq_of_lt hp1]
        rw [h9] at h8
        unfold powm at h8
        rw [Nat.pow_one, Nat.mod_eq_of_lt hgp] at h8
        omega
    rcases Nat.le_total a b with h3 | h3
    · exact key a b hi hj h3 e
    · exact (key b a hj hi h3 e.symm).symm
  · intro e
    rw [powm_order hp1 h i, powm_order hp1 h j, e]
end Go.Proofs.Ytphaojdfeojpeaa
