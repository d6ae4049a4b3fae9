/-
  Plain laws on powers and on Euclid's algorithm. No program in sight.
-/
import Derived.Below
namespace Go.Proofs.Ytphaojdfeojpeaa
open Go.RowKit
set_option linter.unusedVariables false

/-- A power modulo m. -/
def powm (b n m : Nat) : Nat := b ^ n % m

theorem powm_zero (b m : Nat) : powm b 0 m = 1 % m := by simp [powm]
theorem powm_mod (b n m : Nat) : powm (b % m) n m = powm b n m := by simp [powm, ← Nat.pow_mod]

/-- what remains to be multiplied -/
def pinv (out b n m r : Nat) : Prop := out * b ^ n % m = r
theorem pinv_start (b n m : Nat) : pinv (1 % m) (b % m) n m (powm b n m) := by
  unfold pinv powm
  rw [Nat.mul_mod, Nat.mod_mod, ← Nat.mul_mod, Nat.one_mul, ← Nat.pow_mod]
theorem pinv_end {out b m r : Nat} (h : pinv out b 0 m r) (ho : out < m) : out = r := by
  unfold pinv at h
  simpa [Nat.mod_eq_of_lt ho] using h
theorem pinv_odd {out b n m r : Nat} (h : pinv out b n m r) (ho : n % 2 = 1) : pinv (out * b % m) (b * b % m) (n / 2) m r := by
  unfold pinv at *
  have e : n = 2 * (n / 2) + 1 := by omega
  rw [e, Nat.pow_succ, Nat.pow_mul, Nat.pow_two] at h
  rw [← h, Nat.mul_mod, ← Nat.pow_mod, Nat.mod_mod, ← Nat.mul_mod]
  congr 1
  rw [Nat.mul_assoc, Nat.mul_comm b]
theorem pinv_even {out b n m r : Nat} (h : pinv out b n m r) (ho : n % 2 = 0) : pinv out (b * b % m) (n / 2) m r := by
  unfold pinv at *
  have e : n = 2 * (n / 2) := by omega
  rw [e, Nat.pow_mul, Nat.pow_two] at h
  rw [← h, Nat.mul_mod, ← Nat.pow_mod, ← Nat.mul_mod]
theorem mul_lt64 {a b m : Nat} (ha : a < m) (hb : b < m) (hm : m < 4294967296) : a * b < 18446744073709551616 := by
  have h1 : a * b ≤ a * 4294967296 := Nat.mul_le_mul_left _ (by omega)
  have h2 : a * 4294967296 ≤ 4294967295 * 4294967296 := Nat.mul_le_mul_right _ (by omega)
  omega
/-- The two bounds of a product, as the walk wants them. -/
theorem mul_in64 {a b m : Nat} (ha : a < m) (hb : b < m) (hm : m < 4294967296) : 0 ≤ (a : Int) * (b : Int) ∧ (a : Int) * (b : Int) ≤ 18446744073709551615 := by
  have h := mul_lt64 ha hb hm
  rw [← Int.natCast_mul]
  omega
theorem int_cong {k : IntKind} {a b : Int} (h : a = b) : Value.int k a = .int k b := by rw [h]
theorem ret_int {k : IntKind} {a b : Int} (h : a = b) : Ending.returned (.int k a) = .returned (.int k b) := by rw [h]
theorem ret_bool {a b : Bool} (h : a = b) : Ending.returned (.bool a) = .returned (.bool b) := by rw [h]
theorem mulmod_cast (a b m : Nat) : (a : Int) * (b : Int) % (m : Int) = ((a * b % m : Nat) : Int) := by
  rw [Int.natCast_emod, Int.natCast_mul]
theorem div2_cast (a : Nat) : (a : Int) / 2 = ((a / 2 : Nat) : Int) := by omega
theorem emod_cast (a m : Nat) : (a : Int) % (m : Int) = ((a % m : Nat) : Int) := by rw [Int.natCast_emod]

/-! ### The inverse -/
open Classical in
/-- The inverse of a modulo m, if there is one. -/
noncomputable def invm (a m : Nat) : Nat := if h : ∃ x, x < m ∧ a * x % m = 1 % m then h.choose else 0

theorem inv_unique {a m x y : Nat} (hx : x < m) (hy : y < m) (ex : a * x % m = 1 % m) (ey : a * y % m = 1 % m) : x = y := by
  have h1 : x % m = a * x % m * y % m := by
    rw [ex, Nat.mul_mod, Nat.mod_mod, ← Nat.mul_mod, Nat.one_mul]
    have : a * x % m * (y % m) % m = x % m := by
      rw [← Nat.mul_mod, Nat.mul_comm a x, Nat.mul_assoc, Nat.mul_mod, ey, ← Nat.mul_mod, Nat.mul_one]
    rw [ex, ← Nat.mul_mod, Nat.one_mul] at this
    omega
  have h2 : a * x % m * y % m = y % m := by rw [ex, Nat.mul_mod, Nat.mod_mod, ← Nat.mul_mod, Nat.one_mul]
  rw [h2, Nat.mod_eq_of_lt hx, Nat.mod_eq_of_lt hy] at h1
  exact h1
theorem inv_is {a m x : Nat} (hx : x < m) (ex : a * x % m = 1 % m) : x = invm a m := by
  unfold invm
  have h : ∃ x, x < m ∧ a * x % m = 1 % m := ⟨x, hx, ex⟩
  rw [dif_pos h]
  exact inv_unique hx h.choose_spec.1 ex h.choose_spec.2

theorem inv_of_cong {a m x : Nat} (hx : x < m) (h : ∃ k : Int, (1 : Int) = (x : Int) * a + k * m) : a * x % m = 1 % m := by
  obtain ⟨k, hk⟩ := h
  have h1 : ((a * x : Nat) : Int) = 1 + (-k) * m := by
    rw [Int.natCast_mul, Int.mul_comm (a : Int)]
    have : (-k) * (m : Int) = -(k * m) := Int.neg_mul _ _
    omega
  have h2 : ((a * x % m : Nat) : Int) = ((1 % m : Nat) : Int) := by
    rw [Int.natCast_emod, h1, Int.add_mul_emod_self_right, Int.natCast_emod]; rfl
  exact_mod_cast h2

/-- Euclid's algorithm: r and x are s and t times a, modulo m; the signs alternate. -/
def EuI (a m r x : Nat) (s t : Int) : Prop :=
  Nat.gcd r x = Nat.gcd a m ∧ x < r ∧ r ≤ m ∧ (∃ k : Int, (r : Int) = s * a + k * m) ∧ (∃ k : Int, (x : Int) = t * a + k * m) ∧
    ∃ S T : Nat, S * x + T * r = m ∧ S ≤ m ∧ (s = S ∧ t = -(T : Int) ∨ s = -(S : Int) ∧ t = T)

theorem EuI.start (a m : Nat) (hm : 1 ≤ m) : EuI a m m (a % m) 0 1 := by
  refine ⟨?_, Nat.mod_lt _ hm, Nat.le_refl _, ⟨1, by simp⟩, ⟨-((a / m : Nat) : Int), ?_⟩, 0, 1, by simp, Nat.zero_le _, .inr ⟨rfl, rfl⟩⟩
  · rw [Nat.gcd_comm m, Nat.gcd_comm a, Nat.gcd_rec m a]
  · have := Nat.div_add_mod a m
    have h2 : ((m * (a / m) + a % m : Nat) : Int) = a := by rw [this]
    rw [Int.natCast_add, Int.natCast_mul] at h2
    have : -((a / m : Nat) : Int) * (m : Int) = -((m : Int) * ((a / m : Nat) : Int)) := by rw [Int.neg_mul, Int.mul_comm]
    omega

theorem EuI.bounds {a m r x : Nat} {s t : Int} (h : EuI a m r x s t) : -(m : Int) ≤ s ∧ s ≤ m ∧ -(m : Int) ≤ t ∧ t ≤ m := by
  obtain ⟨_, hx, _, _, _, S, T, e, hS, hs⟩ := h
  have h1 : T * 1 ≤ T * r := Nat.mul_le_mul_left _ (by omega)
  have h2 : T ≤ m := by omega
  rcases hs with ⟨rfl, rfl⟩ | ⟨rfl, rfl⟩ <;> omega

theorem EuI.step {a m r x : Nat} {s t : Int} (h : EuI a m r x s t) (hx0 : 0 < x) : EuI a m x (r % x) t (s - ((r / x : Nat) : Int) * t) := by
  obtain ⟨hg, hx, hr, ⟨k, hk⟩, ⟨l, hl⟩, S, T, e, hS, hs⟩ := h
  have hd := Nat.div_add_mod r x
  refine ⟨?_, Nat.mod_lt _ hx0, by omega, ⟨l, hl⟩, ⟨k - ((r / x : Nat) : Int) * l, ?_⟩, T, S + r / x * T, ?_, ?_, ?_⟩
  · rw [← hg, Nat.gcd_comm r x, Nat.gcd_rec x r, Nat.gcd_comm]
  · have h2 : ((x * (r / x) + r % x : Nat) : Int) = r := by rw [hd]
    rw [Int.natCast_add, Int.natCast_mul, Int.mul_comm] at h2
    have e1 : (s - ((r / x : Nat) : Int) * t) * a + (k - ((r / x : Nat) : Int) * l) * m = (s * a + k * m) - ((r / x : Nat) : Int) * (t * a + l * m) := by
      rw [Int.sub_mul, Int.sub_mul, Int.mul_add, Int.mul_assoc, Int.mul_assoc]; omega
    rw [e1, ← hk, ← hl]
    omega
  · have e1 : T * (r % x) + (S + r / x * T) * x = S * x + T * (x * (r / x) + r % x) := by
      rw [Nat.add_mul, Nat.mul_add, Nat.mul_comm x (r / x), Nat.mul_comm (r / x) T, Nat.mul_assoc]
      omega
    rw [e1, hd, e]
  · have h1 : T * 1 ≤ T * r := Nat.mul_le_mul_left _ (by omega)
    omega
  · have e2 : ((S + r / x * T : Nat) : Int) = S + ((r / x : Nat) : Int) * T := by rw [Int.natCast_add, Int.natCast_mul]
    rw [e2]
    rcases hs with ⟨rfl, rfl⟩ | ⟨rfl, rfl⟩
    · right
      refine ⟨rfl, ?_⟩
      rw [Int.mul_neg]; omega
    · left
      refine ⟨rfl, ?_⟩
      omega
/-- The bounds of a step's products. -/
theorem EuI.prods {a m r x : Nat} {s t : Int} (h : EuI a m r x s t) (hx0 : 0 < x) :
    -(m : Int) - m ≤ ((r / x : Nat) : Int) * t ∧ ((r / x : Nat) : Int) * t ≤ m + m ∧ 0 ≤ ((r / x : Nat) : Int) * x ∧ ((r / x : Nat) : Int) * x ≤ r ∧ (r : Int) - ((r / x : Nat) : Int) * x = ((r % x : Nat) : Int) := by
  have h1 := (h.step hx0).bounds
  have h2 := h.bounds
  have hd := Nat.div_add_mod r x
  have h3 : ((x * (r / x) + r % x : Nat) : Int) = r := by rw [hd]
  rw [Int.natCast_add, Int.natCast_mul, Int.mul_comm] at h3
  have h4 : (0 : Int) ≤ ((r / x : Nat) : Int) * x := Int.mul_nonneg (Int.natCast_nonneg _) (by omega)
  generalize ((r / x : Nat) : Int) = q at *
  omega
theorem EuI.done {a m r : Nat} {s t : Int} (h : EuI a m r 0 s t) : r = Nat.gcd a m := by rw [← h.1, Nat.gcd_zero_right]
/-- What the code makes of s. -/
def back (s : Int) (m : Nat) : Int := s.tmod m % m
theorem back_bounds (s : Int) (m : Nat) (hm : 1 ≤ m) : 0 ≤ s.tmod m % (m : Int) ∧ s.tmod m % (m : Int) < m :=
  ⟨Int.emod_nonneg _ (by omega), Int.emod_lt_of_pos _ (by omega)⟩
theorem tmod_bounds (s : Int) (m : Nat) (hm : 1 ≤ m) : -(m : Int) < s.tmod m ∧ s.tmod m < m :=
  ⟨Int.lt_tmod_of_pos _ (by omega), Int.tmod_lt_of_pos _ (by omega)⟩
theorem tmod_cong (s : Int) (m : Nat) : ∃ k : Int, s.tmod m = s + k * m := by
  refine ⟨-(s.tdiv m), ?_⟩
  have := Int.mul_tdiv_add_tmod s m
  rw [Int.neg_mul, Int.mul_comm]
  omega
theorem back_is {a m : Nat} {s t : Int} (hm : 1 ≤ m) (h : EuI a m 1 0 s t) : back s m = ((invm a m : Nat) : Int) := by
  obtain ⟨_, _, _, ⟨k, hk⟩, _⟩ := h
  obtain ⟨l, hl⟩ := tmod_cong s m
  have h0 : 0 ≤ back s m := Int.emod_nonneg _ (by omega)
  have h1 : back s m < m := Int.emod_lt_of_pos _ (by omega)
  obtain ⟨x, hx⟩ := Int.eq_ofNat_of_zero_le h0
  rw [hx]
  rw [hx] at h1
  have hxm : x < m := by omega
  refine congrArg _ (inv_is hxm (inv_of_cong hxm ?_))
  have e : back s m = s + (l - s.tmod m / m) * m := by
    unfold back
    have := Int.mul_ediv_add_emod (s.tmod m) m
    rw [Int.sub_mul, Int.mul_comm (s.tmod m / m)]
    omega
  rw [hx] at e
  rw [e, Int.add_mul]
  refine ⟨k - (l - s.tmod m / m) * a, ?_⟩
  have e2 : (k - (l - s.tmod m / m) * a) * (m : Int) = k * m - (l - s.tmod m / m) * m * a := by
    rw [Int.sub_mul, Int.mul_assoc, Int.mul_comm (a : Int), ← Int.mul_assoc]
  rw [e2]
  omega

/-- What InvMod returns for a modulus. -/
noncomputable def invV (a m : Nat) : Value := if Nat.gcd a m = 1 then .tuple #[.int .u64 (invm a m : Nat), .int .i64 0] else .tuple #[.int .u64 0, .int .i64 10]
theorem invV_yes {a m : Nat} (h : Nat.gcd a m = 1) {v : Int} (hv : v = (invm a m : Nat)) : Ending.returned (.tuple #[.int .u64 v, .int .i64 0]) = .returned (invV a m) := by rw [invV, if_pos h, hv]
theorem invV_no {a m : Nat} (h : ¬ Nat.gcd a m = 1) : Ending.returned (.tuple #[.int .u64 0, .int .i64 10]) = .returned (invV a m) := by rw [invV, if_neg h]
/-- The other algorithm: r and x are s and y times a, modulo m. -/
def EuJ (a m r x s y : Nat) : Prop :=
  Nat.gcd r x = Nat.gcd a m ∧ r ≤ m ∧ x ≤ m ∧ s < m ∧ y < m ∧ (∃ k : Int, (r : Int) = s * a + k * m) ∧ (∃ k : Int, (x : Int) = y * a + k * m)
theorem mod_is (a m : Nat) : ∃ k : Int, ((a % m : Nat) : Int) = a + k * m := by
  refine ⟨-((a / m : Nat) : Int), ?_⟩
  have := Nat.div_add_mod a m
  have h2 : ((m * (a / m) + a % m : Nat) : Int) = a := by rw [this]
  rw [Int.natCast_add, Int.natCast_mul] at h2
  have : -((a / m : Nat) : Int) * (m : Int) = -((m : Int) * ((a / m : Nat) : Int)) := by rw [Int.neg_mul, Int.mul_comm]
  omega
theorem EuJ.start (a m : Nat) (hm : 1 ≤ m) : EuJ a m (a % m) m (1 % m) 0 := by
  refine ⟨?_, Nat.le_of_lt (Nat.mod_lt _ hm), Nat.le_refl _, Nat.mod_lt _ hm, hm, ?_, ⟨1, by simp⟩⟩
  · rw [Nat.gcd_comm a, Nat.gcd_rec m a]
  · obtain ⟨k, hk⟩ := mod_is a m
    obtain ⟨l, hl⟩ := mod_is 1 m
    refine ⟨k - l * a, ?_⟩
    rw [hk, hl, Int.add_mul, Int.sub_mul, Int.mul_assoc l, Int.mul_assoc l, Int.mul_comm (m : Int)]
    simp
    omega
/-- The next y is s less q times y. -/
theorem eu_next (s y q m : Nat) (hm : 1 ≤ m) : ∃ k : Int, (((s + (m - q % m * y % m)) % m : Nat) : Int) = s - (q : Int) * y + k * m := by
  obtain ⟨k, hk⟩ := mod_is (s + (m - q % m * y % m)) m
  obtain ⟨l, hl⟩ := mod_is (q % m * y) m
  obtain ⟨n, hn⟩ := mod_is q m
  have hlt : q % m * y % m < m := Nat.mod_lt _ hm
  have e : ((s + (m - q % m * y % m) : Nat) : Int) = s + (m - ((q % m * y % m : Nat) : Int)) := by omega
  rw [hk, e, hl, Int.natCast_mul, hn]
  refine ⟨k + 1 - l - n * y, ?_⟩
  rw [Int.add_mul, Int.sub_mul, Int.sub_mul, Int.add_mul, Int.mul_assoc n, Int.mul_assoc n, Int.mul_comm (y : Int)]
  omega
theorem EuJ.step {a m r x s y : Nat} (h : EuJ a m r x s y) (hx0 : 0 < x) (hm : 1 ≤ m) : EuJ a m x (r % x) y ((s + (m - r / x % m * y % m)) % m) := by
  obtain ⟨hg, hr, hx, hs, hy, ⟨k, hk⟩, ⟨l, hl⟩⟩ := h
  refine ⟨?_, hx, ?_, hy, Nat.mod_lt _ hm, ⟨l, hl⟩, ?_⟩
  · rw [← hg, Nat.gcd_comm r x, Nat.gcd_rec x r, Nat.gcd_comm]
  · have := Nat.mod_lt r hx0
    omega
  · obtain ⟨n, hn⟩ := eu_next s y (r / x) m hm
    have h2 : ((x * (r / x) + r % x : Nat) : Int) = r := by rw [Nat.div_add_mod]
    rw [Int.natCast_add, Int.natCast_mul, Int.mul_comm] at h2
    rw [hn]
    refine ⟨k - ((r / x : Nat) : Int) * l - n * a, ?_⟩
    have e1 : (↑s - ((r / x : Nat) : Int) * ↑y + n * ↑m) * ↑a + (k - ((r / x : Nat) : Int) * l - n * ↑a) * ↑m = (↑s * ↑a + k * ↑m) - ((r / x : Nat) : Int) * (y * a + l * m) := by
      rw [Int.add_mul, Int.sub_mul, Int.sub_mul, Int.sub_mul, Int.mul_add, Int.mul_assoc, Int.mul_assoc n, Int.mul_assoc n, Int.mul_comm (a : Int) (m : Int), Int.mul_assoc _ l]; omega
    rw [e1, ← hk, ← hl]
    omega
theorem EuJ.gcd {a m r s y : Nat} (h : EuJ a m r 0 s y) : r = Nat.gcd a m := by rw [← h.1, Nat.gcd_zero_right]
theorem EuJ.inv {a m s y : Nat} (h : EuJ a m 1 0 s y) : s = invm a m := by
  obtain ⟨_, _, _, hs, _, hk, _⟩ := h
  exact inv_is hs (inv_of_cong hs hk)
end Go.Proofs.Ytphaojdfeojpeaa
