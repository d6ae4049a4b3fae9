/-
  Decimal texts: plain laws. No program in sight.
-/
import Derived.Test.YtphaojdfeojpeaaPlainPart
namespace Go.Proofs.Ytphaojdfeojpeaa
open Go.RowKit
set_option linter.unusedVariables false

/-- The byte of the last decimal digit. -/
def dch (n : Nat) : UInt8 := UInt8.ofNat (48 + n % 10)
theorem dch_toNat (n : Nat) : (dch n).toNat = 48 + n % 10 := by
  unfold dch
  rw [UInt8.toNat_ofNat']
  omega
def decF : Nat → Nat → List UInt8
  | 0, n => [dch n]
  | f + 1, n => if n < 10 then [dch n] else dch n :: decF f (n / 10)
/-- The decimal digits, the last one first. -/
def decR (n : Nat) : List UInt8 := decF n n
theorem decF_enough : ∀ (f g n : Nat), n ≤ f → n ≤ g → decF f n = decF g n := by
  intro f
  induction f with
  | zero =>
    intro g n hf _
    obtain rfl : n = 0 := by omega
    cases g <;> rfl
  | succ f ih =>
    intro g n hf hg
    cases g with
    | zero =>
      obtain rfl : n = 0 := by omega
      rfl
    | succ g =>
      unfold decF
      by_cases h : n < 10
      · rw [if_pos h, if_pos h]
      · rw [if_neg h, if_neg h, ih g (n / 10) (by omega) (by omega)]
theorem decR_small {n : Nat} (h : n < 10) : decR n = [dch n] := by
  unfold decR
  cases n with
  | zero => rfl
  | succ n => unfold decF; rw [if_pos h]
theorem decR_big {n : Nat} (h : 10 ≤ n) : decR n = dch n :: decR (n / 10) := by
  obtain ⟨m, rfl⟩ : ∃ m, n = m + 1 := ⟨n - 1, by omega⟩
  show decF (m + 1) (m + 1) = _
  unfold decF
  rw [if_neg (by omega), decF_enough m ((m + 1) / 10) _ (by omega) (Nat.le_refl _)]
  rfl
theorem decR_len : ∀ (k n : Nat), n < 10 ^ (k + 1) → (decR n).length ≤ k + 1 := by
  intro k
  induction k with
  | zero => intro n h; rw [decR_small (by simpa using h)]; simp
  | succ k ih =>
    intro n h
    by_cases hn : n < 10
    · rw [decR_small hn]; simp
    · rw [decR_big (by omega), List.length_cons]
      have := ih (n / 10) (by rw [Nat.div_lt_iff_lt_mul (by omega)]; rwa [Nat.pow_succ] at h)
      omega
theorem decR_len16 {n : Nat} (h : (digs n).length ≤ 16) : (decR n).length ≤ 155 := by
  refine decR_len 154 n (Nat.lt_of_lt_of_le (lt_of_digs_len h) ?_)
  have h1 : (4294967296 : Nat) ^ 16 ≤ 4294967296 ^ 16 := Nat.le_refl _
  decide
theorem decR_ne (n : Nat) : decR n ≠ [] := by
  by_cases h : n < 10
  · rw [decR_small h]; simp
  · rw [decR_big (by omega)]; simp
theorem dg_digs_small {y : Nat} (h : y < 4294967296) : dg (digs y) 0 = y := by
  by_cases h0 : y = 0
  · subst h0; rfl
  · rw [digs_pos h0]
    show y % 4294967296 = y
    omega

/-- The number of a decimal text. -/
def decV (l : List UInt8) : Nat := l.foldl (fun a c => a * 10 + (c.toNat - 48)) 0
theorem decV_snoc (l : List UInt8) (c : UInt8) : decV (l ++ [c]) = decV l * 10 + (c.toNat - 48) := by simp [decV, List.foldl_append]
theorem decV_nil : decV [] = 0 := rfl
/-- Only digits. -/
def allDig (l : List UInt8) : Bool := l.all fun c => decide (48 ≤ c.toNat) && decide (c.toNat ≤ 57)
/-- The form of a decimal text. -/
def formB (l : List UInt8) : Bool := decide (l ≠ []) && !(decide (1 < l.length) && (l.getD 0 0 == 48)) && allDig l
theorem allDig_iff {l : List UInt8} : allDig l = true ↔ ∀ c ∈ l, 48 ≤ c.toNat ∧ c.toNat ≤ 57 := by simp [allDig, List.all_eq_true]
theorem decV_take_le (l : List UInt8) : ∀ k, decV (l.take k) ≤ decV l := by
  suffices ∀ (b a : List UInt8), decV a ≤ decV (a ++ b) by
    intro k
    have := this (l.drop k) (l.take k)
    rwa [List.take_append_drop] at this
  intro b
  induction b with
  | nil => intro a; simp
  | cons c b ih =>
    intro a
    have h := ih (a ++ [c])
    rw [List.append_assoc, decV_snoc] at h
    simp only [List.singleton_append] at h
    omega
end Go.Proofs.Ytphaojdfeojpeaa
