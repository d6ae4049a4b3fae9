/-
  Division bit by bit: plain laws. No program in sight.
-/
import Derived.Test.YtphaojdfeojpeaaPlainPart
namespace Go.Proofs.Ytphaojdfeojpeaa
open Go.RowKit
set_option linter.unusedVariables false

theorem pow_two_32 (k : Nat) : (2 : Nat) ^ (32 * k) = 4294967296 ^ k := by rw [Nat.pow_mul]
theorem pow_two_cut (i : Nat) : (2 : Nat) ^ i = 4294967296 ^ (i / 32) * 2 ^ (i % 32) := by
  rw [← pow_two_32, ← Nat.pow_add, Nat.div_add_mod]
theorem dg_is {l : List Nat} (h : Dig l) (k : Nat) : dg l k = val l / 4294967296 ^ k % 4294967296 := by
  rw [val_div_pow h, val_drop_succ]
  have := dg_lt h k
  omega
theorem bit_digit {l : List Nat} (h : Dig l) (i : Nat) : dg l (i / 32) / 2 ^ (i % 32) % 2 = val l / 2 ^ i % 2 := by
  obtain ⟨t, h1, _, h3, h4⟩ := pow_split (s := i % 32) (by omega)
  have ht : t ≠ 0 := by intro e; rw [e] at h3; simp at h3
  obtain ⟨u, rfl⟩ : ∃ u, t = u + 1 := ⟨t - 1, by omega⟩
  rw [pow_two_cut i, ← Nat.div_div_eq_div_mul, val_div_pow h, val_drop_succ]
  generalize val (l.drop (i / 32 + 1)) = R
  generalize dg l (i / 32) = d
  generalize 2 ^ (i % 32) = p at *
  have e : 4294967296 * R = p * (2 * (2 ^ u * R)) := by rw [← h1, Nat.pow_succ]; simp only [Nat.mul_left_comm, Nat.mul_comm]
  rw [e, Nat.add_mul_div_left _ _ (by omega), Nat.add_mul_mod_self_left]
theorem val_set_add {l : List Nat} {k y : Nat} (h : k < l.length) : val (l.set k (dg l k + y)) = val l + 4294967296 ^ k * y := by
  have h1 := val_cut (l.set k (dg l k + y)) (k + 1)
  have h2 := val_cut l (k + 1)
  have h3 : val ((l.set k (dg l k + y)).drop (k + 1)) = val (l.drop (k + 1)) := val_ext fun p => by rw [dg_drop, dg_drop, dg_set_other (by omega)]
  rw [val_set h, h3] at h1
  rw [val_take_succ] at h2
  rw [h1, h2, Nat.mul_add]
  omega

/-- The state when the bits from i on are behind us. -/
def BitI (X V : Nat) (q : List Nat) (r i : Nat) : Prop := Dig q ∧ val q = X / 2 ^ i / V * 2 ^ i ∧ r = X / 2 ^ i % V
theorem BitI.start {X V n r i : Nat} (hr : r = X / 2 ^ i) (h : r < V) : BitI X V (List.replicate n 0) r i :=
  ⟨Dig.replicate _, by rw [val_replicate, ← hr, Nat.div_eq_of_lt h, Nat.zero_mul], by rw [← hr, Nat.mod_eq_of_lt h]⟩
theorem BitI.lt {X V r i : Nat} {q : List Nat} (h : BitI X V q r i) (hV : 0 < V) : r < V := by rw [h.2.2]; exact Nat.mod_lt _ hV
theorem bit_next (X V i : Nat) (hV : 0 < V) :
    (2 * (X / 2 ^ (i + 1) % V) + X / 2 ^ i % 2 < V → X / 2 ^ i / V = 2 * (X / 2 ^ (i + 1) / V) ∧ X / 2 ^ i % V = 2 * (X / 2 ^ (i + 1) % V) + X / 2 ^ i % 2) ∧
    (V ≤ 2 * (X / 2 ^ (i + 1) % V) + X / 2 ^ i % 2 → X / 2 ^ i / V = 2 * (X / 2 ^ (i + 1) / V) + 1 ∧ X / 2 ^ i % V = 2 * (X / 2 ^ (i + 1) % V) + X / 2 ^ i % 2 - V) := by
  have e : X / 2 ^ (i + 1) = X / 2 ^ i / 2 := by rw [Nat.pow_succ, Nat.div_div_eq_div_mul]
  rw [e]
  generalize X / 2 ^ i = Z
  have h1 := Nat.div_add_mod (Z / 2) V
  have h2 := Nat.mod_lt (Z / 2) hV
  generalize Z / 2 / V = m at *
  generalize Z / 2 % V = r at *
  have hZ : Z = V * (2 * m) + (2 * r + Z % 2) := by rw [Nat.mul_left_comm]; omega
  refine ⟨fun h => ?_, fun h => ?_⟩
  · generalize hy : 2 * r + Z % 2 = y at *
    rw [hZ, Nat.mul_add_div hV, Nat.mul_add_mod, Nat.div_eq_of_lt h, Nat.mod_eq_of_lt h]
    exact ⟨rfl, rfl⟩
  · have h3 : 2 * r + Z % 2 = V * 1 + (2 * r + Z % 2 - V) := by omega
    have h4 : 2 * r + Z % 2 - V < V := by omega
    generalize hy : 2 * r + Z % 2 - V = y at *
    rw [hZ, h3, ← Nat.add_assoc, ← Nat.mul_add, Nat.mul_add_div hV, Nat.mul_add_mod, Nat.div_eq_of_lt h4, Nat.mod_eq_of_lt h4]
    exact ⟨rfl, rfl⟩
theorem BitI.low {X V r i : Nat} {q : List Nat} (h : BitI X V q r (i + 1)) (hV : 0 < V) (hy : 2 * r + X / 2 ^ i % 2 < V) : BitI X V q (2 * r + X / 2 ^ i % 2) i := by
  obtain ⟨h1, h2, h3⟩ := h
  rw [h3] at hy ⊢
  obtain ⟨e1, e2⟩ := (bit_next X V i hV).1 hy
  refine ⟨h1, ?_, e2.symm⟩
  rw [h2, e1, Nat.pow_succ, Nat.mul_comm 2, Nat.mul_assoc, Nat.mul_comm 2]
theorem BitI.room {X V r i : Nat} {q : List Nat} (h : BitI X V q r (i + 1)) : dg q (i / 32) + 2 ^ (i % 32) < 4294967296 := by
  obtain ⟨h1, h2, h3⟩ := h
  rw [dg_is h1, h2]
  obtain ⟨t, g1, _, g3, g4⟩ := pow_split (s := i % 32) (by omega)
  have ht : t ≠ 0 := by intro e; rw [e] at g3; simp at g3
  obtain ⟨u, rfl⟩ : ∃ u, t = u + 1 := ⟨t - 1, by omega⟩
  generalize X / 2 ^ (i + 1) / V = M
  rw [Nat.pow_succ, pow_two_cut i]
  generalize 2 ^ (i % 32) = p at *
  have hB : 0 < 4294967296 ^ (i / 32) := Nat.pow_pos (by omega)
  have e : M * (4294967296 ^ (i / 32) * p * 2) = 4294967296 ^ (i / 32) * (p * 2 * M) := by simp only [Nat.mul_assoc, Nat.mul_left_comm, Nat.mul_comm]
  rw [e, Nat.mul_div_cancel_left _ hB]
  have e2 : 4294967296 = p * 2 * 2 ^ u := by rw [← g1, Nat.pow_succ]; simp only [Nat.mul_assoc, Nat.mul_comm]
  have e3 : p * 2 * M % 4294967296 = p * 2 * (M % 2 ^ u) := by
    conv => lhs; rw [e2]
    exact Nat.mul_mod_mul_left _ _ _
  rw [e3]
  have h5 : M % 2 ^ u + 1 ≤ 2 ^ u := Nat.mod_lt _ (Nat.two_pow_pos _)
  have h6 := Nat.mul_le_mul_left (p * 2) h5
  rw [← e2, Nat.mul_add] at h6
  omega
theorem BitI.high {X V r i : Nat} {q : List Nat} (h : BitI X V q r (i + 1)) (hV : 0 < V) (hq : i / 32 < q.length) (hy : V ≤ 2 * r + X / 2 ^ i % 2) :
    BitI X V (q.set (i / 32) (dg q (i / 32) + 2 ^ (i % 32))) (2 * r + X / 2 ^ i % 2 - V) i := by
  have hr := h.room
  obtain ⟨h1, h2, h3⟩ := h
  rw [h3] at hy ⊢
  obtain ⟨e1, e2⟩ := (bit_next X V i hV).2 hy
  refine ⟨h1.set _ hr, ?_, e2.symm⟩
  rw [val_set_add hq, ← pow_two_cut, h2, e1, Nat.pow_succ, Nat.add_mul, Nat.one_mul, Nat.mul_comm 2 (X / (2 ^ i * 2) / V), Nat.mul_assoc, Nat.mul_comm 2]
theorem BitI.fin {X V r : Nat} {q : List Nat} (h : BitI X V q r 0) : val q = X / V ∧ r = X % V := by
  obtain ⟨h1, h2, h3⟩ := h
  rw [Nat.pow_zero, Nat.div_one] at h2 h3
  exact ⟨by rw [h2, Nat.mul_one], h3⟩
/-- Where it starts: the highest digits are less than the divisor. -/
theorem BitI.first {a b : List Nat} (ha : Dig a) (tb : Trm b) (hb : b ≠ []) (hl : b.length ≤ a.length) (n : Nat) :
    BitI (val a) (val b) (List.replicate n 0) (val (a.drop (a.length - b.length + 1))) (32 * (a.length - b.length + 1)) := by
  refine BitI.start ?_ ?_
  · rw [pow_two_32, val_div_pow ha]
  · have h1 := val_lt (ha.drop (a.length - b.length + 1))
    have h2 := pow_le_val tb hb
    have h3 : 1 ≤ b.length := by cases b with | nil => exact absurd rfl hb | cons x l => simp
    have h4 : (a.drop (a.length - b.length + 1)).length = b.length - 1 := by rw [List.length_drop]; omega
    rw [h4] at h1
    omega
end Go.Proofs.Ytphaojdfeojpeaa
