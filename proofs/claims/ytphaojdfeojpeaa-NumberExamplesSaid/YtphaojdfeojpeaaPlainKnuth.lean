/-
  The estimate of a digit of a quotient: plain laws. No program in sight.
-/
import Derived.Test.YtphaojdfeojpeaaPlainPart
namespace Go.Proofs.Ytphaojdfeojpeaa
open Go.RowKit
set_option linter.unusedVariables false

/-- The numbers of one estimate: V the divisor, W the part, both cut behind their first digits. -/
structure Est (W V P vl wl top next high p2 : Nat) : Prop where
  hV : V = vl + P * (top * 4294967296 + next)
  hW : W = wl + P * (high * 4294967296 + p2)
  vl_lt : vl < P
  wl_lt : wl < P
  top_ge : 2147483648 ≤ top
  top_lt : top < 4294967296
  next_lt : next < 4294967296
  p2_lt : p2 < 4294967296
  less : W < 4294967296 * V
namespace Est
variable {W V P vl wl top next high p2 : Nat}
theorem V_pos (h : Est W V P vl wl top next high p2) : 0 < V := by
  have := h.hV; have := h.vl_lt; have := h.top_ge
  have : 0 < P * (top * 4294967296 + next) := Nat.mul_pos (by omega) (by omega)
  omega
theorem high_le (h : Est W V P vl wl top next high p2) : high ≤ top * 4294967296 + next := by
  have h1 : P * (high * 4294967296 + p2) < P * (4294967296 * (top * 4294967296 + next + 1)) := by
    have e1 := h.hV; have e2 := h.hW; have e3 := h.vl_lt; have e4 := h.less
    have e5 : P * (4294967296 * (top * 4294967296 + next + 1)) = 4294967296 * (P * (top * 4294967296 + next) + P) := by
      rw [Nat.mul_left_comm, Nat.mul_add P]; simp
    omega
  have h2 := Nat.lt_of_mul_lt_mul_left h1
  omega
theorem high_lt (h : Est W V P vl wl top next high p2) : high < 18446744073709551616 := by
  have := h.high_le; have := h.top_lt; have := h.next_lt; omega
theorem quot_le (h : Est W V P vl wl top next high p2) {q : Nat} (hq : q * V ≤ W) : q * (top * 4294967296 + next) ≤ high * 4294967296 + p2 := by
  have h1 : P * (q * (top * 4294967296 + next)) < P * (high * 4294967296 + p2 + 1) := by
    have e1 := h.hV; have e2 := h.hW; have e4 := h.wl_lt
    have e5 : q * V = q * vl + P * (q * (top * 4294967296 + next)) := by rw [e1, Nat.mul_add, Nat.mul_left_comm]
    rw [Nat.mul_add P]
    omega
  have h2 := Nat.lt_of_mul_lt_mul_left h1
  omega
theorem start (h : Est W V P vl wl top next high p2) : W / V ≤ high / top := by
  have h1 := h.quot_le (q := W / V) (Nat.div_mul_le_self _ _)
  have ht := h.top_ge
  have hp := h.p2_lt
  rw [Nat.le_div_iff_mul_le (by omega)]
  generalize W / V = q at *
  rw [Nat.mul_add, ← Nat.mul_assoc] at h1
  omega
theorem down (h : Est W V P vl wl top next high p2) {x r : Nat} (he : x * top + r = high) (hx : W / V ≤ x) (ht : 4294967296 ≤ x ∨ r * 4294967296 + p2 < x * next) : 1 ≤ x ∧ W / V ≤ x - 1 := by
  have hl : W / V < 4294967296 := by rw [Nat.div_lt_iff_lt_mul h.V_pos]; exact h.less
  suffices hne : W / V ≠ x by
    generalize W / V = q at *
    omega
  intro e
  rcases ht with ht | ht
  · omega
  · have h1 := h.quot_le (q := x) (by rw [← e]; exact Nat.div_mul_le_self _ _)
    rw [Nat.mul_add, ← Nat.mul_assoc, ← he] at h1
    omega
theorem out1 (h : Est W V P vl wl top next high p2) {x r : Nat} (he : x * top + r = high) (hx : x < 4294967296) (ht : x * next ≤ r * 4294967296 + p2) : x ≤ W / V + 1 := by
  have h1 : x * (top * 4294967296 + next) ≤ high * 4294967296 + p2 := by rw [Nat.mul_add, ← Nat.mul_assoc, ← he]; omega
  have h2 : x * V < W + V := by
    have e1 := h.hV; have e2 := h.hW; have e3 := h.vl_lt
    have e5 : x * V = x * vl + P * (x * (top * 4294967296 + next)) := by rw [e1, Nat.mul_add, Nat.mul_left_comm]
    have e6 := Nat.mul_le_mul_left P h1
    have e7 : x * vl ≤ x * P := Nat.mul_le_mul_left _ (by omega)
    have e8 : P * (x + 1) ≤ P * (top * 4294967296 + next) := Nat.mul_le_mul_left _ (by have := h.top_ge; omega)
    rw [Nat.mul_add, Nat.mul_comm P x] at e8
    omega
  rcases Nat.eq_zero_or_pos x with h0 | h0
  · rw [h0]; exact Nat.zero_le _
  · have h3 : x - 1 ≤ W / V := by
      rw [Nat.le_div_iff_mul_le h.V_pos, Nat.sub_mul]
      omega
    generalize W / V = q at *
    omega
theorem out2 (h : Est W V P vl wl top next high p2) {x r : Nat} (he : x * top + r = high) (hr : 4294967296 ≤ r) : x < 4294967296 ∧ x * next ≤ r * 4294967296 + p2 := by
  have h1 := h.high_le
  have h2 := h.next_lt
  have h3 : x * top < 4294967296 * top := by omega
  have h4 := Nat.lt_of_mul_lt_mul_right h3
  have h5 : x * next ≤ 4294967295 * 4294967295 := Nat.mul_le_mul (by omega) (by omega)
  exact ⟨h4, by omega⟩
end Est

/-- The estimate of a part. -/
theorem est_of {p v : List Nat} {n : Nat} (hv : Dig v) (hp : Dig p) (hn : 2 ≤ n) (hvn : v.length = n) (hpn : p.length = n + 1) (ht : 2147483648 ≤ dg v (n - 1)) (hl : val p < 4294967296 * val v) :
    Est (val p) (val v) (4294967296 ^ (n - 2)) (val (v.take (n - 2))) (val (p.take (n - 2))) (dg v (n - 1)) (dg v (n - 2)) (dg p n * 4294967296 + dg p (n - 1)) (dg p (n - 2)) := by
  obtain ⟨m, rfl⟩ : ∃ m, n = m + 2 := ⟨n - 2, by omega⟩
  have a1 : m + 2 - 2 = m := by omega
  have a2 : m + 2 - 1 = m + 1 := by omega
  rw [a1, a2]
  rw [a2] at ht
  have e1 : val v = val (v.take (m + 2)) := by rw [List.take_of_length_le (by omega)]
  have e2 : val p = val (p.take (m + 3)) := by rw [List.take_of_length_le (by omega)]
  refine ⟨?_, ?_, val_take_lt hv m, val_take_lt hp m, ht, dg_lt hv _, dg_lt hv _, dg_lt hp _, hl⟩
  · rw [e1, val_take_succ, val_take_succ, Nat.pow_succ, Nat.mul_assoc, Nat.add_assoc, ← Nat.mul_add]
    congr 2
    omega
  · rw [e2, val_take_succ, val_take_succ, val_take_succ, Nat.pow_succ, Nat.pow_succ]
    try rw [Nat.pow_succ]
    generalize 4294967296 ^ m = P
    generalize dg p (m + 2) = d2
    generalize dg p (m + 1) = d1
    generalize dg p m = d0
    have g1 : P * ((d2 * 4294967296 + d1) * 4294967296 + d0) = P * d0 + P * 4294967296 * d1 + P * 4294967296 * 4294967296 * d2 := by
      rw [Nat.mul_assoc P, Nat.mul_assoc P, Nat.mul_assoc P, ← Nat.mul_add, ← Nat.mul_add]
      congr 1
      omega
    omega

/-! ### The outer loop -/
/-- k digits of the quotient are still to come. -/
def PartI (Aval V : Nat) (u q : List Nat) (k : Nat) : Prop :=
  Dig u ∧ Dig q ∧ val u + V * (4294967296 ^ k * val (q.drop k)) = Aval ∧ val (u.drop k) < V
theorem PartI.step {Aval V : Nat} {u q u' : List Nat} {j n x : Nat} (h : PartI Aval V u q (j + 1)) (hu' : Dig u') (hx : x < 4294967296) (hj : j < q.length) (hlen : u'.length = u.length) (hun : j + n + 1 ≤ u.length)
    (hVn : V < 4294967296 ^ n) (hs : ∀ p, p < j ∨ j + (n + 1) ≤ p → dg u' p = dg u p) (hval : val (seg u' j (n + 1)) + x * V = val (seg u j (n + 1))) (hlt : val (seg u' j (n + 1)) < V) : PartI Aval V u' (q.set j x) j := by
  obtain ⟨hu, hq, hA, hd⟩ := h
  have z1 : ∀ i, j + (n + 1) ≤ i → dg u i = 0 := fun i hi => dg_zero_of_drop_lt (Nat.lt_trans hd hVn) i (by omega)
  have z2 : ∀ i, j + (n + 1) ≤ i → dg u' i = 0 := fun i hi => by rw [hs i (.inr hi)]; exact z1 i hi
  have e1 := val_drop_seg z1
  have e2 := val_drop_seg z2
  refine ⟨hu', hq.set _ hx, ?_, by rw [e2]; exact hlt⟩
  have f1 : val (u'.take j) = val (u.take j) := take_ext fun p hp => hs p (.inl hp)
  rw [val_eq_take_drop u j, e1, ← hval, ← e2] at hA
  rw [val_eq_take_drop u' j, f1, val_drop_succ (q.set j x) j, dg_set_same hj]
  have f2 : val ((q.set j x).drop (j + 1)) = val (q.drop (j + 1)) := val_ext fun i => by rw [dg_drop, dg_drop, dg_set_other (by omega)]
  rw [f2]
  rw [Nat.pow_succ] at hA
  generalize 4294967296 ^ j = Q at *
  generalize val (u'.drop j) = s1 at *
  generalize val (u.take j) = s2 at *
  generalize val (q.drop (j + 1)) = s3 at *
  have g1 : V * (Q * (x + 4294967296 * s3)) = Q * (x * V) + V * (Q * 4294967296 * s3) := by
    rw [Nat.mul_add, Nat.mul_add, Nat.mul_left_comm V Q x, Nat.mul_comm V x, Nat.mul_assoc Q]
  rw [g1]
  rw [Nat.mul_add] at hA
  omega
theorem PartI.fin {Aval V : Nat} {u q : List Nat} (h : PartI Aval V u q 0) : val q = Aval / V ∧ val u = Aval % V := by
  obtain ⟨hu, hq, hA, hd⟩ := h
  simp at hA hd
  constructor
  · rw [← hA, Nat.add_mul_div_left _ _ (by omega), Nat.div_eq_of_lt hd]; omega
  · rw [← hA, Nat.add_mul_mod_self_left, Nat.mod_eq_of_lt hd]
/-- The estimate's numbers at the part at j. -/
theorem PartI.est {Aval V : Nat} {u q v : List Nat} {j n : Nat} (h : PartI Aval V u q (j + 1)) (hv : Dig v) (hV : val v = V) (hn : 2 ≤ n) (hvn : v.length = n) (hun : j + n + 1 ≤ u.length) (ht : 2147483648 ≤ dg v (n - 1)) :
    Est (val (seg u j (n + 1))) V (4294967296 ^ (n - 2)) (val (v.take (n - 2))) (val ((seg u j (n + 1)).take (n - 2))) (dg v (n - 1)) (dg v (n - 2)) (dg u (j + n) * 4294967296 + dg u (j + (n - 1))) (dg u (j + (n - 2))) := by
  obtain ⟨hu, hq, hA, hd⟩ := h
  have hVn : V < 4294967296 ^ n := by rw [← hV, ← hvn]; exact val_lt hv
  have z1 : ∀ i, j + (n + 1) ≤ i → dg u i = 0 := fun i hi => dg_zero_of_drop_lt (Nat.lt_trans hd hVn) i (by omega)
  have e1 := val_drop_seg z1
  have e2 := val_drop_succ u j
  have h1 := dg_lt hu j
  have hlt : val (seg u j (n + 1)) < 4294967296 * val v := by rw [← e1, e2, hV]; omega
  have hs : ∀ i, i < n + 1 → dg (seg u j (n + 1)) i = dg u (j + i) := fun i hi => by unfold seg; rw [dg_take hi, dg_drop]
  have := est_of (p := seg u j (n + 1)) (v := v) (n := n) hv ((hu.drop j).take _) hn hvn (by unfold seg; rw [List.length_take, List.length_drop]; omega) ht hlt
  rw [hs n (by omega), hs (n - 1) (by omega), hs (n - 2) (by omega), hV] at this
  exact this
/-- One digit: what 'subtract', and 'giveBack' where it was too much, leave. -/
theorem digit_exact {W V M s b x : Nat} (hV : 0 < V) (hWM : W < M) (hb : b ≤ 1) (hs : s < M) (h : s + x * V = W + M * b) (h1 : W / V ≤ x) (hb0 : b = 0) : x = W / V ∧ s < V ∧ s + x * V = W := by
  subst hb0
  have h2 : x ≤ W / V := by rw [Nat.le_div_iff_mul_le hV]; omega
  have e : x = W / V := by omega
  subst e
  refine ⟨rfl, ?_, by omega⟩
  have e1 := Nat.div_add_mod W V
  have e2 := Nat.mod_lt W hV
  rw [Nat.mul_comm] at e1
  generalize W / V * V = y at *
  omega
theorem digit_back {W V M s b x s' c : Nat} (hV : 0 < V) (hVM : V < M) (hWM : W < M) (hs : s < M) (h : s + x * V = W + M * b) (h2 : x ≤ W / V + 1) (hb1 : b = 1) (hc : c ≤ 1) (hs' : s' < M) (h' : s' + M * c = s + V) :
    1 ≤ x ∧ s' < V ∧ s' + (x - 1) * V = W := by
  subst hb1
  have h3 : W / V < x := by
    rw [Nat.div_lt_iff_lt_mul hV]
    omega
  obtain rfl : x = W / V + 1 := by omega
  have e : (W / V + 1) * V = W / V * V + V := by rw [Nat.add_mul]; omega
  rw [e] at h
  clear e h3 h2
  have e2 := Nat.div_add_mod W V
  have e3 := Nat.mod_lt W hV
  rw [Nat.mul_comm] at e2
  refine ⟨Nat.le_add_left 1 _, ?_, ?_⟩
  · rcases Nat.lt_or_ge c 1 with h4 | h4
    · obtain rfl : c = 0 := by omega
      omega
    · obtain rfl : c = 1 := by omega
      omega
  · rw [Nat.add_sub_cancel]
    rcases Nat.lt_or_ge c 1 with h4 | h4
    · obtain rfl : c = 0 := by omega
      omega
    · obtain rfl : c = 1 := by omega
      omega
/-- The first digits of the shifted number are below the shifted divisor. -/
theorem first_less {u v : List Nat} {k n : Nat} (hu : Dig u) (hn : 1 ≤ n) (hvn : v.length = n) (hlen : u.length = k + n) (ht : 2147483648 ≤ dg v (n - 1)) (hd : dg u (u.length - 1) < 2147483648) : val (u.drop k) < val v := by
  obtain ⟨m, rfl⟩ : ∃ m, n = m + 1 := ⟨n - 1, by omega⟩
  have e1 : val v = val (v.take (m + 1)) := by rw [List.take_of_length_le (by omega)]
  have e2 : val (u.drop k) = val ((u.drop k).take (m + 1)) := by rw [List.take_of_length_le (by rw [List.length_drop]; omega)]
  have e3 : u.length - 1 = k + m := by omega
  rw [e3] at hd
  rw [show m + 1 - 1 = m from by omega] at ht
  rw [e1, e2, val_take_succ, val_take_succ, dg_drop]
  have h1 := val_take_lt (hu.drop k) m
  have h2 : 4294967296 ^ m * (dg u (k + m) + 1) ≤ 4294967296 ^ m * dg v m := Nat.mul_le_mul_left _ (by omega)
  rw [Nat.mul_add] at h2
  omega
/-- Dividing both by a power of two. -/
theorem shift_div (a b p : Nat) (hp : 0 < p) : a * p / (b * p) = a / b ∧ a * p % (b * p) / p = a % b := by
  refine ⟨Nat.mul_div_mul_right _ _ hp, ?_⟩
  rw [Nat.mul_mod_mul_right, Nat.mul_div_cancel _ hp]
end Go.Proofs.Ytphaojdfeojpeaa
