/-
  Long division by digits: plain laws. No program in sight.
-/
import Derived.Test.YtphaojdfeojpeaaPlainArith
namespace Go.Proofs.Ytphaojdfeojpeaa
open Go.RowKit
set_option linter.unusedVariables false

/-! ### A part of some digits -/
/-- The m digits from index j on. -/
def seg (l : List Nat) (j m : Nat) : List Nat := (l.drop j).take m
theorem seg_zero (l : List Nat) (j : Nat) : val (seg l j 0) = 0 := by simp [seg, val]
theorem seg_succ (l : List Nat) (j m : Nat) : val (seg l j (m + 1)) = val (seg l j m) + 4294967296 ^ m * dg l (j + m) := by
  unfold seg; rw [val_take_succ, dg_drop]
theorem seg_lt {l : List Nat} (h : Dig l) (j m : Nat) : val (seg l j m) < 4294967296 ^ m := val_take_lt (h.drop j) m
theorem seg_ext {a b : List Nat} {j m : Nat} (h : ∀ i, i < m → dg a (j + i) = dg b (j + i)) : val (seg a j m) = val (seg b j m) := by
  induction m with
  | zero => rw [seg_zero, seg_zero]
  | succ m ih => rw [seg_succ, seg_succ, ih (fun i hi => h i (by omega)), h m (by omega)]
theorem val_drop_seg {l : List Nat} {j m : Nat} (h : ∀ i, j + m ≤ i → dg l i = 0) : val (l.drop j) = val (seg l j m) := by
  rw [val_cut (l.drop j) m, List.drop_drop, val_zero_of (l := l.drop (j + m)) (fun i => by rw [dg_drop]; exact h _ (by omega))]
  simp [seg]
theorem val_drop_succ (l : List Nat) (j : Nat) : val (l.drop j) = dg l j + 4294967296 * val (l.drop (j + 1)) := by
  rw [val_cut (l.drop j) 1, List.drop_drop, val_take_succ, dg_drop]
  simp [val]
theorem val_eq_take_drop (l : List Nat) (j : Nat) : val l = val (l.take j) + 4294967296 ^ j * val (l.drop j) := val_cut l j
theorem take_ext {a b : List Nat} {m : Nat} (h : ∀ i, i < m → dg a i = dg b i) : val (a.take m) = val (b.take m) := by
  induction m with
  | zero => simp
  | succ m ih => rw [val_take_succ, val_take_succ, ih (fun i hi => h i (by omega)), h m (by omega)]
theorem dg_zero_of_drop_lt {l : List Nat} {j n : Nat} (h : val (l.drop j) < 4294967296 ^ n) : ∀ i, j + n ≤ i → dg l i = 0 := by
  intro i hi
  rcases Nat.eq_zero_or_pos (dg l i) with h0 | h0
  · exact h0
  · exfalso
    have e : val (l.drop j) = val ((l.drop j).take (i - j)) + 4294967296 ^ (i - j) * val (l.drop i) := by
      have := val_cut (l.drop j) (i - j)
      rw [List.drop_drop, show j + (i - j) = i from by omega] at this
      exact this
    have e2 := val_drop_succ l i
    have h1 : 4294967296 ^ (i - j) * 1 ≤ 4294967296 ^ (i - j) * val (l.drop i) := Nat.mul_le_mul_left _ (by omega)
    have h2 : 4294967296 ^ n ≤ 4294967296 ^ (i - j) := Nat.pow_le_pow_right (by omega) (by omega)
    omega

/-! ### subtract and giveBack -/
/-- i digits of the part at j are done: c is carried, b borrowed. -/
def SubI (u v l : List Nat) (j x i c b : Nat) : Prop :=
  Dig l ∧ l.length = u.length ∧ c < 4294967296 ∧ b ≤ 1 ∧ (v.length < i → c = 0) ∧ (∀ p, p < j ∨ j + i ≤ p → dg l p = dg u p) ∧
    val (seg l j i) + x * val (v.take i) = val (seg u j i) + 4294967296 ^ i * (c + b)
theorem SubI.start {u v : List Nat} (hu : Dig u) (j x : Nat) : SubI u v u j x 0 0 0 := ⟨hu, rfl, by omega, by omega, fun h => rfl, fun p _ => rfl, by simp [seg_zero, val]⟩
theorem SubI.bound {u v l : List Nat} {j x i c b : Nat} (h : SubI u v l j x i c b) (hv : Dig v) (hx : x < 4294967296) : x * dg v i + c ≤ 18446744073709551615 ∧ x * dg v i ≤ 18446744065119617025 := by
  have h1 := dg_lt hv i
  have h2 : x * dg v i ≤ 4294967295 * 4294967295 := Nat.mul_le_mul (by omega) (by omega)
  have := h.2.2.1
  omega
theorem SubI.step {u v l : List Nat} {j x i c b d b' : Nat} (h : SubI u v l j x i c b) (hv : Dig v) (hx : x < 4294967296) (hi : j + i < u.length) (hd : d < 4294967296) (hb' : b' ≤ 1)
    (he : d + (x * dg v i + c) % 4294967296 + b = dg u (j + i) + 4294967296 * b') : SubI u v (l.set (j + i) d) j x (i + 1) ((x * dg v i + c) / 4294967296) b' := by
  obtain ⟨hl, hlen, hc, hb, hz, hs, hval⟩ := h
  have hbd := SubI.bound ⟨hl, hlen, hc, hb, hz, hs, hval⟩ hv hx
  refine ⟨hl.set _ hd, by simpa using hlen, by omega, hb', fun hlt => ?_, fun p hp => ?_, ?_⟩
  · rw [dg_out (l := v) (i := i) (by omega)]; omega
  · rw [dg_set_other (by omega)]; exact hs p (by omega)
  · have e1 : val (seg (l.set (j + i) d) j i) = val (seg l j i) := seg_ext fun p hp => dg_set_other (by omega)
    rw [seg_succ, seg_succ, e1, dg_set_same (by omega), val_take_succ]
    generalize dg v i = dv at *
    generalize dg u (j + i) = du at *
    generalize hq : x * dv + c = q at *
    have e2 : q = q % 4294967296 + 4294967296 * (q / 4294967296) := by omega
    rw [Nat.pow_succ]
    generalize 4294967296 ^ i = P at *
    generalize val (seg l j i) = s1 at *
    generalize val (seg u j i) = s2 at *
    generalize val (v.take i) = s3 at *
    have e3 : x * (s3 + P * dv) = x * s3 + P * (x * dv) := by rw [Nat.mul_add, Nat.mul_left_comm]
    rw [e3]
    have e4 : P * d + P * (x * dv) + P * (c + b) = P * du + P * 4294967296 * (q / 4294967296 + b') := by
      rw [Nat.mul_assoc, ← Nat.mul_add, ← Nat.mul_add, ← Nat.mul_add]
      congr 1
      omega
    omega
theorem SubI.fin {u v l : List Nat} {j x m c b : Nat} (h : SubI u v l j x m c b) (hv : Dig v) (hm : v.length < m) : val (seg l j m) + x * val v = val (seg u j m) + 4294967296 ^ m * b := by
  obtain ⟨hl, hlen, hc, hb, hz, hs, hval⟩ := h
  have h0 := hz hm
  subst h0
  rw [List.take_of_length_le (by omega), Nat.zero_add] at hval
  exact hval

/-- i digits of the part at j are given back: c is carried. -/
def GiveI (u v l : List Nat) (j i c : Nat) : Prop :=
  Dig l ∧ l.length = u.length ∧ c ≤ 1 ∧ (∀ p, p < j ∨ j + i ≤ p → dg l p = dg u p) ∧ val (seg l j i) + 4294967296 ^ i * c = val (seg u j i) + val (v.take i)
theorem GiveI.start {u v : List Nat} (hu : Dig u) (j : Nat) : GiveI u v u j 0 0 := ⟨hu, rfl, by omega, fun p _ => rfl, by simp [seg_zero, val]⟩
theorem GiveI.step {u v l : List Nat} {j i c : Nat} (h : GiveI u v l j i c) (hu : Dig u) (hv : Dig v) (hi : j + i < u.length) :
    GiveI u v (l.set (j + i) ((dg u (j + i) + dg v i + c) % 4294967296)) j (i + 1) ((dg u (j + i) + dg v i + c) / 4294967296) := by
  obtain ⟨hl, hlen, hc, hs, hval⟩ := h
  have h1 := dg_lt hu (j + i)
  have h2 := dg_lt hv i
  refine ⟨hl.set _ (by omega), by simpa using hlen, by omega, fun p hp => ?_, ?_⟩
  · rw [dg_set_other (by omega)]; exact hs p (by omega)
  · have e1 : val (seg (l.set (j + i) ((dg u (j + i) + dg v i + c) % 4294967296)) j i) = val (seg l j i) := seg_ext fun p hp => dg_set_other (by omega)
    rw [seg_succ, seg_succ, e1, dg_set_same (by omega), val_take_succ]
    generalize dg v i = dv at *
    generalize dg u (j + i) = du at *
    generalize hq : du + dv + c = q at *
    rw [Nat.pow_succ]
    generalize 4294967296 ^ i = P at *
    have e4 : P * (q % 4294967296) + P * 4294967296 * (q / 4294967296) = P * du + P * dv + P * c := by
      rw [Nat.mul_assoc, ← Nat.mul_add, ← Nat.mul_add, ← Nat.mul_add]
      congr 1
      omega
    omega
theorem GiveI.fin {u v l : List Nat} {j m c : Nat} (h : GiveI u v l j m c) (hm : v.length ≤ m) : val (seg l j m) + 4294967296 ^ m * c = val (seg u j m) + val v := by
  have := h.2.2.2.2
  rwa [List.take_of_length_le hm] at this

/-! ### shifted and unshifted -/
theorem pow_split {s : Nat} (h : s ≤ 31) : ∃ t, 2 ^ s * 2 ^ t = 4294967296 ∧ 2 ^ s ≤ 2147483648 ∧ 2 ≤ 2 ^ t ∧ 1 ≤ 2 ^ s := by
  refine ⟨32 - s, ?_, ?_, ?_, ?_⟩
  · rw [← Nat.pow_add, show s + (32 - s) = 32 from by omega]
  · exact Nat.le_trans (Nat.pow_le_pow_right (by omega) h) (by decide)
  · exact Nat.le_trans (by decide : 2 ≤ 2 ^ 1) (Nat.pow_le_pow_right (by omega) (by omega))
  · exact Nat.one_le_two_pow
/-- The digits of a times 2^s, the first i of them done. -/
def ShI (a l : List Nat) (s i : Nat) : Prop := Dig l ∧ l.length = a.length + 1 ∧ dg l i < 2 ^ s ∧ (∀ p, i < p → dg l p = 0) ∧ val (l.take (i + 1)) = val (a.take i) * 2 ^ s
theorem ShI.start (a : List Nat) (s : Nat) : ShI a (List.replicate (a.length + 1) 0) s 0 := by
  refine ⟨Dig.replicate _, by simp, by rw [dg_replicate]; exact Nat.two_pow_pos s, fun p _ => dg_replicate _ _, ?_⟩
  rw [val_take_succ, dg_replicate]; simp [val]
/-- What 'or' makes: a sum. -/
theorem or_low {s x d : Nat} (hs : s ≤ 31) (hd : d < 2 ^ s) : d ||| (x * 2 ^ s) % 4294967296 = d + (x * 2 ^ s) % 4294967296 := by
  obtain ⟨t, ht, _⟩ := pow_split hs
  have e : (x * 2 ^ s) % 4294967296 = 2 ^ s * (x % 2 ^ t) := by rw [Nat.mul_comm x, ← ht, Nat.mul_mod_mul_left]
  rw [e, Nat.or_comm, ← Nat.two_pow_add_eq_or_of_lt hd, Nat.add_comm]
theorem or_low_lt {s x d : Nat} (hs : s ≤ 31) (hd : d < 2 ^ s) : d + (x * 2 ^ s) % 4294967296 < 4294967296 := by
  obtain ⟨t, ht, _⟩ := pow_split hs
  have e : (x * 2 ^ s) % 4294967296 = 2 ^ s * (x % 2 ^ t) := by rw [Nat.mul_comm x, ← ht, Nat.mul_mod_mul_left]
  rw [e]
  have h1 : x % 2 ^ t < 2 ^ t := Nat.mod_lt _ (Nat.two_pow_pos t)
  have h2 : 2 ^ s * (x % 2 ^ t + 1) ≤ 2 ^ s * 2 ^ t := Nat.mul_le_mul_left _ h1
  rw [ht, Nat.mul_add] at h2
  omega
theorem ShI.step {a l : List Nat} {s i : Nat} (h : ShI a l s i) (ha : Dig a) (hs : s ≤ 31) (hi : i < a.length) :
    ShI a ((l.set i (dg l i + (dg a i * 2 ^ s) % 4294967296)).set (i + 1) (dg a i * 2 ^ s / 4294967296)) s (i + 1) := by
  obtain ⟨hl, hlen, hd, hz, hval⟩ := h
  obtain ⟨t, ht, hp1, hp2, hp3⟩ := pow_split hs
  have hda := dg_lt ha i
  have hov : dg a i * 2 ^ s / 4294967296 < 2 ^ s := by
    rw [Nat.div_lt_iff_lt_mul (by omega), Nat.mul_comm]
    exact Nat.mul_lt_mul_of_pos_left hda (by omega)
  refine ⟨(hl.set _ (or_low_lt hs hd)).set _ (by omega), by simpa using hlen, ?_, fun p hp => ?_, ?_⟩
  · rw [dg_set_same (by simp; omega)]; exact hov
  · rw [dg_set_other (by omega), dg_set_other (by omega)]; exact hz p (by omega)
  · rw [val_take_succ, dg_set_same (by simp; omega), val_take_succ, dg_set_other (by omega), dg_set_same (by omega)]
    have e1 : val (((l.set i (dg l i + dg a i * 2 ^ s % 4294967296)).set (i + 1) (dg a i * 2 ^ s / 4294967296)).take i) = val (l.take i) :=
      take_ext fun p hp => by rw [dg_set_other (by omega), dg_set_other (by omega)]
    rw [e1, val_take_succ, Nat.add_mul, ← hval, val_take_succ]
    generalize dg l i = d at *
    generalize dg a i = x at *
    rw [Nat.mul_assoc]
    generalize x * 2 ^ s = y at *
    rw [Nat.pow_succ]
    generalize 4294967296 ^ i = P at *
    have e2 : P * (y % 4294967296) + P * 4294967296 * (y / 4294967296) = P * y := by
      rw [Nat.mul_assoc, ← Nat.mul_add]
      congr 1
      omega
    rw [Nat.mul_add]
    omega
theorem ShI.fin {a l : List Nat} {s : Nat} (h : ShI a l s a.length) : val l = val a * 2 ^ s := by
  have := h.2.2.2.2
  rwa [List.take_of_length_le (by have := h.2.1; omega), List.take_of_length_le (Nat.le_refl _)] at this

/-- The digits of u over 2^s, the first i of them done. -/
def UnI (u l : List Nat) (s i : Nat) : Prop := Dig l ∧ l.length = u.length ∧ val (l.take i) = (val u / 2 ^ s) % 4294967296 ^ i
theorem UnI.start (u : List Nat) (s : Nat) : UnI u (List.replicate u.length 0) s 0 := ⟨Dig.replicate _, by simp, by simp [val]; omega⟩
theorem val_div_pow {u : List Nat} (hu : Dig u) (i : Nat) : val u / 4294967296 ^ i = val (u.drop i) := by
  rw [val_cut u i, Nat.add_mul_div_left _ _ (Nat.pow_pos (by omega)), Nat.div_eq_of_lt (val_take_lt hu i)]; omega
theorem un_digit {u : List Nat} {s i : Nat} (hs : s ≤ 31) (hu : Dig u) : (val u / 2 ^ s) / 4294967296 ^ i % 4294967296 = ((dg u (i + 1) * 4294967296 + dg u i) / 2 ^ s) % 4294967296 := by
  obtain ⟨t, ht, hp1, hp2, hp3⟩ := pow_split hs
  rw [Nat.div_div_eq_div_mul, Nat.mul_comm (2 ^ s), ← Nat.div_div_eq_div_mul, val_div_pow hu, val_drop_succ, val_drop_succ]
  generalize val (u.drop (i + 1 + 1)) = R
  generalize dg u i = d0
  generalize dg u (i + 1) = d1
  have e : d0 + 4294967296 * (d1 + 4294967296 * R) = (d1 * 4294967296 + d0) + 2 ^ s * (4294967296 * (2 ^ t * R)) := by
    rw [Nat.mul_left_comm (2 ^ s), ← Nat.mul_assoc (2 ^ s), ht]; omega
  rw [e, Nat.add_mul_div_left _ _ (by omega)]
  omega
theorem UnI.step {u l : List Nat} {s i : Nat} (h : UnI u l s i) (hs : s ≤ 31) (hu : Dig u) (hi : i < u.length) : UnI u (l.set i (((dg u (i + 1) * 4294967296 + dg u i) / 2 ^ s) % 4294967296)) s (i + 1) := by
  obtain ⟨hl, hlen, hval⟩ := h
  refine ⟨hl.set _ (by omega), by simpa using hlen, ?_⟩
  rw [val_set (by omega), hval, Nat.pow_succ, Nat.mod_mul, un_digit hs hu]
theorem UnI.fin {u l : List Nat} {s : Nat} (h : UnI u l s u.length) (hu : Dig u) : val l = val u / 2 ^ s := by
  have := h.2.2
  rw [List.take_of_length_le (by have := h.2.1; omega)] at this
  rw [this, Nat.mod_eq_of_lt]
  exact Nat.lt_of_le_of_lt (Nat.div_le_self _ _) (val_lt hu)
end Go.Proofs.Ytphaojdfeojpeaa
