/-
  Sums, differences, products and comparisons by digits: plain laws. No program in sight.
-/
import Derived.Test.YtphaojdfeojpeaaPlainDigits
namespace Go.Proofs.Ytphaojdfeojpeaa
open Go.RowKit
set_option linter.unusedVariables false

theorem val_ext {a b : List Nat} (h : ∀ i, dg a i = dg b i) : val a = val b := by
  induction a generalizing b with
  | nil => rw [val_zero_of (l := b) (fun i => (h i).symm)]; rfl
  | cons x a ih =>
    cases b with
    | nil => rw [val_zero_of (l := x :: a) (fun i => h i)]; rfl
    | cons y b =>
      have h0 : x = y := h 0
      simp only [val, h0, ih (fun i => h (i + 1))]
theorem val_cut (l : List Nat) (k : Nat) : val l = val (l.take k) + 4294967296 ^ k * val (l.drop k) := by
  rcases Nat.lt_or_ge l.length k with h | h
  · rw [List.take_of_length_le (by omega), List.drop_of_length_le (by omega)]; simp [val]
  · exact val_split l k h

/-! ### The order -/
/-- -1, 0 or 1. -/
def cmpN (a b : Nat) : Int := if a < b then -1 else if b < a then 1 else 0
theorem cmpN_lt {a b : Nat} (h : a < b) : cmpN a b = -1 := by simp [cmpN, h]
theorem cmpN_gt {a b : Nat} (h : b < a) : cmpN a b = 1 := by unfold cmpN; rw [if_neg (by omega), if_pos h]
theorem cmpN_eq {a b : Nat} (h : a = b) : cmpN a b = 0 := by unfold cmpN; rw [if_neg (by omega), if_neg (by omega)]
theorem cmpN_cases (a b : Nat) : (a < b ∧ cmpN a b = -1) ∨ (b < a ∧ cmpN a b = 1) ∨ (a = b ∧ cmpN a b = 0) := by
  rcases Nat.lt_trichotomy a b with h | h | h
  · exact .inl ⟨h, cmpN_lt h⟩
  · exact .inr (.inr ⟨h, cmpN_eq h⟩)
  · exact .inr (.inl ⟨h, cmpN_gt h⟩)
theorem val_lt_of_top {a b : List Nat} {i : Nat} (ha : Dig a) (hs : ∀ j, i < j → dg a j = dg b j) (h : dg a i < dg b i) : val a < val b := by
  have e : val (a.drop (i + 1)) = val (b.drop (i + 1)) := val_ext fun j => by rw [dg_drop, dg_drop]; exact hs _ (by omega)
  rw [val_cut a (i + 1), val_cut b (i + 1), e, val_take_succ, val_take_succ]
  have h1 := val_take_lt ha i
  have h2 : 4294967296 ^ i * (dg a i + 1) ≤ 4294967296 ^ i * dg b i := Nat.mul_le_mul_left _ h
  rw [Nat.mul_add] at h2
  omega
theorem val_lt_of_len {a b : List Nat} (ha : Dig a) (hb : Trm b) (h : a.length < b.length) : val a < val b := by
  have h1 := val_lt ha
  have h2 := pow_le_val hb (by intro e; rw [e] at h; simp at h)
  have h3 : 4294967296 ^ a.length ≤ 4294967296 ^ (b.length - 1) := Nat.pow_le_pow_right (by omega) (by omega)
  omega
theorem len_le_of_val {a b : List Nat} (ha : Dig a) (hb : Trm b) (h : val b ≤ val a) : b.length ≤ a.length := by
  rcases Nat.lt_or_ge a.length b.length with h' | h'
  · have := val_lt_of_len ha hb h'; omega
  · exact h'

/-! ### Sums -/
def PlusI (a b l : List Nat) (k c : Nat) : Prop := val (l.take k) + 4294967296 ^ k * c = val (a.take k) + val (b.take k) ∧ c ≤ 1 ∧ Dig l
theorem PlusI.start (a b l : List Nat) (h : Dig l) : PlusI a b l 0 0 := ⟨by simp [val], by omega, h⟩
theorem PlusI.sum {a b l : List Nat} {k c : Nat} (ha : Dig a) (hb : Dig b) (h : PlusI a b l k c) : dg a k + dg b k + c ≤ 8589934591 ∧ dg a k + dg b k ≤ 8589934590 := by
  have := dg_lt ha k; have := dg_lt hb k; have := h.2.1; omega
theorem PlusI.step {a b l : List Nat} {k c : Nat} (ha : Dig a) (hb : Dig b) (h : PlusI a b l k c) (hk : k < l.length) :
    PlusI a b (l.set k ((dg a k + dg b k + c) % 4294967296)) (k + 1) ((dg a k + dg b k + c) / 4294967296) := by
  have hs := h.sum ha hb
  obtain ⟨h1, h2, h3⟩ := h
  refine ⟨?_, by omega, h3.set _ (by omega)⟩
  rw [val_set hk, val_take_succ, val_take_succ, Nat.pow_succ]
  generalize hx : dg a k + dg b k + c = x at *
  have e : 4294967296 ^ k * (x % 4294967296) + 4294967296 ^ k * 4294967296 * (x / 4294967296) = 4294967296 ^ k * x := by
    rw [Nat.mul_assoc, ← Nat.mul_add, Nat.mod_add_div]
  have e2 : 4294967296 ^ k * x = 4294967296 ^ k * dg a k + 4294967296 ^ k * dg b k + 4294967296 ^ k * c := by rw [← hx, Nat.mul_add, Nat.mul_add]
  omega
theorem PlusI.fin {a b l : List Nat} {n c : Nat} (ha : a.length ≤ n) (hb : b.length ≤ n) (h : PlusI a b l n c) (hl : l.length = n + 1) :
    val (l.set n c) = val a + val b ∧ Dig (l.set n c) := by
  obtain ⟨h1, h2, h3⟩ := h
  rw [List.take_of_length_le ha, List.take_of_length_le hb] at h1
  refine ⟨?_, h3.set _ (by omega)⟩
  rw [← h1, ← val_set (l := l) (k := n) (x := c) (by omega), List.take_of_length_le (by simp; omega)]
theorem PlusI.snoc {a b l : List Nat} {k c : Nat} (ha : Dig a) (hb : Dig b) (h : PlusI a b l k c) (hk : l.length = k) :
    PlusI a b (l ++ [(dg a k + dg b k + c) % 4294967296]) (k + 1) ((dg a k + dg b k + c) / 4294967296) := by
  have h' : PlusI a b (l ++ [0]) k c := ⟨by rw [List.take_append_of_le_length (by omega)]; exact h.1, h.2.1, h.2.2.append (Dig.one (by omega))⟩
  have := h'.step ha hb (by simp; omega)
  rwa [List.set_append_right _ _ (by omega), hk, Nat.sub_self] at this
theorem PlusI.all {a b l : List Nat} {k c : Nat} (ha : Dig a) (hb : Dig b) (hla : a.length < k) (hlb : b.length < k) (h : PlusI a b l k c) (hl : l.length = k) : val l = val a + val b := by
  obtain ⟨h1, h2, h3⟩ := h
  rw [List.take_of_length_le (by omega), List.take_of_length_le (by omega), List.take_of_length_le (by omega)] at h1
  have e1 := val_lt ha
  have e2 := val_lt hb
  have p1 : 4294967296 ^ a.length ≤ 4294967296 ^ (k - 1) := Nat.pow_le_pow_right (by omega) (by omega)
  have p2 : 4294967296 ^ b.length ≤ 4294967296 ^ (k - 1) := Nat.pow_le_pow_right (by omega) (by omega)
  have p3 : 4294967296 ^ k = 4294967296 ^ (k - 1) * 4294967296 := by rw [← Nat.pow_succ]; congr 1; omega
  have hc : c = 0 := by
    rcases Nat.eq_zero_or_pos c with h0 | h0
    · exact h0
    · have : 4294967296 ^ k * 1 ≤ 4294967296 ^ k * c := Nat.mul_le_mul_left _ h0
      omega
  subst hc
  omega

/-! ### Differences -/
def MinusI (a b l : List Nat) (k c : Nat) : Prop := val (l.take k) + val (b.take k) = val (a.take k) + 4294967296 ^ k * c ∧ c ≤ 1 ∧ Dig l
theorem MinusI.start (a b l : List Nat) (h : Dig l) : MinusI a b l 0 0 := ⟨by simp [val], by omega, h⟩
theorem MinusI.step {a b l : List Nat} {k c d c' : Nat} (h : MinusI a b l k c) (hk : k < l.length) (hd : d < 4294967296) (hc : c' ≤ 1) (e : d + dg b k + c = dg a k + 4294967296 * c') :
    MinusI a b (l.set k d) (k + 1) c' := by
  obtain ⟨h1, h2, h3⟩ := h
  refine ⟨?_, hc, h3.set _ hd⟩
  rw [val_set hk, val_take_succ, val_take_succ, Nat.pow_succ]
  have e2 : 4294967296 ^ k * d + 4294967296 ^ k * dg b k + 4294967296 ^ k * c = 4294967296 ^ k * dg a k + 4294967296 ^ k * 4294967296 * c' := by
    rw [← Nat.mul_add, ← Nat.mul_add, e, Nat.mul_add, Nat.mul_assoc]
  omega
theorem MinusI.snoc {a b l : List Nat} {k c d c' : Nat} (h : MinusI a b l k c) (hk : l.length = k) (hd : d < 4294967296) (hc : c' ≤ 1) (e : d + dg b k + c = dg a k + 4294967296 * c') :
    MinusI a b (l ++ [d]) (k + 1) c' := by
  have h' : MinusI a b (l ++ [0]) k c := ⟨by rw [List.take_append_of_le_length (by omega)]; exact h.1, h.2.1, h.2.2.append (Dig.one (by omega))⟩
  have := h'.step (by simp; omega) hd hc e
  rwa [List.set_append_right _ _ (by omega), hk, Nat.sub_self] at this
theorem MinusI.fin {a b l : List Nat} {c : Nat} (ha : Dig a) (tb : Trm b) (h : MinusI a b l a.length c) (hl : l.length = a.length) (hv : val b ≤ val a) : val l = val a - val b ∧ c = 0 := by
  obtain ⟨h1, h2, h3⟩ := h
  have hb := len_le_of_val ha tb hv
  rw [List.take_of_length_le (by omega), List.take_of_length_le hb, List.take_of_length_le (Nat.le_refl _)] at h1
  have h4 := val_lt h3
  rw [hl] at h4
  have hc : c = 0 := by
    rcases Nat.eq_zero_or_pos c with h0 | h0
    · exact h0
    · have : 4294967296 ^ a.length * 1 ≤ 4294967296 ^ a.length * c := Nat.mul_le_mul_left _ h0
      omega
  subst hc
  omega

/-! ### Products -/
/-- After i digits of a. -/
def TimesO (a b l : List Nat) (i : Nat) : Prop := val (l.take (i + b.length)) = val (a.take i) * val b ∧ Dig l ∧ ∀ t, i + b.length ≤ t → dg l t = 0
/-- .. and j digits of b, the carry c. -/
def TimesI (a b l0 l : List Nat) (i j c : Nat) : Prop :=
  val (l.take (i + j)) + 4294967296 ^ (i + j) * c = val (l0.take (i + j)) + 4294967296 ^ i * (dg a i * val (b.take j)) ∧ Dig l ∧ c < 4294967296 ∧ ∀ t, i + j ≤ t → dg l t = dg l0 t
theorem TimesO.start (a b : List Nat) (n : Nat) : TimesO a b (List.replicate n 0) 0 := ⟨by
  have : val ((List.replicate n 0).take (0 + b.length)) = 0 := val_zero_of fun i => by
    rcases Nat.lt_or_ge i (0 + b.length) with h | h
    · rw [dg_take h, dg_replicate]
    · exact dg_out (Nat.le_trans (List.length_take_le _ _) h)
  rw [this]; simp [val], Dig.replicate n, fun t _ => dg_replicate n t⟩
theorem TimesI.start {a b l : List Nat} {i : Nat} (h : TimesO a b l i) : TimesI a b l l i 0 0 := ⟨by simp [val], h.2.1, by omega, fun _ _ => rfl⟩
theorem TimesI.bound {a b l0 l : List Nat} {i j c : Nat} (ha : Dig a) (hb : Dig b) (h : TimesI a b l0 l i j c) :
    dg a i * dg b j ≤ 18446744065119617025 ∧ dg a i * dg b j + dg l (i + j) ≤ 18446744069414584320 ∧ dg a i * dg b j + dg l (i + j) + c ≤ 18446744073709551615 := by
  have h1 := dg_lt ha i; have h2 := dg_lt hb j; have h3 := dg_lt h.2.1 (i + j); have h4 := h.2.2.1
  have : dg a i * dg b j ≤ 4294967295 * 4294967295 := Nat.mul_le_mul (by omega) (by omega)
  omega
theorem TimesI.step {a b l0 l : List Nat} {i j c : Nat} (ha : Dig a) (hb : Dig b) (h : TimesI a b l0 l i j c) (hk : i + j < l.length) :
    TimesI a b l0 (l.set (i + j) ((dg a i * dg b j + dg l (i + j) + c) % 4294967296)) i (j + 1) ((dg a i * dg b j + dg l (i + j) + c) / 4294967296) := by
  have hbd := h.bound ha hb
  obtain ⟨h1, h2, h3, h4⟩ := h
  refine ⟨?_, h2.set _ (by omega), by omega, fun t ht => ?_⟩
  · rw [← Nat.add_assoc, val_set hk, val_take_succ, val_take_succ, ← h4 (i + j) (Nat.le_refl _), Nat.pow_succ]
    generalize hx : dg a i * dg b j + dg l (i + j) + c = x at *
    have e : 4294967296 ^ (i + j) * (x % 4294967296) + 4294967296 ^ (i + j) * 4294967296 * (x / 4294967296) = 4294967296 ^ (i + j) * x := by
      rw [Nat.mul_assoc, ← Nat.mul_add, Nat.mod_add_div]
    have e2 : 4294967296 ^ (i + j) * x = 4294967296 ^ i * (dg a i * (4294967296 ^ j * dg b j)) + 4294967296 ^ (i + j) * dg l (i + j) + 4294967296 ^ (i + j) * c := by
      rw [← hx, Nat.mul_add, Nat.mul_add, Nat.pow_add, Nat.mul_assoc, Nat.mul_left_comm (dg a i)]
    rw [Nat.mul_add (dg a i), Nat.mul_add (4294967296 ^ i)]
    omega
  · rw [dg_set_other (by omega)]; exact h4 t (by omega)
theorem TimesI.fin {a b l0 l : List Nat} {i c : Nat} (h0 : TimesO a b l0 i) (h : TimesI a b l0 l i b.length c) (hk : i + b.length < l.length) : TimesO a b (l.set (i + b.length) c) (i + 1) := by
  obtain ⟨h1, h2, h3, h4⟩ := h
  obtain ⟨g1, g2, g3⟩ := h0
  refine ⟨?_, h2.set _ h3, fun t ht => ?_⟩
  · have e : i + 1 + b.length = i + b.length + 1 := by omega
    rw [e, val_set hk, h1, g1, val_take_succ, List.take_of_length_le (Nat.le_refl _), Nat.add_mul, Nat.mul_assoc]
  · rw [dg_set_other (by omega), h4 t (by omega)]; exact g3 t (by omega)
theorem TimesO.fin {a b l : List Nat} (h : TimesO a b l a.length) (hl : l.length = a.length + b.length) : val l = val a * val b := by
  obtain ⟨h1, _, _⟩ := h
  rwa [List.take_of_length_le (by omega), List.take_of_length_le (Nat.le_refl _)] at h1
end Go.Proofs.Ytphaojdfeojpeaa
