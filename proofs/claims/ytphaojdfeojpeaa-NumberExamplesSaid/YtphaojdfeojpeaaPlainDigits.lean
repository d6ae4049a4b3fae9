/-
  Digits to the base 2^32: plain laws. No program in sight.
-/
import Derived.Test.YtphaojdfeojpeaaPlainMod
namespace Go.Proofs.Ytphaojdfeojpeaa
open Go.RowKit
set_option linter.unusedVariables false

/-- The digit with an index, 0 beyond the end. -/
def dg (l : List Nat) (i : Nat) : Nat := l.getD i 0
/-- All digits are below the base. -/
def Dig (l : List Nat) : Prop := ∀ x ∈ l, x < 4294967296
/-- The number. -/
def val : List Nat → Nat
  | [] => 0
  | x :: l => x + 4294967296 * val l
/-- The last digit, if there is one, is not 0. -/
def Trm (l : List Nat) : Prop := l = [] ∨ dg l (l.length - 1) ≠ 0

theorem dg_out {l : List Nat} {i : Nat} (h : l.length ≤ i) : dg l i = 0 := by
  unfold dg; rw [List.getD_eq_getElem?_getD, List.getElem?_eq_none h]; rfl
theorem dg_in {l : List Nat} {i : Nat} (h : i < l.length) : dg l i = l[i] := by
  unfold dg; rw [List.getD_eq_getElem?_getD, List.getElem?_eq_getElem h]; rfl
theorem dg_lt {l : List Nat} (h : Dig l) (i : Nat) : dg l i < 4294967296 := by
  rcases Nat.lt_or_ge i l.length with hi | hi
  · rw [dg_in hi]; exact h _ (List.getElem_mem hi)
  · rw [dg_out hi]; omega
theorem dg_set_same {l : List Nat} {i x : Nat} (h : i < l.length) : dg (l.set i x) i = x := by
  rw [dg_in (by simpa using h)]; simp
theorem dg_set_other {l : List Nat} {i j x : Nat} (h : i ≠ j) : dg (l.set i x) j = dg l j := by
  unfold dg; rw [List.getD_eq_getElem?_getD, List.getD_eq_getElem?_getD, List.getElem?_set_ne h]
theorem dg_take {l : List Nat} {n i : Nat} (h : i < n) : dg (l.take n) i = dg l i := by
  unfold dg; rw [List.getD_eq_getElem?_getD, List.getD_eq_getElem?_getD, List.getElem?_take_of_lt h]
theorem dg_drop (l : List Nat) (n i : Nat) : dg (l.drop n) i = dg l (n + i) := by
  unfold dg; rw [List.getD_eq_getElem?_getD, List.getD_eq_getElem?_getD, List.getElem?_drop]
theorem dg_replicate (n i : Nat) : dg (List.replicate n 0) i = 0 := by
  rcases Nat.lt_or_ge i n with h | h
  · rw [dg_in (by simpa using h)]; simp
  · exact dg_out (by simpa using h)
theorem Dig.nil : Dig [] := fun x h => by cases h
theorem Dig.take {l : List Nat} (h : Dig l) (n : Nat) : Dig (l.take n) := fun x hx => h x (List.mem_of_mem_take hx)
theorem Dig.drop {l : List Nat} (h : Dig l) (n : Nat) : Dig (l.drop n) := fun x hx => h x (List.mem_of_mem_drop hx)
theorem Dig.set {l : List Nat} (h : Dig l) (i : Nat) {x : Nat} (hx : x < 4294967296) : Dig (l.set i x) := fun y hy => by
  rcases List.mem_or_eq_of_mem_set hy with h' | h'
  · exact h y h'
  · omega
theorem Dig.replicate (n : Nat) : Dig (List.replicate n 0) := fun x hx => by rw [List.eq_of_mem_replicate hx]; omega
theorem Dig.append {a b : List Nat} (ha : Dig a) (hb : Dig b) : Dig (a ++ b) := fun x hx => (List.mem_append.1 hx).elim (ha x) (hb x)
theorem Dig.one {x : Nat} (h : x < 4294967296) : Dig [x] := fun y hy => by rw [List.mem_singleton.1 hy]; exact h
theorem Dig.cons {x : Nat} {l : List Nat} (h : Dig (x :: l)) : x < 4294967296 ∧ Dig l := ⟨h x (List.mem_cons_self), fun y hy => h y (List.mem_cons_of_mem _ hy)⟩

theorem val_append (a b : List Nat) : val (a ++ b) = val a + 4294967296 ^ a.length * val b := by
  induction a with
  | nil => simp [val]
  | cons x a ih =>
    simp only [List.cons_append, val, ih, List.length_cons, Nat.pow_succ, Nat.mul_add]
    rw [Nat.mul_assoc, Nat.mul_left_comm (4294967296 ^ a.length)]; omega
theorem val_replicate (n : Nat) : val (List.replicate n 0) = 0 := by
  induction n with
  | zero => rfl
  | succ n ih => simp [List.replicate_succ, val, ih]
theorem take_dg {l : List Nat} {k : Nat} (h : k < l.length) : l.take (k + 1) = l.take k ++ [dg l k] := by
  rw [List.take_succ_eq_append_getElem h, dg_in h]
theorem val_take_succ (l : List Nat) (k : Nat) : val (l.take (k + 1)) = val (l.take k) + 4294967296 ^ k * dg l k := by
  rcases Nat.lt_or_ge k l.length with h | h
  · rw [take_dg h, val_append]
    simp [val, Nat.min_eq_left (Nat.le_of_lt h)]
  · rw [dg_out h, List.take_of_length_le (by omega), List.take_of_length_le h]; simp
theorem val_lt {l : List Nat} (h : Dig l) : val l < 4294967296 ^ l.length := by
  induction l with
  | nil => simp [val]
  | cons x l ih =>
    obtain ⟨hx, hl⟩ := h.cons
    have := ih hl
    simp only [val, List.length_cons, Nat.pow_succ]
    have h2 : (val l + 1) * 4294967296 ≤ 4294967296 ^ l.length * 4294967296 := Nat.mul_le_mul_right _ this
    omega
theorem val_take_lt {l : List Nat} (h : Dig l) (k : Nat) : val (l.take k) < 4294967296 ^ k := by
  refine Nat.lt_of_lt_of_le (val_lt (h.take k)) (Nat.pow_le_pow_right (by omega) (List.length_take_le _ _))
theorem val_zero_of {l : List Nat} (h : ∀ i, dg l i = 0) : val l = 0 := by
  induction l with
  | nil => rfl
  | cons x l ih =>
    have h0 : x = 0 := h 0
    have h1 : ∀ i, dg l i = 0 := fun i => h (i + 1)
    simp [val, h0, ih h1]
theorem val_split (l : List Nat) (k : Nat) (h : k ≤ l.length) : val l = val (l.take k) + 4294967296 ^ k * val (l.drop k) := by
  conv => lhs; rw [← List.take_append_drop k l]
  rw [val_append, List.length_take, Nat.min_eq_left h]
theorem val_take_of {l : List Nat} {n : Nat} (hn : n ≤ l.length) (h : ∀ i, n ≤ i → dg l i = 0) : val (l.take n) = val l := by
  rw [val_split l n hn, val_zero_of (l := l.drop n) (fun i => by rw [dg_drop]; exact h _ (by omega))]; simp
theorem val_set {l : List Nat} {k x : Nat} (h : k < l.length) : val ((l.set k x).take (k + 1)) = val (l.take k) + 4294967296 ^ k * x := by
  rw [val_take_succ, dg_set_same h, List.take_set_of_le (Nat.le_refl k)]

/-- The digits of a number, without zeros at the end. -/
def digsF : Nat → Nat → List Nat
  | 0, _ => []
  | f + 1, n => if n = 0 then [] else (n % 4294967296) :: digsF f (n / 4294967296)
def digs (n : Nat) : List Nat := digsF n n
theorem digsF_enough : ∀ (f g n : Nat), n ≤ f → n ≤ g → digsF f n = digsF g n := by
  intro f
  induction f with
  | zero => intro g n hf hg; (obtain rfl : n = 0 := by omega); cases g <;> simp [digsF]
  | succ f ih =>
    intro g n hf hg
    cases g with
    | zero => (obtain rfl : n = 0 := by omega); simp [digsF]
    | succ g =>
      simp only [digsF]
      by_cases h : n = 0
      · simp [h]
      · rw [if_neg h, if_neg h, ih g (n / 4294967296) (by omega) (by omega)]
theorem digs_zero : digs 0 = [] := rfl
theorem digs_pos {n : Nat} (h : n ≠ 0) : digs n = (n % 4294967296) :: digs (n / 4294967296) := by
  unfold digs
  obtain ⟨m, rfl⟩ : ∃ m, n = m + 1 := ⟨n - 1, by omega⟩
  rw [digsF, if_neg h, digsF_enough m ((m + 1) / 4294967296) _ (by omega) (by omega)]
theorem val_digs (n : Nat) : val (digs n) = n := by
  induction n using Nat.strongRecOn with
  | _ n ih =>
    by_cases h : n = 0
    · subst h; rfl
    · rw [digs_pos h, val, ih (n / 4294967296) (by omega)]; omega
theorem Dig.digs (n : Nat) : Dig (digs n) := by
  induction n using Nat.strongRecOn with
  | _ n ih =>
    by_cases h : n = 0
    · subst h; exact Dig.nil
    · rw [digs_pos h]
      intro x hx
      rcases List.mem_cons.1 hx with h' | h'
      · omega
      · exact ih (n / 4294967296) (by omega) x h'
theorem digs_ne {n : Nat} (h : n ≠ 0) : digs n ≠ [] := by rw [digs_pos h]; simp
theorem digs_nil {n : Nat} : digs n = [] ↔ n = 0 := ⟨fun h => by
  by_cases hn : n = 0
  · exact hn
  · exact absurd h (digs_ne hn), fun h => by subst h; rfl⟩
theorem dg_cons_succ (x : Nat) (l : List Nat) (i : Nat) : dg (x :: l) (i + 1) = dg l i := rfl
theorem Trm.cons {x : Nat} {l : List Nat} (h : Trm (x :: l)) : Trm l := by
  cases l with
  | nil => exact .inl rfl
  | cons y l =>
    rcases h with h | h
    · cases h
    · exact .inr (by simpa [dg_cons_succ] using h)
theorem Trm.digs (n : Nat) : Trm (digs n) := by
  induction n using Nat.strongRecOn with
  | _ n ih =>
    by_cases h : n = 0
    · subst h; exact .inl rfl
    · rw [digs_pos h]
      refine .inr ?_
      by_cases h2 : n / 4294967296 = 0
      · rw [h2, digs_zero]
        show n % 4294967296 ≠ 0
        omega
      · rcases ih (n / 4294967296) (by omega) with h3 | h3
        · exact absurd h3 (digs_ne h2)
        · have hl : 0 < (Go.Proofs.Ytphaojdfeojpeaa.digs (n / 4294967296)).length := List.length_pos_iff.2 (digs_ne h2)
          simp only [List.length_cons, Nat.add_sub_cancel]
          obtain ⟨k, hk⟩ : ∃ k, (Go.Proofs.Ytphaojdfeojpeaa.digs (n / 4294967296)).length = k + 1 := ⟨_, (Nat.sub_add_cancel hl).symm⟩
          rw [hk, dg_cons_succ]
          rw [hk] at h3
          exact h3
theorem val_pos {l : List Nat} (h : Trm l) (hne : l ≠ []) : 0 < val l := by
  rcases h with h | h
  · exact absurd h hne
  · rcases Nat.eq_zero_or_pos (val l) with h0 | h0
    · exfalso
      have : ∀ l : List Nat, val l = 0 → ∀ i, dg l i = 0 := by
        intro l
        induction l with
        | nil => intro _ i; rfl
        | cons x l ih =>
          intro hv i
          simp only [val] at hv
          cases i with
          | zero => show x = 0; omega
          | succ i => exact ih (by omega) i
      exact h (this l h0 _)
    · exact h0
theorem digs_val {l : List Nat} (hd : Dig l) (ht : Trm l) : digs (val l) = l := by
  induction l with
  | nil => rfl
  | cons x l ih =>
    obtain ⟨hx, hl⟩ := hd.cons
    have hp := val_pos ht (by simp)
    rw [digs_pos (by omega)]
    have e1 : val (x :: l) % 4294967296 = x := by simp only [val]; omega
    have e2 : val (x :: l) / 4294967296 = val l := by simp only [val]; omega
    rw [e1, e2, ih hl ht.cons]
/-- Digits without the zeros at their end. -/
theorem digs_trim {l : List Nat} {n : Nat} (hd : Dig l) (hn : n ≤ l.length) (h : ∀ i, n ≤ i → dg l i = 0) (hl : n = 0 ∨ dg l (n - 1) ≠ 0) : digs (val l) = l.take n := by
  rw [← val_take_of hn h]
  refine digs_val (hd.take n) ?_
  rcases hl with rfl | hl
  · exact .inl (by simp)
  · by_cases h0 : n = 0
    · subst h0; exact .inl (by simp)
    · refine .inr ?_
      rw [List.length_take, Nat.min_eq_left hn, dg_take (by omega)]
      exact hl
theorem digs_eq {l : List Nat} {n : Nat} (h : val l = n) (hd : Dig l) (ht : Trm l) : digs n = l := by rw [← h, digs_val hd ht]
theorem val_inj {a b : List Nat} (ha : Dig a) (hb : Dig b) (ta : Trm a) (tb : Trm b) (h : val a = val b) : a = b := by
  rw [← digs_val ha ta, h, digs_val hb tb]
theorem pow_le_val {l : List Nat} (ht : Trm l) (hne : l ≠ []) : 4294967296 ^ (l.length - 1) ≤ val l := by
  rcases ht with h | h
  · exact absurd h hne
  · have hl : 0 < l.length := List.length_pos_iff.2 hne
    have e : val l = val (l.take (l.length - 1)) + 4294967296 ^ (l.length - 1) * dg l (l.length - 1) := by
      rw [← val_take_succ, Nat.sub_add_cancel hl, List.take_of_length_le (Nat.le_refl _)]
    have h1 : 1 ≤ dg l (l.length - 1) := by omega
    have := Nat.mul_le_mul_left (4294967296 ^ (l.length - 1)) h1
    omega
theorem digs_len_le {n k : Nat} (h : n < 4294967296 ^ k) : (digs n).length ≤ k := by
  rcases Nat.lt_or_ge k (digs n).length with hlt | hge
  · exfalso
    have hne : digs n ≠ [] := fun e => by rw [e] at hlt; simp at hlt
    have h1 := pow_le_val (Trm.digs n) hne
    rw [val_digs] at h1
    have h2 : 4294967296 ^ k ≤ 4294967296 ^ ((digs n).length - 1) := Nat.pow_le_pow_right (by omega) (by omega)
    omega
  · exact hge
theorem lt_of_digs_len {n k : Nat} (h : (digs n).length ≤ k) : n < 4294967296 ^ k := by
  have := val_lt (Dig.digs n)
  rw [val_digs] at this
  exact Nat.lt_of_lt_of_le this (Nat.pow_le_pow_right (by omega) h)
theorem digs_len_iff {n k : Nat} : (digs n).length ≤ k ↔ n < 4294967296 ^ k := ⟨lt_of_digs_len, digs_len_le⟩
theorem digs_len_mono {a b : Nat} (h : a ≤ b) : (digs a).length ≤ (digs b).length := digs_len_le (Nat.lt_of_le_of_lt h (lt_of_digs_len (Nat.le_refl _)))
/-- The digits of a number are the beginning of any digits that make it. -/
theorem digs_take {l : List Nat} (hd : Dig l) : ∃ n, n ≤ l.length ∧ digs (val l) = l.take n := by
  suffices ∀ k, k ≤ l.length → (∀ i, k ≤ i → dg l i = 0) → ∃ n, n ≤ l.length ∧ digs (val l) = l.take n from this l.length (Nat.le_refl _) fun i hi => dg_out hi
  intro k
  induction k with
  | zero => exact fun hk h => ⟨0, hk, digs_trim hd hk h (.inl rfl)⟩
  | succ k ih =>
    intro hk h
    by_cases hz : dg l k = 0
    · exact ih (by omega) fun i hi => by
        by_cases e : i = k
        · rw [e]; exact hz
        · exact h i (by omega)
    · exact ⟨k + 1, hk, digs_trim hd hk h (.inr (by simpa using hz))⟩
theorem digs_val2 (n : Nat) (h : n < 18446744073709551616) : ∃ k, digs n = [n % 4294967296, n / 4294967296].take k := by
  have hd : Dig [n % 4294967296, n / 4294967296] := fun z hz => by
    rcases List.mem_cons.1 hz with h | h
    · omega
    · have := List.mem_singleton.1 h; omega
  obtain ⟨k, _, hk⟩ := digs_take hd
  refine ⟨k, ?_⟩
  rw [← hk]
  congr 1
  simp only [val]
  omega
end Go.Proofs.Ytphaojdfeojpeaa
