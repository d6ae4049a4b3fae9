/-
  Texts and numbers are inverse: plain laws. No program in sight.
-/
import Derived.Test.YtphaojdfeojpeaaPlainText
namespace Go.Proofs.Ytphaojdfeojpeaa
open Go.RowKit
set_option linter.unusedVariables false

theorem decRR_small {n : Nat} (h : n < 10) : (decR n).reverse = [dch n] := by rw [decR_small h]; rfl
theorem decRR_big {n : Nat} (h : 10 ≤ n) : (decR n).reverse = (decR (n / 10)).reverse ++ [dch n] := by rw [decR_big h, List.reverse_cons]
theorem decRR_ne (n : Nat) : (decR n).reverse ≠ [] := by simpa using decR_ne n
theorem dec_back : ∀ (f n : Nat), n ≤ f → decV (decR n).reverse = n ∧ allDig (decR n).reverse = true ∧ (n ≠ 0 → (decR n).reverse.getD 0 0 ≠ 48) := by
  intro f
  induction f with
  | zero =>
    intro n hn
    obtain rfl : n = 0 := by omega
    exact ⟨rfl, rfl, fun h => absurd rfl h⟩
  | succ f ih =>
    intro n hn
    have hd : 48 ≤ (dch n).toNat ∧ (dch n).toNat ≤ 57 := by rw [dch_toNat]; omega
    by_cases h : n < 10
    · rw [decRR_small h]
      refine ⟨?_, allDig_iff.2 fun c hc => by rw [List.mem_singleton.1 hc]; exact hd, fun h0 e => ?_⟩
      · have := decV_snoc [] (dch n)
        rw [List.nil_append, decV_nil] at this
        rw [this, dch_toNat]
        omega
      · have e2 : (dch n).toNat = (48 : UInt8).toNat := by
          have : dch n = 48 := by simpa [List.getD] using e
          rw [this]
        rw [dch_toNat, show (48 : UInt8).toNat = 48 from rfl] at e2
        omega
    · obtain ⟨i1, i2, i3⟩ := ih (n / 10) (by omega)
      rw [decRR_big (by omega)]
      refine ⟨?_, allDig_iff.2 fun c hc => ?_, fun h0 => ?_⟩
      · rw [decV_snoc, i1, dch_toNat]
        omega
      · rcases List.mem_append.1 hc with h1 | h1
        · exact allDig_iff.1 i2 c h1
        · rw [List.mem_singleton.1 h1]; exact hd
      · have hne := decRR_ne (n / 10)
        have := i3 (by omega)
        have hl : 0 < (decR (n / 10)).reverse.length := List.length_pos_iff.2 hne
        simp only [List.getD, List.getElem?_append_left hl] at this ⊢
        exact this
theorem decV_dec (n : Nat) : decV (decR n).reverse = n := (dec_back n n (Nat.le_refl _)).1
theorem form_dec (n : Nat) : formB (decR n).reverse = true := by
  obtain ⟨h1, h2, h3⟩ := dec_back n n (Nat.le_refl _)
  unfold formB
  rw [h2]
  have hne := decRR_ne n
  by_cases h : n < 10
  · rw [decRR_small h]; simp
  · have h4 : ((decR n).reverse.getD 0 0 == 48) = false := by simpa using h3 (by omega)
    rw [h4]; simp [decR_ne n]
theorem dch_of {c : UInt8} {m : Nat} (h1 : 48 ≤ c.toNat) (h2 : c.toNat ≤ 57) : dch (m * 10 + (c.toNat - 48)) = c := by
  apply UInt8.toNat_inj.1
  rw [dch_toNat]
  omega
/-- A text of the right form is the text of its number. -/
theorem dec_text : ∀ (k : Nat) (l : List UInt8), l.length = k + 1 → allDig l = true → (1 < l.length → l.getD 0 0 ≠ 48) → (decR (decV l)).reverse = l ∧ (l.getD 0 0 ≠ 48 → decV l ≠ 0) := by
  intro k
  induction k with
  | zero =>
    intro l hl ha _
    match l, hl with
    | [c], _ =>
      have hc := allDig_iff.1 ha c (by simp)
      have e : decV [c] = c.toNat - 48 := by
        have := decV_snoc [] c
        rw [List.nil_append, decV_nil] at this
        omega
      have e2 := dch_of (m := 0) hc.1 hc.2
      rw [Nat.zero_mul, Nat.zero_add] at e2
      rw [e, decRR_small (by omega), e2]
      refine ⟨rfl, fun h h0 => h ?_⟩
      show c = 48
      apply UInt8.toNat_inj.1
      rw [show (48 : UInt8).toNat = 48 from rfl]
      omega
  | succ k ih =>
    intro l hl ha hz
    have hne : l ≠ [] := by intro e; rw [e] at hl; simp at hl
    obtain ⟨m, c, rfl⟩ : ∃ m c, l = m ++ [c] := ⟨l.dropLast, l.getLast hne, (List.dropLast_concat_getLast hne).symm⟩
    have hm : m.length = k + 1 := by simpa using hl
    have hmp : 0 < m.length := by omega
    have hg : (m ++ [c]).getD 0 0 = m.getD 0 0 := by simp only [List.getD, List.getElem?_append_left hmp]
    have h0 := hz (by omega)
    rw [hg] at h0
    have ham : allDig m = true := allDig_iff.2 fun x hx => allDig_iff.1 ha x (List.mem_append_left _ hx)
    obtain ⟨i1, i2⟩ := ih m hm ham (fun _ => h0)
    have hc := allDig_iff.1 ha c (by simp)
    have hv := i2 h0
    rw [decV_snoc, decRR_big (by omega), dch_of hc.1 hc.2, show (decV m * 10 + (c.toNat - 48)) / 10 = decV m from by omega, i1]
    exact ⟨rfl, fun _ => by omega⟩
theorem dec_of_form {l : List UInt8} (h : formB l = true) : (decR (decV l)).reverse = l := by
  unfold formB at h
  simp only [Bool.and_eq_true, Bool.not_eq_true', decide_eq_true_eq] at h
  obtain ⟨⟨h1, h2⟩, h3⟩ := h
  obtain ⟨k, hk⟩ : ∃ k, l.length = k + 1 := ⟨l.length - 1, by have := List.length_pos_iff.2 h1; omega⟩
  refine (dec_text k l hk h3 fun hl e => ?_).1
  rw [e] at h2
  simp [hl] at h2
end Go.Proofs.Ytphaojdfeojpeaa
