/-
  What the walks of the outright laws share.
-/
import Derived.Test.YtphaojdfeojpeaaAlive
namespace Go.Proofs.Ytphaojdfeojpeaa
open Go.RowKit
set_option linter.unusedVariables false

theorem bool_ways (b : Bool) : b = false ∨ b = true := by cases b <;> simp
theorem lim_ways (n : Nat) : (limS n = ([], 4) ∧ ¬ (digs n).length ≤ 16) ∨ (limS n = (digs n, 0) ∧ (digs n).length ≤ 16) := by
  by_cases h : (digs n).length ≤ 16
  · exact .inr ⟨limS_yes h, h⟩
  · exact .inl ⟨limS_no h, h⟩
theorem addS_v {a b : List Nat} (h1 : validB a = true) (h2 : validB b = true) : addS a b = limS (val a + val b) := by rw [addS, bothB_yes h1 h2]; rfl
theorem mulS_v {a b : List Nat} (h1 : validB a = true) (h2 : validB b = true) : mulS a b = limS (val a * val b) := by rw [mulS, bothB_yes h1 h2]; rfl
theorem gcdS_v {a b : List Nat} (h1 : validB a = true) (h2 : validB b = true) : gcdS a b = (digs (gcdN (val a) (val b)), 0) := by rw [gcdS, bothB_yes h1 h2]; rfl
theorem divS_v {a b : List Nat} (h1 : validB a = true) (h2 : validB b = true) (hb : b ≠ []) : divS a b = (digs (val a / val b), digs (val a % val b), 0) := by rw [divS, bothB_yes h1 h2, if_pos rfl, if_neg hb]
theorem divS_0 {a b : List Nat} (h1 : validB a = true) (h2 : validB b = true) (hb : b = []) : divS a b = ([], [], 10) := by rw [divS, bothB_yes h1 h2, if_pos rfl, if_pos hb]
theorem subS_yes {a b : List Nat} (h1 : validB a = true) (h2 : validB b = true) (h : val b ≤ val a) : subS a b = (digs (val a - val b), 0) := by rw [subS, bothB_yes h1 h2, if_pos rfl, if_neg (by omega)]
theorem subS_no {a b : List Nat} (h1 : validB a = true) (h2 : validB b = true) (h : val a < val b) : subS a b = ([], 11) := by rw [subS, bothB_yes h1 h2, if_pos rfl, if_pos h]
theorem cmpS_v {a b : List Nat} (h1 : validB a = true) (h2 : validB b = true) : cmpS a b = (cmpN (val a) (val b), 0) := by rw [cmpS, bothB_yes h1 h2]; rfl
theorem valid_dig {a : List Nat} (h : validB a = true) : Trm a ∧ a.length ≤ 16 := by
  obtain ⟨h1, h2⟩ := validB_iff.1 h
  exact ⟨h2, h1⟩
theorem valid_digs {a : List Nat} (h : validB a = true) (hd : Dig a) : digs (val a) = a := digs_val hd (valid_dig h).1
theorem valid_mono {x y : Nat} (h : (digs y).length ≤ 16) (hxy : x ≤ y) : validB (digs x) = true := validB_of (Nat.le_trans (digs_len_mono hxy) h)
theorem valid_nil : validB [] = true := by decide
end Go.Proofs.Ytphaojdfeojpeaa
