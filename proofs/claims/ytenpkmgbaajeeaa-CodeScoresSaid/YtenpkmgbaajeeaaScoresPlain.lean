/-
  Codes of scores in plain words.
-/
import Derived.Test.YtenpkmgbaajeeaaCodeWords
import Derived.Test.YtenpkmgbaajeeaaFrameMem
import Derived.Test.YtenpkmgbaajeeaaPlainSpeck
namespace Go.Proofs.Ytenpkmgbaajeeaa
open Go.RowKit
set_option linter.unusedVariables false

/-- The integer with an index. -/
def it (l : List Int) (i : Nat) : Int := l.getD i 0
theorem it_in {l : List Int} {i : Nat} (h : i < l.length) : it l i = l[i] := by unfold it; simp [List.getD, List.getElem?_eq_getElem h]
theorem IR.at_ {w : World} {A : Option Addr} {c : Nat} {l : List Int} (h : IR w A c l) {i : Nat} (hi : i < l.length) :
    ∃ b off, A = some ⟨b, off, none⟩ ∧ b < w.heap.size ∧ w.cell? ⟨b, off + i, none⟩ = some (.int .i64 (it l i)) := by
  obtain ⟨b, off, e, hb, v, hv, hc⟩ := Rd.at1 h.1 hi
  refine ⟨b, off, e, hb, ?_⟩
  rw [hc, ← hv, it_in hi]
  simp [cellsI, List.getElem?_eq_getElem hi]
theorem IR.below {w w' : World} {A : Option Addr} {c : Nat} {l : List Int} (h : IR w A c l) (hb : Below w.heap.size w w') : IR w' A c l := ⟨h.1.below hb, h.2⟩
theorem IR.len {w : World} {A : Option Addr} {c : Nat} {l : List Int} (h : IR w A c l) : l.length ≤ 140737488351232 := h.1.len
theorem IR.bd {w : World} {A : Option Addr} {c : Nat} {l : List Int} (h : IR w A c l) {i : Nat} (hi : i < l.length) : -9223372036854775808 ≤ it l i ∧ it l i ≤ 9223372036854775807 := by
  rw [it_in hi]; exact h.2 _ (List.getElem_mem hi)

/-- The biases are right. -/
def biasB (b : Int) (l : List Int) : Bool := !anyI l.length (fun i => decide (it l i < 1) || decide (b ≤ it l i))
theorem biasB_iff {b : Int} {l : List Int} : biasB b l = true ↔ ∀ i, i < l.length → 1 ≤ it l i ∧ it l i < b := by
  unfold biasB
  rw [Bool.not_eq_true', ← Bool.not_eq_true, anyI_iff]
  constructor
  · intro h i hi
    refine ⟨?_, ?_⟩
    · rcases Int.lt_or_le (it l i) 1 with h1 | h1
      · exact absurd ⟨i, hi, by simp [h1]⟩ h
      · exact h1
    · rcases Int.lt_or_le (it l i) b with h1 | h1
      · exact h1
      · exact absurd ⟨i, hi, by simp [h1]⟩ h
  · rintro h ⟨i, hi, hp⟩
    have := h i hi
    simp at hp
    omega
theorem biasB_no {b : Int} {l : List Int} {i : Nat} (hi : i < l.length) (h : it l i < 1 ∨ b ≤ it l i) : biasB b l = false := by
  cases hb : biasB b l
  · rfl
  · have := biasB_iff.1 hb i hi; omega
/-- A valid code of scores. -/
def scoresB (u b : Int) (l : List Int) : Bool := decide (1 ≤ u ∧ u ≤ 64 ∧ 2 ≤ b ∧ b ≤ 32 ∧ 1 ≤ l.length ∧ l.length ≤ 64) && biasB b l
theorem scoresB_parts {u b : Int} {l : List Int} (h : scoresB u b l = true) : (1 ≤ u ∧ u ≤ 64 ∧ 2 ≤ b ∧ b ≤ 32 ∧ 1 ≤ l.length ∧ l.length ≤ 64) ∧ ∀ i, i < l.length → 1 ≤ it l i ∧ it l i < b := by
  simp only [scoresB, Bool.and_eq_true, decide_eq_true_eq] at h
  exact ⟨h.1, biasB_iff.1 h.2⟩
theorem scoresB_no {u b : Int} {l : List Int} (h : ¬ (1 ≤ u ∧ u ≤ 64 ∧ 2 ≤ b ∧ b ≤ 32 ∧ 1 ≤ l.length ∧ l.length ≤ 64)) : scoresB u b l = false := by
  unfold scoresB
  rw [decide_eq_false h]; rfl
theorem scoresB_bias {u b : Int} {l : List Int} (h : 1 ≤ u ∧ u ≤ 64 ∧ 2 ≤ b ∧ b ≤ 32 ∧ 1 ≤ l.length ∧ l.length ≤ 64) : scoresB u b l = biasB b l := by
  unfold scoresB
  rw [decide_eq_true h]; rfl
/-- The first condition that fails, if any. -/
theorem scores_ways (u b : Int) (n : Nat) : u < 1 ∨ (1 ≤ u ∧ 64 < u) ∨ (1 ≤ u ∧ u ≤ 64 ∧ b < 2) ∨ (1 ≤ u ∧ u ≤ 64 ∧ 2 ≤ b ∧ 32 < b) ∨ (1 ≤ u ∧ u ≤ 64 ∧ 2 ≤ b ∧ b ≤ 32 ∧ n < 1) ∨ (1 ≤ u ∧ u ≤ 64 ∧ 2 ≤ b ∧ b ≤ 32 ∧ 1 ≤ n ∧ 64 < n) ∨ (1 ≤ u ∧ u ≤ 64 ∧ 2 ≤ b ∧ b ≤ 32 ∧ 1 ≤ n ∧ n ≤ 64) := by omega
/-- The code as a value. -/
def scC (u b : Int) (A : Option Addr) (n c : Nat) (k : List UInt8) : List Value := .int .i64 u :: .int .i64 b :: .slice A n c :: cellsB k
def scV (u b : Int) (A : Option Addr) (n c : Nat) (k : List UInt8) : Value := .agg (scC u b A n c k).toArray
theorem key_parts {k : List UInt8} (h : k.length = 16) : ∃ a0 a1 a2 a3 a4 a5 a6 a7 a8 a9 a10 a11 a12 a13 a14 a15, k = [a0, a1, a2, a3, a4, a5, a6, a7, a8, a9, a10, a11, a12, a13, a14, a15] := by
  match k, h with
  | [a0, a1, a2, a3, a4, a5, a6, a7, a8, a9, a10, a11, a12, a13, a14, a15], _ => exact ⟨_, _, _, _, _, _, _, _, _, _, _, _, _, _, _, _, rfl⟩

/-- The word of a user. -/
def scoreWordS (k : List UInt8) (b : Int) (l : List Int) (u : Int) : List UInt8 := (List.range l.length).map fun i => if (numS (derS k 70 (UInt64.ofNat u.toNat)) (UInt64.ofNat i) (UInt64.ofNat b.toNat)).toNat < (it l i).toNat then 1 else 0
theorem scoreWordS_length (k : List UInt8) (b : Int) (l : List Int) (u : Int) : (scoreWordS k b l u).length = l.length := by simp [scoreWordS]
/-- What a place adds. -/
def partS (b a : Int) (w y : Nat) : Int := if y = 2 then 0 else if y = 0 then (if w = y then a else a - b) else (if w = y then b - a else -a)
/-- The sum of the first k places. -/
def sumS (b : Int) (l : List Int) (w y : List UInt8) : Nat → Int
  | 0 => 0
  | k + 1 => sumS b l w y k + partS b (it l k) (bt w k) (bt y k)
theorem partS_bd {b a : Int} {w y : Nat} (hb : 2 ≤ b ∧ b ≤ 32) (ha : 1 ≤ a ∧ a < b) : -32 ≤ partS b a w y ∧ partS b a w y ≤ 32 := by
  unfold partS
  split
  · omega
  · split
    · split <;> omega
    · split <;> omega
theorem sumS_bd {b : Int} {l : List Int} {w y : List UInt8} (hb : 2 ≤ b ∧ b ≤ 32) (hl : ∀ i, i < l.length → 1 ≤ it l i ∧ it l i < b) : ∀ k, k ≤ l.length → -(32 * (k : Int)) ≤ sumS b l w y k ∧ sumS b l w y k ≤ 32 * (k : Int) := by
  intro k
  induction k with
  | zero => intro _; simp [sumS]
  | succ k ih =>
    intro hk
    have h1 := ih (by omega)
    have h2 := partS_bd (w := bt w k) (y := bt y k) hb (hl k (by omega))
    rw [sumS]
    omega
/-- The answers. -/
def swS (u b : Int) (l : List Int) (k : List UInt8) (x : Int) : List UInt8 × Int := if scoresB u b l = true then (if 0 ≤ x ∧ x < u then (scoreWordS k b l x, 0) else ([], 2)) else ([], 70)
def scS (u b : Int) (l : List Int) (w y : List UInt8) : Int × Int := if scoresB u b l = true then (if wordB w l.length = true ∧ copyB y l.length = true then (sumS b l w y l.length, 0) else (0, 71)) else (0, 70)
end Go.Proofs.Ytenpkmgbaajeeaa
