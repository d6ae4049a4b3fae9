/-
  Lemmas and contracts, joined.
-/
import Derived.Below
import Derived.Deep.OwnRows
import Derived.SizedLaws
import Derived.Deep.Slices
import Derived.Deep.RegionHeld
import Derived.Test.YtchnaimpmegbkaaGreatDoorRows
import Derived.WalkKit
import Derived.WalkSpells
import Derived.WalkLawsBesides
import Derived.Lib.Hide
import Derived.Deep.QuietTactic
import Derived.BigQuiet
import Derived.RangeFuncNested
import Derived.RangeFuncBound
import Derived.RangeFuncCalls
import Derived.RangeFuncLeaves
import Derived.RangeFuncBox
import Derived.Shelf.Abstract
import Derived.Shelf.RegionOpen
import Derived.OwnWalkIn
import Derived.TacticsInMore
import Derived.LoopNIn
import Derived.LoopIn
import Derived.StillTailTactics
import Derived.Deep.RegionWith
import Derived.Test.YtchnaimpmegbkaaGreatDoorTfTw1
set_option linter.unusedSimpArgs false
set_option linter.unusedVariables false
set_option linter.unnecessarySimpa false
/- Plain laws on powers and on Euclid's algorithm. No program in sight. -/
namespace Go.Proofs.YtchnaimpmegbkaaGreatDoor
open Go.RowKit
set_option linter.unusedVariables false

theorem int_cong {k : IntKind} {a b : Int} (h : a = b) : Value.int k a = .int k b := by rw [h]
theorem ret_int {k : IntKind} {a b : Int} (h : a = b) : Ending.returned (.int k a) = .returned (.int k b) := by rw [h]
theorem ret_bool {a b : Bool} (h : a = b) : Ending.returned (.bool a) = .returned (.bool b) := by rw [h]
theorem emod_cast (a m : Nat) : (a : Int) % (m : Int) = ((a % m : Nat) : Int) := by rw [Int.natCast_emod]

/-! ### The inverse -/
open Classical in
/-- Euclid's algorithm: r and x are s and t times a, modulo m; the signs alternate. -/
def EuI (a m r x : Nat) (s t : Int) : Prop :=
  Nat.gcd r x = Nat.gcd a m ∧ x < r ∧ r ≤ m ∧ (∃ k : Int, (r : Int) = s * a + k * m) ∧ (∃ k : Int, (x : Int) = t * a + k * m) ∧
    ∃ S T : Nat, S * x + T * r = m ∧ S ≤ m ∧ (s = S ∧ t = -(T : Int) ∨ s = -(S : Int) ∧ t = T)

theorem EuI.start (a m : Nat) (hm : 1 ≤ m) : EuI a m m (a % m) 0 1 := by
  refine ⟨?_, Nat.mod_lt _ hm, Nat.le_refl _, ⟨1, by simp⟩, ⟨-((a / m : Nat) : Int), ?_⟩, 0, 1, by simp, Nat.zero_le _, .inr ⟨rfl, rfl⟩⟩
  · rw [Nat.gcd_comm m, Nat.gcd_comm a, Nat.gcd_rec m a]
  · have := Nat.div_add_mod a m
    have h2 : ((m * (a / m) + a % m : Nat) : Int) = a := by rw [this]
    rw [Int.natCast_add, Int.natCast_mul] at h2
    have : -((a / m : Nat) : Int) * (m : Int) = -((m : Int) * ((a / m : Nat) : Int)) := by rw [Int.neg_mul, Int.mul_comm]
    omega

theorem EuI.step {a m r x : Nat} {s t : Int} (h : EuI a m r x s t) (hx0 : 0 < x) : EuI a m x (r % x) t (s - ((r / x : Nat) : Int) * t) := by
  obtain ⟨hg, hx, hr, ⟨k, hk⟩, ⟨l, hl⟩, S, T, e, hS, hs⟩ := h
  have hd := Nat.div_add_mod r x
  refine ⟨?_, Nat.mod_lt _ hx0, by omega, ⟨l, hl⟩, ⟨k - ((r / x : Nat) : Int) * l, ?_⟩, T, S + r / x * T, ?_, ?_, ?_⟩
  · rw [← hg, Nat.gcd_comm r x, Nat.gcd_rec x r, Nat.gcd_comm]
  · have h2 : ((x * (r / x) + r % x : Nat) : Int) = r := by rw [hd]
    rw [Int.natCast_add, Int.natCast_mul, Int.mul_comm] at h2
    have e1 : (s - ((r / x : Nat) : Int) * t) * a + (k - ((r / x : Nat) : Int) * l) * m = (s * a + k * m) - ((r / x : Nat) : Int) * (t * a + l * m) := by
      rw [Int.sub_mul, Int.sub_mul, Int.mul_add, Int.mul_assoc, Int.mul_assoc]; omega
    rw [e1, ← hk, ← hl]
    omega
  · have e1 : T * (r % x) + (S + r / x * T) * x = S * x + T * (x * (r / x) + r % x) := by
      rw [Nat.add_mul, Nat.mul_add, Nat.mul_comm x (r / x), Nat.mul_comm (r / x) T, Nat.mul_assoc]
      omega
    rw [e1, hd, e]
  · have h1 : T * 1 ≤ T * r := Nat.mul_le_mul_left _ (by omega)
    omega
  · have e2 : ((S + r / x * T : Nat) : Int) = S + ((r / x : Nat) : Int) * T := by rw [Int.natCast_add, Int.natCast_mul]
    rw [e2]
    rcases hs with ⟨rfl, rfl⟩ | ⟨rfl, rfl⟩
    · right
      refine ⟨rfl, ?_⟩
      rw [Int.mul_neg]; omega
    · left
      refine ⟨rfl, ?_⟩
      omega
theorem EuI.done {a m r : Nat} {s t : Int} (h : EuI a m r 0 s t) : r = Nat.gcd a m := by rw [← h.1, Nat.gcd_zero_right]
/-- What the code makes of s. -/
def back (s : Int) (m : Nat) : Int := s.tmod m % m
/-- The other algorithm: r and x are s and y times a, modulo m. -/
def EuJ (a m r x s y : Nat) : Prop :=
  Nat.gcd r x = Nat.gcd a m ∧ r ≤ m ∧ x ≤ m ∧ s < m ∧ y < m ∧ (∃ k : Int, (r : Int) = s * a + k * m) ∧ (∃ k : Int, (x : Int) = y * a + k * m)
theorem mod_is (a m : Nat) : ∃ k : Int, ((a % m : Nat) : Int) = a + k * m := by
  refine ⟨-((a / m : Nat) : Int), ?_⟩
  have := Nat.div_add_mod a m
  have h2 : ((m * (a / m) + a % m : Nat) : Int) = a := by rw [this]
  rw [Int.natCast_add, Int.natCast_mul] at h2
  have : -((a / m : Nat) : Int) * (m : Int) = -((m : Int) * ((a / m : Nat) : Int)) := by rw [Int.neg_mul, Int.mul_comm]
  omega
theorem EuJ.start (a m : Nat) (hm : 1 ≤ m) : EuJ a m (a % m) m (1 % m) 0 := by
  refine ⟨?_, Nat.le_of_lt (Nat.mod_lt _ hm), Nat.le_refl _, Nat.mod_lt _ hm, hm, ?_, ⟨1, by simp⟩⟩
  · rw [Nat.gcd_comm a, Nat.gcd_rec m a]
  · obtain ⟨k, hk⟩ := mod_is a m
    obtain ⟨l, hl⟩ := mod_is 1 m
    refine ⟨k - l * a, ?_⟩
    rw [hk, hl, Int.add_mul, Int.sub_mul, Int.mul_assoc l, Int.mul_assoc l, Int.mul_comm (m : Int)]
    simp
    omega
/-- The next y is s less q times y. -/
theorem eu_next (s y q m : Nat) (hm : 1 ≤ m) : ∃ k : Int, (((s + (m - q % m * y % m)) % m : Nat) : Int) = s - (q : Int) * y + k * m := by
  obtain ⟨k, hk⟩ := mod_is (s + (m - q % m * y % m)) m
  obtain ⟨l, hl⟩ := mod_is (q % m * y) m
  obtain ⟨n, hn⟩ := mod_is q m
  have hlt : q % m * y % m < m := Nat.mod_lt _ hm
  have e : ((s + (m - q % m * y % m) : Nat) : Int) = s + (m - ((q % m * y % m : Nat) : Int)) := by omega
  rw [hk, e, hl, Int.natCast_mul, hn]
  refine ⟨k + 1 - l - n * y, ?_⟩
  rw [Int.add_mul, Int.sub_mul, Int.sub_mul, Int.add_mul, Int.mul_assoc n, Int.mul_assoc n, Int.mul_comm (y : Int)]
  omega
theorem EuJ.step {a m r x s y : Nat} (h : EuJ a m r x s y) (hx0 : 0 < x) (hm : 1 ≤ m) : EuJ a m x (r % x) y ((s + (m - r / x % m * y % m)) % m) := by
  obtain ⟨hg, hr, hx, hs, hy, ⟨k, hk⟩, ⟨l, hl⟩⟩ := h
  refine ⟨?_, hx, ?_, hy, Nat.mod_lt _ hm, ⟨l, hl⟩, ?_⟩
  · rw [← hg, Nat.gcd_comm r x, Nat.gcd_rec x r, Nat.gcd_comm]
  · have := Nat.mod_lt r hx0
    omega
  · obtain ⟨n, hn⟩ := eu_next s y (r / x) m hm
    have h2 : ((x * (r / x) + r % x : Nat) : Int) = r := by rw [Nat.div_add_mod]
    rw [Int.natCast_add, Int.natCast_mul, Int.mul_comm] at h2
    rw [hn]
    refine ⟨k - ((r / x : Nat) : Int) * l - n * a, ?_⟩
    have e1 : (↑s - ((r / x : Nat) : Int) * ↑y + n * ↑m) * ↑a + (k - ((r / x : Nat) : Int) * l - n * ↑a) * ↑m = (↑s * ↑a + k * ↑m) - ((r / x : Nat) : Int) * (y * a + l * m) := by
      rw [Int.add_mul, Int.sub_mul, Int.sub_mul, Int.sub_mul, Int.mul_add, Int.mul_assoc, Int.mul_assoc n, Int.mul_assoc n, Int.mul_comm (a : Int) (m : Int), Int.mul_assoc _ l]; omega
    rw [e1, ← hk, ← hl]
    omega
theorem EuJ.gcd {a m r s y : Nat} (h : EuJ a m r 0 s y) : r = Nat.gcd a m := by rw [← h.1, Nat.gcd_zero_right]
end Go.Proofs.YtchnaimpmegbkaaGreatDoor

/- Digits to the base 2^32: plain laws. No program in sight. -/
namespace Go.Proofs.YtchnaimpmegbkaaGreatDoor
open Go.RowKit
set_option linter.unusedVariables false

/-- The digit with an index, 0 beyond the end. -/
def dg (l : List Nat) (i : Nat) : Nat := l.getD i 0
/-- All digits are below the base. -/
def Dig (l : List Nat) : Prop := ∀ x ∈ l, x < 4294967296
/-- The number. -/
def val : List Nat → Nat
  | [] => 0
  | x :: l => x + 4294967296 * val l
/-- The last digit, if there is one, is not 0. -/
def Trm (l : List Nat) : Prop := l = [] ∨ dg l (l.length - 1) ≠ 0

theorem dg_out {l : List Nat} {i : Nat} (h : l.length ≤ i) : dg l i = 0 := by
  unfold dg; rw [List.getD_eq_getElem?_getD, List.getElem?_eq_none h]; rfl
theorem dg_in {l : List Nat} {i : Nat} (h : i < l.length) : dg l i = l[i] := by
  unfold dg; rw [List.getD_eq_getElem?_getD, List.getElem?_eq_getElem h]; rfl
theorem dg_lt {l : List Nat} (h : Dig l) (i : Nat) : dg l i < 4294967296 := by
  rcases Nat.lt_or_ge i l.length with hi | hi
  · rw [dg_in hi]; exact h _ (List.getElem_mem hi)
  · rw [dg_out hi]; omega
theorem dg_set_same {l : List Nat} {i x : Nat} (h : i < l.length) : dg (l.set i x) i = x := by
  rw [dg_in (by simpa using h)]; simp
theorem dg_set_other {l : List Nat} {i j x : Nat} (h : i ≠ j) : dg (l.set i x) j = dg l j := by
  unfold dg; rw [List.getD_eq_getElem?_getD, List.getD_eq_getElem?_getD, List.getElem?_set_ne h]
theorem dg_take {l : List Nat} {n i : Nat} (h : i < n) : dg (l.take n) i = dg l i := by
  unfold dg; rw [List.getD_eq_getElem?_getD, List.getD_eq_getElem?_getD, List.getElem?_take_of_lt h]
theorem dg_drop (l : List Nat) (n i : Nat) : dg (l.drop n) i = dg l (n + i) := by
  unfold dg; rw [List.getD_eq_getElem?_getD, List.getD_eq_getElem?_getD, List.getElem?_drop]
theorem dg_replicate (n i : Nat) : dg (List.replicate n 0) i = 0 := by
  rcases Nat.lt_or_ge i n with h | h
  · rw [dg_in (by simpa using h)]; simp
  · exact dg_out (by simpa using h)
theorem Dig.nil : Dig [] := fun x h => by cases h
theorem Dig.take {l : List Nat} (h : Dig l) (n : Nat) : Dig (l.take n) := fun x hx => h x (List.mem_of_mem_take hx)
theorem Dig.drop {l : List Nat} (h : Dig l) (n : Nat) : Dig (l.drop n) := fun x hx => h x (List.mem_of_mem_drop hx)
theorem Dig.set {l : List Nat} (h : Dig l) (i : Nat) {x : Nat} (hx : x < 4294967296) : Dig (l.set i x) := fun y hy => by
  rcases List.mem_or_eq_of_mem_set hy with h' | h'
  · exact h y h'
  · omega
theorem Dig.replicate (n : Nat) : Dig (List.replicate n 0) := fun x hx => by rw [List.eq_of_mem_replicate hx]; omega
theorem Dig.append {a b : List Nat} (ha : Dig a) (hb : Dig b) : Dig (a ++ b) := fun x hx => (List.mem_append.1 hx).elim (ha x) (hb x)
theorem Dig.one {x : Nat} (h : x < 4294967296) : Dig [x] := fun y hy => by rw [List.mem_singleton.1 hy]; exact h
theorem Dig.cons {x : Nat} {l : List Nat} (h : Dig (x :: l)) : x < 4294967296 ∧ Dig l := ⟨h x (List.mem_cons_self), fun y hy => h y (List.mem_cons_of_mem _ hy)⟩

theorem val_append (a b : List Nat) : val (a ++ b) = val a + 4294967296 ^ a.length * val b := by
  induction a with
  | nil => simp [val]
  | cons x a ih =>
    simp only [List.cons_append, val, ih, List.length_cons, Nat.pow_succ, Nat.mul_add]
    rw [Nat.mul_assoc, Nat.mul_left_comm (4294967296 ^ a.length)]; omega
theorem val_replicate (n : Nat) : val (List.replicate n 0) = 0 := by
  induction n with
  | zero => rfl
  | succ n ih => simp [List.replicate_succ, val, ih]
theorem take_dg {l : List Nat} {k : Nat} (h : k < l.length) : l.take (k + 1) = l.take k ++ [dg l k] := by
  rw [List.take_succ_eq_append_getElem h, dg_in h]
theorem val_take_succ (l : List Nat) (k : Nat) : val (l.take (k + 1)) = val (l.take k) + 4294967296 ^ k * dg l k := by
  rcases Nat.lt_or_ge k l.length with h | h
  · rw [take_dg h, val_append]
    simp [val, Nat.min_eq_left (Nat.le_of_lt h)]
  · rw [dg_out h, List.take_of_length_le (by omega), List.take_of_length_le h]; simp
theorem val_lt {l : List Nat} (h : Dig l) : val l < 4294967296 ^ l.length := by
  induction l with
  | nil => simp [val]
  | cons x l ih =>
    obtain ⟨hx, hl⟩ := h.cons
    have := ih hl
    simp only [val, List.length_cons, Nat.pow_succ]
    have h2 : (val l + 1) * 4294967296 ≤ 4294967296 ^ l.length * 4294967296 := Nat.mul_le_mul_right _ this
    omega
theorem val_take_lt {l : List Nat} (h : Dig l) (k : Nat) : val (l.take k) < 4294967296 ^ k := by
  refine Nat.lt_of_lt_of_le (val_lt (h.take k)) (Nat.pow_le_pow_right (by omega) (List.length_take_le _ _))
theorem val_zero_of {l : List Nat} (h : ∀ i, dg l i = 0) : val l = 0 := by
  induction l with
  | nil => rfl
  | cons x l ih =>
    have h0 : x = 0 := h 0
    have h1 : ∀ i, dg l i = 0 := fun i => h (i + 1)
    simp [val, h0, ih h1]
theorem val_split (l : List Nat) (k : Nat) (h : k ≤ l.length) : val l = val (l.take k) + 4294967296 ^ k * val (l.drop k) := by
  conv => lhs; rw [← List.take_append_drop k l]
  rw [val_append, List.length_take, Nat.min_eq_left h]
theorem val_take_of {l : List Nat} {n : Nat} (hn : n ≤ l.length) (h : ∀ i, n ≤ i → dg l i = 0) : val (l.take n) = val l := by
  rw [val_split l n hn, val_zero_of (l := l.drop n) (fun i => by rw [dg_drop]; exact h _ (by omega))]; simp
theorem val_set {l : List Nat} {k x : Nat} (h : k < l.length) : val ((l.set k x).take (k + 1)) = val (l.take k) + 4294967296 ^ k * x := by
  rw [val_take_succ, dg_set_same h, List.take_set_of_le (Nat.le_refl k)]

/-- The digits of a number, without zeros at the end. -/
def digsF : Nat → Nat → List Nat
  | 0, _ => []
  | f + 1, n => if n = 0 then [] else (n % 4294967296) :: digsF f (n / 4294967296)
def digs (n : Nat) : List Nat := digsF n n
theorem digsF_enough : ∀ (f g n : Nat), n ≤ f → n ≤ g → digsF f n = digsF g n := by
  intro f
  induction f with
  | zero => intro g n hf hg; (obtain rfl : n = 0 := by omega); cases g <;> simp [digsF]
  | succ f ih =>
    intro g n hf hg
    cases g with
    | zero => (obtain rfl : n = 0 := by omega); simp [digsF]
    | succ g =>
      simp only [digsF]
      by_cases h : n = 0
      · simp [h]
      · rw [if_neg h, if_neg h, ih g (n / 4294967296) (by omega) (by omega)]
theorem digs_zero : digs 0 = [] := rfl
theorem digs_pos {n : Nat} (h : n ≠ 0) : digs n = (n % 4294967296) :: digs (n / 4294967296) := by
  unfold digs
  obtain ⟨m, rfl⟩ : ∃ m, n = m + 1 := ⟨n - 1, by omega⟩
  rw [digsF, if_neg h, digsF_enough m ((m + 1) / 4294967296) _ (by omega) (by omega)]
theorem val_digs (n : Nat) : val (digs n) = n := by
  induction n using Nat.strongRecOn with
  | _ n ih =>
    by_cases h : n = 0
    · subst h; rfl
    · rw [digs_pos h, val, ih (n / 4294967296) (by omega)]; omega
theorem Dig.digs (n : Nat) : Dig (digs n) := by
  induction n using Nat.strongRecOn with
  | _ n ih =>
    by_cases h : n = 0
    · subst h; exact Dig.nil
    · rw [digs_pos h]
      intro x hx
      rcases List.mem_cons.1 hx with h' | h'
      · omega
      · exact ih (n / 4294967296) (by omega) x h'
theorem digs_ne {n : Nat} (h : n ≠ 0) : digs n ≠ [] := by rw [digs_pos h]; simp
theorem dg_cons_succ (x : Nat) (l : List Nat) (i : Nat) : dg (x :: l) (i + 1) = dg l i := rfl
theorem Trm.cons {x : Nat} {l : List Nat} (h : Trm (x :: l)) : Trm l := by
  cases l with
  | nil => exact .inl rfl
  | cons y l =>
    rcases h with h | h
    · cases h
    · exact .inr (by simpa [dg_cons_succ] using h)
theorem Trm.digs (n : Nat) : Trm (digs n) := by
  induction n using Nat.strongRecOn with
  | _ n ih =>
    by_cases h : n = 0
    · subst h; exact .inl rfl
    · rw [digs_pos h]
      refine .inr ?_
      by_cases h2 : n / 4294967296 = 0
      · rw [h2, digs_zero]
        show n % 4294967296 ≠ 0
        omega
      · rcases ih (n / 4294967296) (by omega) with h3 | h3
        · exact absurd h3 (digs_ne h2)
        · have hl : 0 < (Go.Proofs.YtchnaimpmegbkaaGreatDoor.digs (n / 4294967296)).length := List.length_pos_iff.2 (digs_ne h2)
          simp only [List.length_cons, Nat.add_sub_cancel]
          obtain ⟨k, hk⟩ : ∃ k, (Go.Proofs.YtchnaimpmegbkaaGreatDoor.digs (n / 4294967296)).length = k + 1 := ⟨_, (Nat.sub_add_cancel hl).symm⟩
          rw [hk, dg_cons_succ]
          rw [hk] at h3
          exact h3
theorem val_pos {l : List Nat} (h : Trm l) (hne : l ≠ []) : 0 < val l := by
  rcases h with h | h
  · exact absurd h hne
  · rcases Nat.eq_zero_or_pos (val l) with h0 | h0
    · exfalso
      have : ∀ l : List Nat, val l = 0 → ∀ i, dg l i = 0 := by
        intro l
        induction l with
        | nil => intro _ i; rfl
        | cons x l ih =>
          intro hv i
          simp only [val] at hv
          cases i with
          | zero => show x = 0; omega
          | succ i => exact ih (by omega) i
      exact h (this l h0 _)
    · exact h0
theorem digs_val {l : List Nat} (hd : Dig l) (ht : Trm l) : digs (val l) = l := by
  induction l with
  | nil => rfl
  | cons x l ih =>
    obtain ⟨hx, hl⟩ := hd.cons
    have hp := val_pos ht (by simp)
    rw [digs_pos (by omega)]
    have e1 : val (x :: l) % 4294967296 = x := by simp only [val]; omega
    have e2 : val (x :: l) / 4294967296 = val l := by simp only [val]; omega
    rw [e1, e2, ih hl ht.cons]
/-- Digits without the zeros at their end. -/
theorem digs_trim {l : List Nat} {n : Nat} (hd : Dig l) (hn : n ≤ l.length) (h : ∀ i, n ≤ i → dg l i = 0) (hl : n = 0 ∨ dg l (n - 1) ≠ 0) : digs (val l) = l.take n := by
  rw [← val_take_of hn h]
  refine digs_val (hd.take n) ?_
  rcases hl with rfl | hl
  · exact .inl (by simp)
  · by_cases h0 : n = 0
    · subst h0; exact .inl (by simp)
    · refine .inr ?_
      rw [List.length_take, Nat.min_eq_left hn, dg_take (by omega)]
      exact hl
theorem pow_le_val {l : List Nat} (ht : Trm l) (hne : l ≠ []) : 4294967296 ^ (l.length - 1) ≤ val l := by
  rcases ht with h | h
  · exact absurd h hne
  · have hl : 0 < l.length := List.length_pos_iff.2 hne
    have e : val l = val (l.take (l.length - 1)) + 4294967296 ^ (l.length - 1) * dg l (l.length - 1) := by
      rw [← val_take_succ, Nat.sub_add_cancel hl, List.take_of_length_le (Nat.le_refl _)]
    have h1 : 1 ≤ dg l (l.length - 1) := by omega
    have := Nat.mul_le_mul_left (4294967296 ^ (l.length - 1)) h1
    omega
theorem digs_len_le {n k : Nat} (h : n < 4294967296 ^ k) : (digs n).length ≤ k := by
  rcases Nat.lt_or_ge k (digs n).length with hlt | hge
  · exfalso
    have hne : digs n ≠ [] := fun e => by rw [e] at hlt; simp at hlt
    have h1 := pow_le_val (Trm.digs n) hne
    rw [val_digs] at h1
    have h2 : 4294967296 ^ k ≤ 4294967296 ^ ((digs n).length - 1) := Nat.pow_le_pow_right (by omega) (by omega)
    omega
  · exact hge
theorem lt_of_digs_len {n k : Nat} (h : (digs n).length ≤ k) : n < 4294967296 ^ k := by
  have := val_lt (Dig.digs n)
  rw [val_digs] at this
  exact Nat.lt_of_lt_of_le this (Nat.pow_le_pow_right (by omega) h)
theorem digs_len_mono {a b : Nat} (h : a ≤ b) : (digs a).length ≤ (digs b).length := digs_len_le (Nat.lt_of_le_of_lt h (lt_of_digs_len (Nat.le_refl _)))
/-- The digits of a number are the beginning of any digits that make it. -/
theorem digs_take {l : List Nat} (hd : Dig l) : ∃ n, n ≤ l.length ∧ digs (val l) = l.take n := by
  suffices ∀ k, k ≤ l.length → (∀ i, k ≤ i → dg l i = 0) → ∃ n, n ≤ l.length ∧ digs (val l) = l.take n from this l.length (Nat.le_refl _) fun i hi => dg_out hi
  intro k
  induction k with
  | zero => exact fun hk h => ⟨0, hk, digs_trim hd hk h (.inl rfl)⟩
  | succ k ih =>
    intro hk h
    by_cases hz : dg l k = 0
    · exact ih (by omega) fun i hi => by
        by_cases e : i = k
        · rw [e]; exact hz
        · exact h i (by omega)
    · exact ⟨k + 1, hk, digs_trim hd hk h (.inr (by simpa using hz))⟩
theorem digs_val2 (n : Nat) (h : n < 18446744073709551616) : ∃ k, digs n = [n % 4294967296, n / 4294967296].take k := by
  have hd : Dig [n % 4294967296, n / 4294967296] := fun z hz => by
    rcases List.mem_cons.1 hz with h | h
    · omega
    · have := List.mem_singleton.1 h; omega
  obtain ⟨k, _, hk⟩ := digs_take hd
  refine ⟨k, ?_⟩
  rw [← hk]
  congr 1
  simp only [val]
  omega
end Go.Proofs.YtchnaimpmegbkaaGreatDoor

/- Sums, differences, products and comparisons by digits: plain laws. No program in sight. -/
namespace Go.Proofs.YtchnaimpmegbkaaGreatDoor
open Go.RowKit
set_option linter.unusedVariables false

theorem val_ext {a b : List Nat} (h : ∀ i, dg a i = dg b i) : val a = val b := by
  induction a generalizing b with
  | nil => rw [val_zero_of (l := b) (fun i => (h i).symm)]; rfl
  | cons x a ih =>
    cases b with
    | nil => rw [val_zero_of (l := x :: a) (fun i => h i)]; rfl
    | cons y b =>
      have h0 : x = y := h 0
      simp only [val, h0, ih (fun i => h (i + 1))]
theorem val_cut (l : List Nat) (k : Nat) : val l = val (l.take k) + 4294967296 ^ k * val (l.drop k) := by
  rcases Nat.lt_or_ge l.length k with h | h
  · rw [List.take_of_length_le (by omega), List.drop_of_length_le (by omega)]; simp [val]
  · exact val_split l k h

/-! ### The order -/
/-- -1, 0 or 1. -/
def cmpN (a b : Nat) : Int := if a < b then -1 else if b < a then 1 else 0
theorem cmpN_lt {a b : Nat} (h : a < b) : cmpN a b = -1 := by simp [cmpN, h]
theorem cmpN_gt {a b : Nat} (h : b < a) : cmpN a b = 1 := by unfold cmpN; rw [if_neg (by omega), if_pos h]
theorem cmpN_eq {a b : Nat} (h : a = b) : cmpN a b = 0 := by unfold cmpN; rw [if_neg (by omega), if_neg (by omega)]
theorem cmpN_cases (a b : Nat) : (a < b ∧ cmpN a b = -1) ∨ (b < a ∧ cmpN a b = 1) ∨ (a = b ∧ cmpN a b = 0) := by
  rcases Nat.lt_trichotomy a b with h | h | h
  · exact .inl ⟨h, cmpN_lt h⟩
  · exact .inr (.inr ⟨h, cmpN_eq h⟩)
  · exact .inr (.inl ⟨h, cmpN_gt h⟩)
theorem val_lt_of_top {a b : List Nat} {i : Nat} (ha : Dig a) (hs : ∀ j, i < j → dg a j = dg b j) (h : dg a i < dg b i) : val a < val b := by
  have e : val (a.drop (i + 1)) = val (b.drop (i + 1)) := val_ext fun j => by rw [dg_drop, dg_drop]; exact hs _ (by omega)
  rw [val_cut a (i + 1), val_cut b (i + 1), e, val_take_succ, val_take_succ]
  have h1 := val_take_lt ha i
  have h2 : 4294967296 ^ i * (dg a i + 1) ≤ 4294967296 ^ i * dg b i := Nat.mul_le_mul_left _ h
  rw [Nat.mul_add] at h2
  omega
theorem val_lt_of_len {a b : List Nat} (ha : Dig a) (hb : Trm b) (h : a.length < b.length) : val a < val b := by
  have h1 := val_lt ha
  have h2 := pow_le_val hb (by intro e; rw [e] at h; simp at h)
  have h3 : 4294967296 ^ a.length ≤ 4294967296 ^ (b.length - 1) := Nat.pow_le_pow_right (by omega) (by omega)
  omega
theorem len_le_of_val {a b : List Nat} (ha : Dig a) (hb : Trm b) (h : val b ≤ val a) : b.length ≤ a.length := by
  rcases Nat.lt_or_ge a.length b.length with h' | h'
  · have := val_lt_of_len ha hb h'; omega
  · exact h'

/-! ### Sums -/
def PlusI (a b l : List Nat) (k c : Nat) : Prop := val (l.take k) + 4294967296 ^ k * c = val (a.take k) + val (b.take k) ∧ c ≤ 1 ∧ Dig l
theorem PlusI.start (a b l : List Nat) (h : Dig l) : PlusI a b l 0 0 := ⟨by simp [val], by omega, h⟩
theorem PlusI.sum {a b l : List Nat} {k c : Nat} (ha : Dig a) (hb : Dig b) (h : PlusI a b l k c) : dg a k + dg b k + c ≤ 8589934591 ∧ dg a k + dg b k ≤ 8589934590 := by
  have := dg_lt ha k; have := dg_lt hb k; have := h.2.1; omega
theorem PlusI.step {a b l : List Nat} {k c : Nat} (ha : Dig a) (hb : Dig b) (h : PlusI a b l k c) (hk : k < l.length) :
    PlusI a b (l.set k ((dg a k + dg b k + c) % 4294967296)) (k + 1) ((dg a k + dg b k + c) / 4294967296) := by
  have hs := h.sum ha hb
  obtain ⟨h1, h2, h3⟩ := h
  refine ⟨?_, by omega, h3.set _ (by omega)⟩
  rw [val_set hk, val_take_succ, val_take_succ, Nat.pow_succ]
  generalize hx : dg a k + dg b k + c = x at *
  have e : 4294967296 ^ k * (x % 4294967296) + 4294967296 ^ k * 4294967296 * (x / 4294967296) = 4294967296 ^ k * x := by
    rw [Nat.mul_assoc, ← Nat.mul_add, Nat.mod_add_div]
  have e2 : 4294967296 ^ k * x = 4294967296 ^ k * dg a k + 4294967296 ^ k * dg b k + 4294967296 ^ k * c := by rw [← hx, Nat.mul_add, Nat.mul_add]
  omega
theorem PlusI.fin {a b l : List Nat} {n c : Nat} (ha : a.length ≤ n) (hb : b.length ≤ n) (h : PlusI a b l n c) (hl : l.length = n + 1) :
    val (l.set n c) = val a + val b ∧ Dig (l.set n c) := by
  obtain ⟨h1, h2, h3⟩ := h
  rw [List.take_of_length_le ha, List.take_of_length_le hb] at h1
  refine ⟨?_, h3.set _ (by omega)⟩
  rw [← h1, ← val_set (l := l) (k := n) (x := c) (by omega), List.take_of_length_le (by simp; omega)]
theorem PlusI.snoc {a b l : List Nat} {k c : Nat} (ha : Dig a) (hb : Dig b) (h : PlusI a b l k c) (hk : l.length = k) :
    PlusI a b (l ++ [(dg a k + dg b k + c) % 4294967296]) (k + 1) ((dg a k + dg b k + c) / 4294967296) := by
  have h' : PlusI a b (l ++ [0]) k c := ⟨by rw [List.take_append_of_le_length (by omega)]; exact h.1, h.2.1, h.2.2.append (Dig.one (by omega))⟩
  have := h'.step ha hb (by simp; omega)
  rwa [List.set_append_right _ _ (by omega), hk, Nat.sub_self] at this
theorem PlusI.all {a b l : List Nat} {k c : Nat} (ha : Dig a) (hb : Dig b) (hla : a.length < k) (hlb : b.length < k) (h : PlusI a b l k c) (hl : l.length = k) : val l = val a + val b := by
  obtain ⟨h1, h2, h3⟩ := h
  rw [List.take_of_length_le (by omega), List.take_of_length_le (by omega), List.take_of_length_le (by omega)] at h1
  have e1 := val_lt ha
  have e2 := val_lt hb
  have p1 : 4294967296 ^ a.length ≤ 4294967296 ^ (k - 1) := Nat.pow_le_pow_right (by omega) (by omega)
  have p2 : 4294967296 ^ b.length ≤ 4294967296 ^ (k - 1) := Nat.pow_le_pow_right (by omega) (by omega)
  have p3 : 4294967296 ^ k = 4294967296 ^ (k - 1) * 4294967296 := by rw [← Nat.pow_succ]; congr 1; omega
  have hc : c = 0 := by
    rcases Nat.eq_zero_or_pos c with h0 | h0
    · exact h0
    · have : 4294967296 ^ k * 1 ≤ 4294967296 ^ k * c := Nat.mul_le_mul_left _ h0
      omega
  subst hc
  omega

/-! ### Differences -/
def MinusI (a b l : List Nat) (k c : Nat) : Prop := val (l.take k) + val (b.take k) = val (a.take k) + 4294967296 ^ k * c ∧ c ≤ 1 ∧ Dig l
theorem MinusI.start (a b l : List Nat) (h : Dig l) : MinusI a b l 0 0 := ⟨by simp [val], by omega, h⟩
theorem MinusI.step {a b l : List Nat} {k c d c' : Nat} (h : MinusI a b l k c) (hk : k < l.length) (hd : d < 4294967296) (hc : c' ≤ 1) (e : d + dg b k + c = dg a k + 4294967296 * c') :
    MinusI a b (l.set k d) (k + 1) c' := by
  obtain ⟨h1, h2, h3⟩ := h
  refine ⟨?_, hc, h3.set _ hd⟩
  rw [val_set hk, val_take_succ, val_take_succ, Nat.pow_succ]
  have e2 : 4294967296 ^ k * d + 4294967296 ^ k * dg b k + 4294967296 ^ k * c = 4294967296 ^ k * dg a k + 4294967296 ^ k * 4294967296 * c' := by
    rw [← Nat.mul_add, ← Nat.mul_add, e, Nat.mul_add, Nat.mul_assoc]
  omega
theorem MinusI.snoc {a b l : List Nat} {k c d c' : Nat} (h : MinusI a b l k c) (hk : l.length = k) (hd : d < 4294967296) (hc : c' ≤ 1) (e : d + dg b k + c = dg a k + 4294967296 * c') :
    MinusI a b (l ++ [d]) (k + 1) c' := by
  have h' : MinusI a b (l ++ [0]) k c := ⟨by rw [List.take_append_of_le_length (by omega)]; exact h.1, h.2.1, h.2.2.append (Dig.one (by omega))⟩
  have := h'.step (by simp; omega) hd hc e
  rwa [List.set_append_right _ _ (by omega), hk, Nat.sub_self] at this
theorem MinusI.fin {a b l : List Nat} {c : Nat} (ha : Dig a) (tb : Trm b) (h : MinusI a b l a.length c) (hl : l.length = a.length) (hv : val b ≤ val a) : val l = val a - val b ∧ c = 0 := by
  obtain ⟨h1, h2, h3⟩ := h
  have hb := len_le_of_val ha tb hv
  rw [List.take_of_length_le (by omega), List.take_of_length_le hb, List.take_of_length_le (Nat.le_refl _)] at h1
  have h4 := val_lt h3
  rw [hl] at h4
  have hc : c = 0 := by
    rcases Nat.eq_zero_or_pos c with h0 | h0
    · exact h0
    · have : 4294967296 ^ a.length * 1 ≤ 4294967296 ^ a.length * c := Nat.mul_le_mul_left _ h0
      omega
  subst hc
  omega

/-! ### Products -/
/-- After i digits of a. -/
def TimesO (a b l : List Nat) (i : Nat) : Prop := val (l.take (i + b.length)) = val (a.take i) * val b ∧ Dig l ∧ ∀ t, i + b.length ≤ t → dg l t = 0
/-- .. and j digits of b, the carry c. -/
def TimesI (a b l0 l : List Nat) (i j c : Nat) : Prop :=
  val (l.take (i + j)) + 4294967296 ^ (i + j) * c = val (l0.take (i + j)) + 4294967296 ^ i * (dg a i * val (b.take j)) ∧ Dig l ∧ c < 4294967296 ∧ ∀ t, i + j ≤ t → dg l t = dg l0 t
theorem TimesO.start (a b : List Nat) (n : Nat) : TimesO a b (List.replicate n 0) 0 := ⟨by
  have : val ((List.replicate n 0).take (0 + b.length)) = 0 := val_zero_of fun i => by
    rcases Nat.lt_or_ge i (0 + b.length) with h | h
    · rw [dg_take h, dg_replicate]
    · exact dg_out (Nat.le_trans (List.length_take_le _ _) h)
  rw [this]; simp [val], Dig.replicate n, fun t _ => dg_replicate n t⟩
theorem TimesI.start {a b l : List Nat} {i : Nat} (h : TimesO a b l i) : TimesI a b l l i 0 0 := ⟨by simp [val], h.2.1, by omega, fun _ _ => rfl⟩
theorem TimesI.bound {a b l0 l : List Nat} {i j c : Nat} (ha : Dig a) (hb : Dig b) (h : TimesI a b l0 l i j c) :
    dg a i * dg b j ≤ 18446744065119617025 ∧ dg a i * dg b j + dg l (i + j) ≤ 18446744069414584320 ∧ dg a i * dg b j + dg l (i + j) + c ≤ 18446744073709551615 := by
  have h1 := dg_lt ha i; have h2 := dg_lt hb j; have h3 := dg_lt h.2.1 (i + j); have h4 := h.2.2.1
  have : dg a i * dg b j ≤ 4294967295 * 4294967295 := Nat.mul_le_mul (by omega) (by omega)
  omega
theorem TimesI.step {a b l0 l : List Nat} {i j c : Nat} (ha : Dig a) (hb : Dig b) (h : TimesI a b l0 l i j c) (hk : i + j < l.length) :
    TimesI a b l0 (l.set (i + j) ((dg a i * dg b j + dg l (i + j) + c) % 4294967296)) i (j + 1) ((dg a i * dg b j + dg l (i + j) + c) / 4294967296) := by
  have hbd := h.bound ha hb
  obtain ⟨h1, h2, h3, h4⟩ := h
  refine ⟨?_, h2.set _ (by omega), by omega, fun t ht => ?_⟩
  · rw [← Nat.add_assoc, val_set hk, val_take_succ, val_take_succ, ← h4 (i + j) (Nat.le_refl _), Nat.pow_succ]
    generalize hx : dg a i * dg b j + dg l (i + j) + c = x at *
    have e : 4294967296 ^ (i + j) * (x % 4294967296) + 4294967296 ^ (i + j) * 4294967296 * (x / 4294967296) = 4294967296 ^ (i + j) * x := by
      rw [Nat.mul_assoc, ← Nat.mul_add, Nat.mod_add_div]
    have e2 : 4294967296 ^ (i + j) * x = 4294967296 ^ i * (dg a i * (4294967296 ^ j * dg b j)) + 4294967296 ^ (i + j) * dg l (i + j) + 4294967296 ^ (i + j) * c := by
      rw [← hx, Nat.mul_add, Nat.mul_add, Nat.pow_add, Nat.mul_assoc, Nat.mul_left_comm (dg a i)]
    rw [Nat.mul_add (dg a i), Nat.mul_add (4294967296 ^ i)]
    omega
  · rw [dg_set_other (by omega)]; exact h4 t (by omega)
theorem TimesI.fin {a b l0 l : List Nat} {i c : Nat} (h0 : TimesO a b l0 i) (h : TimesI a b l0 l i b.length c) (hk : i + b.length < l.length) : TimesO a b (l.set (i + b.length) c) (i + 1) := by
  obtain ⟨h1, h2, h3, h4⟩ := h
  obtain ⟨g1, g2, g3⟩ := h0
  refine ⟨?_, h2.set _ h3, fun t ht => ?_⟩
  · have e : i + 1 + b.length = i + b.length + 1 := by omega
    rw [e, val_set hk, h1, g1, val_take_succ, List.take_of_length_le (Nat.le_refl _), Nat.add_mul, Nat.mul_assoc]
  · rw [dg_set_other (by omega), h4 t (by omega)]; exact g3 t (by omega)
theorem TimesO.fin {a b l : List Nat} (h : TimesO a b l a.length) (hl : l.length = a.length + b.length) : val l = val a * val b := by
  obtain ⟨h1, _, _⟩ := h
  rwa [List.take_of_length_le (by omega), List.take_of_length_le (Nat.le_refl _)] at h1
end Go.Proofs.YtchnaimpmegbkaaGreatDoor

/- Numbers in memory: a slice that reads as digits; a block of the call's own that is known whole. -/
namespace Go.Proofs.YtchnaimpmegbkaaGreatDoor
open Go.RowKit
set_option linter.unusedVariables false

/-- The slice '.slice A l.length c' reads as the digits l. -/
def NR (w : World) (A : Option Addr) (c : Nat) (l : List Nat) : Prop :=
  Dig l ∧ l.length ≤ c ∧ (c ≤ 9223372036854775807 ∧ l.length ≤ 35184372088832) ∧
    (l ≠ [] → ∃ b off, A = some ⟨b, off, none⟩ ∧ b < w.heap.size ∧ ∀ i, i < l.length → w.cell? ⟨b, off + i, none⟩ = some (.int .u32 (dg l i : Nat)))
/-- .. and it lies in memory from block B on, which may be written. -/
def NF (B : Nat) (w : World) (A : Option Addr) (c : Nat) (l : List Nat) : Prop :=
  NR w A c l ∧ (l ≠ [] → ∃ b off, A = some ⟨b, off, none⟩ ∧ B ≤ b ∧ ∀ i, i < l.length → w.frozen? ⟨b, off + i, none⟩ = false)

theorem NR.nil (w : World) : NR w none 0 [] := ⟨Dig.nil, Nat.le_refl _, ⟨by omega, by simp⟩, fun h => absurd rfl h⟩
theorem NF.nil (B : Nat) (w : World) : NF B w none 0 [] := ⟨NR.nil w, fun h => absurd rfl h⟩
theorem NR.dig {w : World} {A : Option Addr} {c : Nat} {l : List Nat} (h : NR w A c l) : Dig l := h.1
theorem NR.le {w : World} {A : Option Addr} {c : Nat} {l : List Nat} (h : NR w A c l) : l.length ≤ c := h.2.1
theorem NR.cap {w : World} {A : Option Addr} {c : Nat} {l : List Nat} (h : NR w A c l) : c ≤ 9223372036854775807 := h.2.2.1.1
theorem NR.len {w : World} {A : Option Addr} {c : Nat} {l : List Nat} (h : NR w A c l) : l.length ≤ 35184372088832 := h.2.2.1.2
theorem NR.at_ {w : World} {A : Option Addr} {c : Nat} {l : List Nat} (h : NR w A c l) {i : Nat} (hi : i < l.length) :
    ∃ b off, A = some ⟨b, off, none⟩ ∧ b < w.heap.size ∧ w.cell? ⟨b, off + i, none⟩ = some (.int .u32 (dg l i : Nat)) := by
  obtain ⟨b, off, e, hb, hc⟩ := h.2.2.2 (fun e => by rw [e] at hi; simp at hi)
  exact ⟨b, off, e, hb, hc i hi⟩
theorem NR.keep {w w' : World} {A : Option Addr} {c : Nat} {l : List Nat} (h : NR w A c l) (hs : w.heap.size ≤ w'.heap.size) (hk : ∀ p : Addr, p.block < w.heap.size → w'.cell? p = w.cell? p) : NR w' A c l :=
  ⟨h.1, h.2.1, h.2.2.1, fun hn => by
    obtain ⟨b, off, e, hb, hc⟩ := h.2.2.2 hn
    exact ⟨b, off, e, by omega, fun i hi => (hk _ hb).trans (hc i hi)⟩⟩
theorem NR.below {w w' : World} {A : Option Addr} {c : Nat} {l : List Nat} (h : NR w A c l) (hb : Below w.heap.size w w') : NR w' A c l := h.keep hb.size fun p hp => hb.cell hp
theorem NR.alloc {w : World} {A : Option Addr} {c : Nat} {l : List Nat} (h : NR w A c l) (o : Obj) : NR (w.alloc o) A c l := h.below ((Below.refl _ _).alloc (Nat.le_refl _) o)
theorem NR.drew {w : World} {A : Option Addr} {c : Nat} {l : List Nat} (h : NR w A c l) : NR w.drew A c l := h.below (Below.refl _ _).drew
theorem NR.drewN {w : World} {A : Option Addr} {c : Nat} {l : List Nat} (h : NR w A c l) (n : Nat) : NR (w.drewN n) A c l := h.below ((Below.refl _ _).trans ⟨rfl, rfl, rfl, Nat.le_refl _, fun _ _ => rfl⟩)
theorem NF.below {B : Nat} {w w' : World} {A : Option Addr} {c : Nat} {l : List Nat} (h : NF B w A c l) (hb : Below w.heap.size w w') : NF B w' A c l :=
  ⟨h.1.below hb, fun hn => by
    obtain ⟨b, off, e, hB, hf⟩ := h.2 hn
    obtain ⟨b', off', e', hb', _⟩ := h.1.2.2.2 hn
    rw [e] at e'
    injection e' with e'
    injection e' with e1 e2
    subst e1
    exact ⟨b, off, e, hB, fun i hi => by rw [hb.frozen (by exact hb')]; exact hf i hi⟩⟩
theorem NF.mono {B B' : Nat} {w : World} {A : Option Addr} {c : Nat} {l : List Nat} (h : NF B w A c l) (hB : B' ≤ B) : NF B' w A c l :=
  ⟨h.1, fun hn => by obtain ⟨b, off, e, h1, h2⟩ := h.2 hn; exact ⟨b, off, e, by omega, h2⟩⟩

theorem NR.take {w : World} {A : Option Addr} {c : Nat} {l : List Nat} (h : NR w A c l) (n : Nat) : NR w A c (l.take n) :=
  ⟨h.1.take n, Nat.le_trans (List.length_take_le' _ _) h.2.1, ⟨h.2.2.1.1, Nat.le_trans (List.length_take_le' _ _) h.2.2.1.2⟩, fun hn => by
    have hl : l ≠ [] := fun e => hn (by rw [e]; simp)
    obtain ⟨b, off, e, hb, hc⟩ := h.2.2.2 hl
    refine ⟨b, off, e, hb, fun i hi => ?_⟩
    have h1 : i < n ∧ i < l.length := by rw [List.length_take] at hi; omega
    rw [dg_take h1.1]
    exact hc i h1.2⟩
theorem NF.take {B : Nat} {w : World} {A : Option Addr} {c : Nat} {l : List Nat} (h : NF B w A c l) (n : Nat) : NF B w A c (l.take n) :=
  ⟨h.1.take n, fun hn => by
    have hl : l ≠ [] := fun e => hn (by rw [e]; simp)
    obtain ⟨b, off, e, hB, hf⟩ := h.2 hl
    exact ⟨b, off, e, hB, fun i hi => hf i (by rw [List.length_take] at hi; omega)⟩⟩

theorem NR.trim {w : World} {A : Option Addr} {c : Nat} {l : List Nat} (h : NR w A c l) : NR w A c (digs (val l)) := by
  obtain ⟨n, _, hn⟩ := digs_take h.dig
  rw [hn]
  exact h.take n
theorem NF.trim {B : Nat} {w : World} {A : Option Addr} {c : Nat} {l : List Nat} (h : NF B w A c l) : NF B w A c (digs (val l)) := by
  obtain ⟨n, _, hn⟩ := digs_take h.1.dig
  rw [hn]
  exact h.take n

/-- The cells of some digits. -/
def cellsN (l : List Nat) : Array Value := (l.map fun x => Value.int .u32 (x : Nat)).toArray
/-- Block g is just these digits, none frozen. -/
def BlkN (w : World) (g : Nat) (l : List Nat) : Prop := w.heap[g]? = some (.cells (cellsN l) 120 (0, 0)) ∧ Dig l
theorem cellsN_get (l : List Nat) (i : Nat) (h : i < l.length) : (cellsN l)[i]? = some (.int .u32 (dg l i : Nat)) := by
  unfold cellsN
  simp [dg_in h, List.getElem?_eq_getElem h]
theorem BlkN.lt {w : World} {g : Nat} {l : List Nat} (h : BlkN w g l) : g < w.heap.size := by
  rcases Nat.lt_or_ge g w.heap.size with hlt | hge
  · exact hlt
  · have := h.1; rw [Array.getElem?_eq_none hge] at this; cases this
theorem BlkN.cell {w : World} {g : Nat} {l : List Nat} (h : BlkN w g l) {i : Nat} (hi : i < l.length) : w.cell? ⟨g, i, none⟩ = some (.int .u32 (dg l i : Nat)) := by
  unfold World.cell?
  simp only [h.1]
  simpa using cellsN_get l i hi
theorem BlkN.frozen {w : World} {g : Nat} {l : List Nat} (h : BlkN w g l) (i : Nat) : w.frozen? ⟨g, i, none⟩ = false := by
  have := h.1
  simp [World.frozen?, this]
theorem BlkN.set {w : World} {g : Nat} {l : List Nat} (h : BlkN w g l) (i : Nat) {x : Nat} (hx : x < 4294967296) : BlkN (w.setCell ⟨g, i, none⟩ (.int .u32 (x : Nat))) g (l.set i x) := by
  refine ⟨?_, h.2.set i hx⟩
  have h1 := h.1
  simp only [World.setCell, Array.getElem?_modify, h1]
  simp [cellsN, List.map_set]
theorem BlkN.below {B : Nat} {w w' : World} {g : Nat} {l : List Nat} (h : BlkN w g l) (hb : Below B w w') (hg : g < B) : BlkN w' g l := ⟨(hb.block g hg).trans h.1, h.2⟩
theorem BlkN.below' {w w' : World} {g : Nat} {l : List Nat} (h : BlkN w g l) (hb : Below w.heap.size w w') : BlkN w' g l := h.below hb h.lt
theorem BlkN.drew {w : World} {g : Nat} {l : List Nat} (h : BlkN w g l) : BlkN w.drew g l := h
theorem BlkN.alloc {w : World} {g : Nat} {l : List Nat} (h : BlkN w g l) (o : Obj) : BlkN (w.alloc o) g l := ⟨(Below.heap_alloc w o g h.lt).trans h.1, h.2⟩
theorem BlkN.far {w : World} {g : Nat} {l : List Nat} (h : BlkN w g l) {p : Addr} (hp : g ≠ p.block) (u : Value) : BlkN (w.setCell p u) g l := ⟨(Below.heap_setCell w p u g hp).trans h.1, h.2⟩
theorem made_cellsN (n : Nat) : madeCells #[Value.int .u32 0] n = cellsN (List.replicate n 0) := by
  apply Array.toList_inj.1
  rw [toList_madeCells_one]
  simp [cellsN]
theorem BlkN.made (w : World) (n : Nat) : BlkN (w.alloc (.cells (madeCells #[Value.int .u32 0] n) 120)) w.heap.size (List.replicate n 0) :=
  ⟨by rw [heap_alloc_new, made_cellsN], Dig.replicate n⟩
/-- The slice over the whole of such a block. -/
theorem BlkN.nf {B : Nat} {w : World} {g c : Nat} {l : List Nat} (h : BlkN w g l) (hB : B ≤ g) (hc : l.length ≤ c) (hm : c ≤ 9223372036854775807) (hl : l.length ≤ 35184372088832) : NF B w (some ⟨g, 0, none⟩) c l :=
  ⟨⟨h.2, hc, ⟨hm, hl⟩, fun _ => ⟨g, 0, rfl, h.lt, fun i hi => by rw [Nat.zero_add]; exact h.cell hi⟩⟩, fun _ => ⟨g, 0, rfl, hB, fun i _ => h.frozen _⟩⟩

theorem u32_info : (Tryz.prog.info? 120).map (fun i => (i.zero, i.size, i.bytes)) = some (some (.int .u32 0), 1, 4) := by kernel_rfl
/-- make: a block of zeros, the world a variable. -/
theorem wpList_make_nat (w : World) {ops : Array Oper} {rest : List Oper} {o : Oper} {a : Act} {Q : Exit → Act → World → Prop} (hg : o.guard = none) (l c : Operand) (hop : o.op = Op.makeSlice 25 l c)
    (n : Nat) {x y : Int} (hl : a.eval l = .int .i64 x) (hc : a.eval c = .int .i64 y) (hx : x = n) (hy : y = n) (hn : n ≤ 70368744177664)
    (hK : ∀ w', BlkN w' w.heap.size (List.replicate n 0) → Below w.heap.size w w' → w.heap.size < w'.heap.size → wpList Tryz.prog ops Q rest (a.put o.dst (.slice (some ⟨w.heap.size, 0, none⟩) n n)) w') : wpList Tryz.prog ops Q (o :: rest) a w := by
  obtain ⟨i0, hi, hz0, hz1, hz2⟩ := info_parts u32_info
  subst hx hy
  exact wpList_make_row w hg l c 25 hop 120 i0 (.int .u32 0) Tryz.underlying25 hi hz0 hz1 rfl .i64 .i64 n hl hc (by rw [hz2]; omega) (by omega) (hK _ (BlkN.made w n) ((Below.refl _ _).alloc (Nat.le_refl _) _) (by simp))

/-- Below behind a store into a block from B on. -/
theorem int_le_of {a b : Nat} (h : a ≤ b) : (a : Int) ≤ b := Int.ofNat_le.2 h
end Go.Proofs.YtchnaimpmegbkaaGreatDoor

/- What the frames of the laws share: numbers and fractions among the arguments, opened. -/
namespace Go.Proofs.YtchnaimpmegbkaaGreatDoor
open Go.ChangeShapes Go.WideShapes Go.ChangeAt Go.RowKit
set_option linter.unusedVariables false

theorem bytes_u32 : Tryz.prog.bytesOf 120 = 4 := by kernel_rfl
theorem cells_u32 : Tryz.prog.cellsOf 120 = 1 := by kernel_rfl

theorem nat_of_trod {H : Type} {enc : TypeId × Value → H} {W : World} {fuel : Nat} {cs : List Value} {x : DataW H × List MemPlace} (h : DataW.trod enc Tryz.prog W 0 (fun _ => true) true fuel 25 cs = some x)
    (hw : ∀ n ∈ x.1.weights Tryz.prog 25, n ≤ reachBytes) : ∃ A c z, cs = [.slice A (List.length z) c] ∧ NR W A c z := by
  rcases open_ints Tryz.underlying25 Tryz.underlying120 cells_u32 h with ⟨rfl, rfl⟩ | ⟨a, len, cap, zs, rfl, hb, hle, hm, hzl, rfl, hc, hwf⟩
  · exact ⟨none, 0, [], rfl, NR.nil _⟩
  · simp only [if_true] at hzl
    have hcap : cap * 4 ≤ 140737488351232 := by
      have := hw ((len + (cap - len)) * 4) (by simp [DataW.weights, Tryz.underlying25, bytes_u32, lits, hzl, Nat.min_eq_left hle])
      simp only [reachBytes] at this
      omega
    have hlen : ((zs.take len).map Int.toNat).length = len := by simp [hzl, Nat.min_eq_left hle]
    refine ⟨some a, cap, (zs.take len).map Int.toNat, by rw [hlen], ?_⟩
    have hbd : ∀ i, i < len → (0 ≤ zs.getD i 0 ∧ zs.getD i 0 ≤ 4294967295) ∧ dg ((zs.take len).map Int.toNat) i = (zs.getD i 0).toNat := fun i hi => by
      refine ⟨by have := range_u32 hwf i; simpa [List.getD] using this, ?_⟩
      unfold dg
      simp [List.getD, hi, List.getElem?_eq_getElem (show i < zs.length by omega)]
    refine ⟨?_, by omega, ⟨by simpa [maxLen] using hm, by omega⟩, fun hne => ?_⟩
    · intro y hy
      obtain ⟨z, hz, rfl⟩ := List.mem_map.1 hy
      have := bounds_u32 (hwf z (List.mem_of_mem_take hz))
      omega
    · have h0 : 0 < len := by
        have := List.length_pos_iff.2 hne
        omega
      obtain ⟨b, off, rfl, hc2⟩ := ints_at hc (by omega)
      refine ⟨b, off, rfl, World.block_lt_of_cell? W _ (hc2 0 (by omega)), fun i hi => ?_⟩
      rw [hlen] at hi
      obtain ⟨h1, h2⟩ := hbd i hi
      rw [h2, hc2 i (by omega)]
      congr 2
      omega
end Go.Proofs.YtchnaimpmegbkaaGreatDoor

/- What the functions on powers and inverses compute, by walking their text. -/
namespace Go.Proofs.YtchnaimpmegbkaaGreatDoor
open Go.RowKit
set_option linter.unusedVariables false

/-- The world as it was but for draws. -/
def Qt (w w' : World) : Prop := ∃ n, w' = w.drewN n
theorem Qt.refl (w : World) : Qt w w := ⟨0, rfl⟩
theorem Qt.drewN {w w' : World} (h : Qt w w') (k : Nat) : Qt w (w'.drewN k) := by
  obtain ⟨n, rfl⟩ := h; exact ⟨n + k, by simp⟩
theorem Qt.drew {w w' : World} (h : Qt w w') : Qt w w'.drew := h.drewN 1
theorem Qt.trans {a b c : World} (h : Qt a b) (k : Qt b c) : Qt a c := by
  obtain ⟨n, rfl⟩ := h; obtain ⟨m, rfl⟩ := k; exact ⟨n + m, by simp⟩

end Go.Proofs.YtchnaimpmegbkaaGreatDoor

/- What the small functions on digits compute. -/
namespace Go.Proofs.YtchnaimpmegbkaaGreatDoor
open Go.RowKit
set_option linter.unusedVariables false

theorem tuple_int2 {j k : IntKind} {a b c d : Int} (h : a = b) (h2 : c = d) : Ending.returned (.tuple #[.int j a, .int k c]) = .returned (.tuple #[.int j b, .int k d]) := by rw [h, h2]
theorem ret_slice {A : Option Addr} {n m c : Nat} (h : n = m) : Ending.returned (.slice A n c) = .returned (.slice A m c) := by rw [h]
theorem quo_castk (r x : Nat) : (r : Int) / (x : Int) = ((r / x : Nat) : Int) := by rw [Int.natCast_ediv]

set_option maxHeartbeats 400000 in
theorem digit_any (A : Option Addr) (c : Nat) (l : List Nat) (i : Nat) (w : World) {n : Nat} (hn : l.length = n) (h : NR w A c l) (hi : i ≤ 4611686018427387904) :
    Calls Tryz.prog 108 #[.slice A n c, .int .i64 i] w fun e w' => e = .returned (.int .u64 (dg l i : Nat)) ∧ w = w' := by
  subst hn
  have hlen : (l.length : Int) ≤ 35184372088832 := int_le_of h.len
  have hi2 : (i : Int) ≤ 4611686018427387904 := int_le_of hi
  clear hi
  by_cases hk : i < l.length
  · obtain ⟨b, off, rfl, hb, hc⟩ := h.at_ hk
    have h1 : (dg l i : Int) ≤ 4294967295 := by have := dg_lt h.dig i; omega
    clear h
    go_enter Tryz.func108, Tryz.ntmps108
    go_wp2
    go_ret
    exact ⟨rfl, rfl⟩
  · have HD := Lib.hid (dg_out (Nat.le_of_not_lt hk))
    clear h
    go_enter Tryz.func108, Tryz.ntmps108
    go_wp2
    go_ret
    exact ⟨ret_int (by rw [HD.out]; rfl), rfl⟩
set_option maxHeartbeats 400000 in
theorem refAt_any (A : Option Addr) (c : Nat) (l : List Nat) (i : Nat) (w : World) {n : Nat} (hn : l.length = n) (h : NR w A c l) (hi : i ≤ 4611686018427387904) :
    Calls Tryz.prog 122 #[.slice A n c, .int .i64 i] w fun e w' => e = .returned (.int .u64 (dg l i : Nat)) ∧ w = w' := by
  subst hn
  have hlen : (l.length : Int) ≤ 35184372088832 := int_le_of h.len
  have hi2 : (i : Int) ≤ 4611686018427387904 := int_le_of hi
  clear hi
  by_cases hk : i < l.length
  · obtain ⟨b, off, rfl, hb, hc⟩ := h.at_ hk
    have h1 : (dg l i : Int) ≤ 4294967295 := by have := dg_lt h.dig i; omega
    clear h
    go_enter Tryz.func122, Tryz.ntmps122
    go_wp2
    go_ret
    exact ⟨rfl, rfl⟩
  · have HD := Lib.hid (dg_out (Nat.le_of_not_lt hk))
    clear h
    go_enter Tryz.func122, Tryz.ntmps122
    go_wp2
    go_ret
    exact ⟨ret_int (by rw [HD.out]; rfl), rfl⟩
set_option maxHeartbeats 400000 in
theorem halves_any (x : Nat) (w : World) {X : Int} (hX : X = x) (h : x < 18446744073709551616) :
    Calls Tryz.prog 107 #[.int .u64 X] w fun e w' => e = .returned (.tuple #[.int .u32 (x % 4294967296 : Nat), .int .u64 (x / 4294967296 : Nat)]) ∧ w = w' := by
  subst hX
  have H := Lib.hid h
  have h1 : (x : Int) ≤ 18446744073709551615 := by omega
  clear h
  go_enter Tryz.func107, Tryz.ntmps107
  go_wp2
  go_ret2
  exact ⟨tuple_int2 (emod_cast x 4294967296) (quo_castk x 4294967296), rfl⟩

/-- trim: the slice up to the last digit that is not 0. -/
theorem trim_any (A : Option Addr) (c : Nat) (l : List Nat) (w : World) {n : Nat} (hn : l.length = n) (h : NR w A c l) :
    Calls Tryz.prog 59 #[.slice A n c] w fun e w' => e = .returned (.slice A (digs (val l)).length c) ∧ w = w' := by
  subst hn
  have hlen : (l.length : Int) ≤ 35184372088832 := int_le_of h.len
  have hcap : (c : Int) ≤ 9223372036854775807 := int_le_of h.cap
  have hle := h.le
  go_enter Tryz.func59, Tryz.ntmps59
  go_wp2
  go_loop [3] (fun vn => ∃ n : Nat, n ≤ l.length ∧ Hid (∀ i, n ≤ i → dg l i = 0) ∧ vn = .int .i64 n) (fun vn => (intOf vn).toNat)
  case atStart => exact ⟨l.length, Nat.le_refl _, fun i hi => dg_out hi, rfl⟩
  case round =>
    obtain ⟨n, hn, H, rfl⟩ := hrel
    by_cases h0 : 0 < n
    · obtain ⟨b, off, rfl, hb, hc⟩ := h.at_ (i := n - 1) (by omega)
      by_cases hz : dg l (n - 1) = 0
      · have hz1 : ((dg l (n - 1) : Int) == 0) = true := by simp; omega
        have H2 : Hid (∀ i, n - 1 ≤ i → dg l i = 0) := fun i hi => by
          by_cases e : i = n - 1
          · rw [e]; exact hz
          · exact H.out i (by omega)
        clear hz
        go_wp2
        go_round
        case rel => exact ⟨n - 1, by omega, H2, int_cong (by omega)⟩
        case measure => simp [intOf]; omega
      · have hz1 : ((dg l (n - 1) : Int) == 0) = false := by simp; omega
        have HT : Hid (digs (val l) = l.take n) := digs_trim h.dig hn H.out (.inr hz)
        clear hz
        go_wp2
        go_ret
        exact ⟨ret_slice (by rw [HT.out, List.length_take, Nat.min_eq_left hn]), rfl⟩
    · have hn0 : n = 0 := by omega
      have HT : Hid (digs (val l) = l.take n) := digs_trim h.dig hn H.out (.inl hn0)
      have HN := Lib.hid hn0
      clear hn0
      go_wp2
      go_ret
      exact ⟨ret_slice (by rw [HT.out, List.length_take, Nat.min_eq_left hn]), rfl⟩

/-- The row that the call owns, as a number. -/
def ON (B : Nat) (w : World) (A : Option Addr) (c : Nat) (l : List Nat) : Prop := w.ownsRow B 120 1 (.slice A l.length c) l.length (cellsN l).toList ∧ Dig l ∧ l.length ≤ 35184372088832
theorem cellsN_one (l : List Nat) : ∀ u ∈ (cellsN l).toList, u.oneCell' = true := by
  intro u hu
  simp only [cellsN, List.mem_map] at hu
  obtain ⟨x, _, rfl⟩ := hu
  rfl
theorem ON.nf {B : Nat} {w : World} {A : Option Addr} {c : Nat} {l : List Nat} (h : ON B w A c l) : NF B w A c l := by
  obtain ⟨hown, hd, hl⟩ := h
  rcases hown.2 with ⟨hv, h0⟩ | ⟨g, cap, cur, hv, hB, hh, hnc, hm, hs, ht⟩
  · injection hv with h1 h2 h3
    have : l = [] := List.eq_nil_of_length_eq_zero h0
    subst h1 h3 this
    exact NF.nil B w
  · injection hv with h1 h2 h3
    subst h1 h3
    have hcell : ∀ i, i < l.length → w.cell? ⟨g, 0 + i, none⟩ = some (.int .u32 (dg l i : Nat)) := fun i hi => by
      have := hown.cellAt i (by omega)
      rw [Nat.zero_add, this]
      simpa using cellsN_get l i hi
    have hlt : g < w.heap.size := by
      rcases Nat.lt_or_ge g w.heap.size with hlt | hge
      · exact hlt
      · rw [Array.getElem?_eq_none hge] at hh; cases hh
    exact ⟨⟨hd, hnc, ⟨by simpa [maxLen] using hm, hl⟩, fun _ => ⟨g, 0, rfl, hlt, hcell⟩⟩, fun _ => ⟨g, 0, rfl, hB, fun i _ => by simpa using hown.frozenAt _⟩⟩
theorem ON.nil (B : Nat) (w : World) : ON B w none 0 [] := ⟨World.ownsRow_nil w B _ 1, Dig.nil, by simp⟩
theorem ON.below {B : Nat} {w w' : World} {A : Option Addr} {c : Nat} {l : List Nat} (h : ON B w A c l) (hb : Below w.heap.size w w') : ON B w' A c l := ⟨ownsRow_below h.1 hb, h.2⟩
theorem NR.src {w : World} {A : Option Addr} {c : Nat} {l : List Nat} (h : NR w A c l) : Src w 1 A l.length (cellsN l).toList := by
  refine ⟨by simp [cellsN], ?_⟩
  by_cases hl : l = []
  · exact .inl (by rw [hl]; rfl)
  · obtain ⟨b, off, e, hb, hc⟩ := h.2.2.2 hl
    refine .inr ⟨_, e, fun j u hu => ?_⟩
    have hj : j < l.length := by
      rcases Nat.lt_or_ge j l.length with h' | h'
      · exact h'
      · rw [List.getElem?_eq_none (by simpa [cellsN] using h')] at hu; cases hu
    have h2 := cellsN_get l j hj
    have h3 : u = .int .u32 (dg l j : Nat) := by
      rw [← Array.getElem?_toList] at h2
      rw [h2] at hu
      injection hu with hu
      exact hu.symm
    rw [h3, Addr.add_lit]
    exact hc j hj

theorem cellsN_append (a b : List Nat) : (cellsN (a ++ b)).toList = (cellsN a).toList ++ (cellsN b).toList := by simp [cellsN]
/-- append onto a number of the call's own. -/
theorem wpList_append_nat (w : World) {ops : Array Oper} {rest : List Oper} {o : Oper} {a : Act} {Q : Exit → Act → World → Prop} (hgd : o.guard = none) (s x : Operand)
    (ho : o.op = .call { callee := .builtin .append, args := #[s, x], argTypes := #[25, 25] })
    (B : Nat) (A : Option Addr) (n c : Nat) (l : List Nat) (hn : l.length = n) (hs : a.eval s = .slice A n c) (hown : ON B w A c l)
    (X : Option Addr) (m d : Nat) (news : List Nat) (hm : news.length = m) (hx : a.eval x = .slice X m d) (hsrc : Src w 1 X m (cellsN news).toList) (hd : Dig news)
    (hlen : n + m ≤ 35184372088832) (hB : B ≤ w.heap.size)
    (h : ∀ A' c' w', ON B w' A' c' (l ++ news) → Below B w w' → w.grownBy w' (Value.ownBlock (.slice A n c)) → wpList Tryz.prog ops Q rest (a.put o.dst (.slice A' (n + m) c')) w') : wpList Tryz.prog ops Q (o :: rest) a w := by
  obtain ⟨i0, hi, hz0, hz1, hz2⟩ := info_parts u32_info
  subst hn hm
  refine wpList_append_src w hgd s x 25 ho B 120 i0 (.int .u32 0) 1 4 Tryz.underlying25 hi hz0 hz1 hz2 rfl (by omega) A l.length c (cellsN l).toList hs hown.1 X news.length d (cellsN news).toList hx hsrc (cellsN_one _)
    (by simp only [maxLen]; omega) (by omega) hB ?_
  intro A' c' w' h1 h2 h3
  refine h A' c' w' ⟨?_, hown.2.1.append hd, by rw [List.length_append]; omega⟩ (grown_below (Below.refl _ _) hown.1 h2 hB (Nat.le_refl _)) h2
  rw [cellsN_append, List.length_append]
  exact h1

set_option maxHeartbeats 400000 in
/-- The reference's trim: the same digits in new memory. -/
theorem refTrim_any (A : Option Addr) (c : Nat) (l : List Nat) (w : World) {n : Nat} (hn : l.length = n) (h : NR w A c l) :
    Calls Tryz.prog 132 #[.slice A n c] w fun e w' => ∃ A' c', e = .returned (.slice A' (digs (val l)).length c') ∧ NF w.heap.size w' A' c' (digs (val l)) ∧ Below w.heap.size w w' := by
  subst hn
  have hlen : (l.length : Int) ≤ 35184372088832 := int_le_of h.len
  have hcap : (c : Int) ≤ 9223372036854775807 := int_le_of h.cap
  have hle := h.le
  go_enter Tryz.func132, Tryz.ntmps132
  go_wp2
  go_loop [3] (fun vn => ∃ n : Nat, n ≤ l.length ∧ Hid (∀ i, n ≤ i → dg l i = 0) ∧ vn = .int .i64 n) (fun vn => (intOf vn).toNat)
  case atStart => exact ⟨l.length, Nat.le_refl _, fun i hi => dg_out hi, rfl⟩
  case round =>
    obtain ⟨n, hn, H, rfl⟩ := hrel
    by_cases h0 : 0 < n
    · obtain ⟨b, off, hA, hb, hc⟩ := h.at_ (i := n - 1) (by omega)
      by_cases hz : dg l (n - 1) = 0
      · have hz1 : ((dg l (n - 1) : Int) == 0) = true := by simp; omega
        have H2 : Hid (∀ i, n - 1 ≤ i → dg l i = 0) := fun i hi => by
          by_cases e : i = n - 1
          · rw [e]; exact hz
          · exact H.out i (by omega)
        clear hz
        subst hA
        go_wp2
        go_round
        case rel => exact ⟨n - 1, by omega, H2, int_cong (by omega)⟩
        case measure => simp [intOf]; omega
      · have hz1 : ((dg l (n - 1) : Int) == 0) = false := by simp; omega
        have HT : Hid (digs (val l) = l.take n) := digs_trim h.dig hn H.out (.inr hz)
        have HL : Hid ((l.take n).length = n) := by unfold Hid; rw [List.length_take, Nat.min_eq_left hn]
        clear hz
        subst hA
        go_wp2_with (at_builtin; refine wpList_append_nat _ rfl (.const (.slice none 0 0)) (.tmp 20) rfl w.heap.size none 0 0 [] rfl rfl (ON.nil _ _) (some ⟨b, off, none⟩) n c (l.take n) HL.out rfl (by have := (h.take n).src; rw [HL.out] at this; exact this) (h.dig.take n) (by omega) (Nat.le_refl _) ?_; intro A' c' w' hon hbel hg; clear hg)
        go_ret
        exact ⟨A', c', ret_slice (by rw [HT.out, HL.out]), by rw [HT.out]; exact hon.nf, hbel⟩
    · have hn0 : n = 0 := by omega
      have HT : Hid (digs (val l) = []) := by have := digs_trim h.dig hn H.out (.inl hn0); unfold Hid; rw [this, hn0]; rfl
      subst hn0
      go_wp2_with (at_builtin; refine wpList_append_nat _ rfl (.const (.slice none 0 0)) (.tmp 20) rfl w.heap.size none 0 0 [] rfl rfl (ON.nil _ _) A 0 c [] rfl rfl (Src.nil _ _ _) Dig.nil (by omega) (Nat.le_refl _) ?_; intro A' c' w' hon hbel hg; clear hg)
      go_ret
      exact ⟨A', c', ret_slice (by rw [HT.out]; rfl), by rw [HT.out]; exact hon.nf, hbel⟩
end Go.Proofs.YtchnaimpmegbkaaGreatDoor

/- Of, plus, minus, times: what they compute. -/
namespace Go.Proofs.YtchnaimpmegbkaaGreatDoor
open Go.RowKit
set_option linter.unusedVariables false

theorem BlkN.lit1 (w : World) (x : Nat) (hx : x < 4294967296) : BlkN (w.alloc (.cells #[Value.int .u32 (x : Nat)] 120)) w.heap.size [x] :=
  ⟨by rw [heap_alloc_new]; rfl, Dig.one hx⟩
theorem BlkN.lit2 (w : World) (x y : Nat) (hx : x < 4294967296) (hy : y < 4294967296) : BlkN (w.alloc (.cells #[Value.int .u32 (x : Nat), Value.int .u32 (y : Nat)] 120)) w.heap.size [x, y] :=
  ⟨by rw [heap_alloc_new]; rfl, fun z hz => by
    rcases List.mem_cons.1 hz with h | h
    · omega
    · have := List.mem_singleton.1 h; omega⟩
theorem val_two (n : Nat) (h : n < 18446744073709551616) : val [n % 4294967296, n / 4294967296] = n := by simp only [val]; omega

set_option maxHeartbeats 400000 in
theorem Of_any (n : Nat) (w : World) (h : n < 18446744073709551616) :
    Calls Tryz.prog 23 #[.int .u64 n] w fun e w' => ∃ A' c', e = .returned (.slice A' (digs n).length c') ∧ NF w.heap.size w' A' c' (digs n) ∧ Below w.heap.size w w' := by
  have H := Lib.hid h
  have h1 : (n : Int) ≤ 18446744073709551615 := by omega
  have B := BlkN.lit2 w (n % 4294967296) (n / 4294967296) (by omega) (by omega)
  have e1 : ((n % 4294967296 : Nat) : Int) = (n : Int) % 4294967296 := by omega
  have e2 : ((n / 4294967296 : Nat) : Int) = (n : Int) / 4294967296 := by omega
  rw [e1, e2] at B
  clear h e1 e2
  go_enter Tryz.func23, Tryz.ntmps23
  go_wp2_with fail
  refine (trim_any _ _ _ _ rfl (B.nf (B := w.heap.size) (Nat.le_refl _) (Nat.le_refl _) (by simp) (by simp)).1).mono ?_
  rintro e w1 ⟨rfl, rfl⟩
  go_wp2_with fail
  go_ret
  rw [val_two n H.out]
  have hf := digs_val2 n H.out
  refine ⟨_, _, rfl, ?_, (Below.refl _ _).alloc (Nat.le_refl _) _⟩
  obtain ⟨k, hk⟩ := hf
  rw [hk]
  exact ((B.nf (B := w.heap.size) (Nat.le_refl _) (Nat.le_refl _) (by simp) (by simp))).take k
set_option maxHeartbeats 400000 in
theorem refOf_any (n : Nat) (w : World) (h : n < 18446744073709551616) :
    Calls Tryz.prog 121 #[.int .u64 n] w fun e w' => ∃ A' c', e = .returned (.slice A' (digs n).length c') ∧ NF w.heap.size w' A' c' (digs n) ∧ Below w.heap.size w w' := by
  have H := Lib.hid h
  have h1 : (n : Int) ≤ 18446744073709551615 := by omega
  have B := BlkN.lit2 w (n % 4294967296) (n / 4294967296) (by omega) (by omega)
  have e1 : ((n % 4294967296 : Nat) : Int) = (n : Int) % 4294967296 := by omega
  have e2 : ((n / 4294967296 : Nat) : Int) = (n : Int) / 4294967296 := by omega
  rw [e1, e2] at B
  clear h e1 e2
  go_enter Tryz.func121, Tryz.ntmps121
  go_wp2_with fail
  refine (refTrim_any _ _ _ _ rfl (B.nf (B := w.heap.size) (Nat.le_refl _) (Nat.le_refl _) (by simp) (by simp)).1).mono ?_
  rintro e w1 ⟨A', c', rfl, hnf, hb⟩
  rw [val_two n H.out] at hnf ⊢
  go_wp2_with fail
  go_ret
  exact ⟨_, _, rfl, hnf.mono (by simp), ((Below.refl _ _).alloc (Nat.le_refl _) _).trans (hb.mono (by simp))⟩

end Go.Proofs.YtchnaimpmegbkaaGreatDoor

/- slices.Backward over a number: its contract. -/
namespace Go.Proofs.YtchnaimpmegbkaaGreatDoor
open Go.RowKit Go.Shelf
set_option linter.unusedVariables false
attribute [local go_sem] Oper.semAt_some

/-- The indexes that have come of n, from the end, when k rounds are over. -/
def backI (n k : Nat) : List Nat := (List.range k).map fun j => n - 1 - j
theorem backI_succ (n k : Nat) : backI n (k + 1) = backI n k ++ [n - 1 - k] := by simp [backI, List.range_succ]
theorem backI_length (n k : Nat) : (backI n k).length = k := by simp [backI]
theorem backI_mem {n k j : Nat} (h1 : n - k ≤ j) (h2 : j < n) (hk : k ≤ n) : j ∈ backI n k := List.mem_map.2 ⟨n - 1 - j, List.mem_range.2 (by omega), by omega⟩
theorem map_length_of {α : Type} {f : α → Nat} {pre : List α} {n k : Nat} (h : pre.map f = backI n k) : pre.length = k := by
  have := congrArg List.length h
  simpa [backI_length] using this

/-- What a round that goes on keeps: what lay below block n, and block g. -/
def KB (n g : Nat) (W W' : World) : Prop := Below n W W' ∧ W'.heap[g]? = W.heap[g]?
theorem KB.trans {n g : Nat} {A B C : World} (h : KB n g A B) (k : KB n g B C) : KB n g A C := ⟨h.1.trans k.1, k.2.trans h.2⟩
theorem KB.put {n g : Nat} {w : World} (hn : n ≤ w.heap.size) (hg : g < w.heap.size) (W : World) (l : Nat) (o o' : Obj) (hl : w.heap.size ≤ l) (h : W.heap[l]? = some o) (h1 : o.isCells = false) (h2 : o.isWalk = false) : KB n g W (W.putObj l o') :=
  ⟨belowK_b hn W l o o' hl h h1 h2, (belowK_b (n₀ := w.heap.size) (Nat.le_refl _) W l o o' hl h h1 h2).block g hg⟩

set_option maxRecDepth 100000 in
set_option maxHeartbeats 2000000 in
theorem back1_in (F : Fence) (n : Nat) (h7 : F.fn 109) (hro : F.round = none) (hn : 1 ≤ n) (l Bs : Nat) (w0 : World) (A : Option Addr) (c : Nat) (zs : List Nat) (hR : NR w0 A c zs) (J Jx : List (Fin zs.length) → World → Prop)
    (hY : ∀ pre (x : Fin zs.length) W, J pre W → pre.length < zs.length → YieldAt F (n - 1) Tryz.prog l #[.int .i64 (x.1 : Int), .int .u32 (dg zs x.1 : Int)] W fun e W' =>
      (e = .returned (.bool true) ∧ J (pre ++ [x]) W' ∧ KB w0.heap.size Bs W W') ∨ (e = .returned (.bool false) ∧ Jx (pre ++ [x]) W'))
    (W : World) (hW : Below w0.heap.size w0 W) (hBs : W.cell? ⟨Bs, 0, none⟩ = some (.slice A zs.length c)) (h0 : J [] W) :
    CallsIn F n Tryz.prog 109 #[.func (.yield l) #[] #[], .pointer (some ⟨Bs, 0, none⟩)] W fun e W' => (∃ v, e = .returned v) ∧
      ((∃ ys, ys.map Fin.val = backI zs.length zs.length ∧ J ys W') ∨ (∃ pre, (∃ k, k ≤ zs.length ∧ pre.map Fin.val = backI zs.length k) ∧ Jx pre W')) := by
  have hlen : (zs.length : Int) ≤ 35184372088832 := int_le_of hR.len
  refine callsIn_of_wp Tryz.func109 rfl h7 ?_ hro
  simp only [Tryz.ntmps109, List.size_toArray, List.length_cons, List.length_nil, Nat.reduceAdd, Nat.reduceSub, Array.replicate_succ, Array.replicate_zero, List.push_toArray, List.append_toArray, List.nil_append, List.cons_append]
  gi_wp2
  gi_loopw [3] (fun i wr => ∃ (k : Nat) (pre : List (Fin zs.length)), k ≤ zs.length ∧ i = .int .i64 ((zs.length : Int) - 1 - k) ∧ Hid (pre.map Fin.val = backI zs.length k) ∧ J pre wr ∧ Below w0.heap.size w0 wr ∧ wr.cell? ⟨Bs, 0, none⟩ = some (.slice A zs.length c))
    (fun i _ => (intOf i + 1).toNat)
  case atStart => exact ⟨0, [], Nat.zero_le _, by simp, rfl, h0, hW, hBs⟩
  case round =>
    obtain ⟨k, pre, hk, rfl, HP, hJs, hnx, hbs⟩ := hrel
    by_cases hlt : k < zs.length
    · obtain ⟨b, off, rfl, hb, hc⟩ := hR.at_ (i := zs.length - 1 - k) (by omega)
      have hcx : wr.cell? ⟨b, off + (zs.length - 1 - k), none⟩ = some (.int .u32 (dg zs (zs.length - 1 - k) : Nat)) := (hnx.cell (p := ⟨b, _, none⟩) hb).trans hc
      obtain ⟨fn, tmps, assign, body, hy, hR2⟩ := hY _ ⟨zs.length - 1 - k, by omega⟩ wr hJs (by rw [map_length_of HP.out]; exact hlt)
      dsimp only at hy
      have e1 : ((zs.length - 1 - k : Nat) : Int) = (zs.length : Int) - 1 - k := by omega
      rw [e1] at hy
      clear e1 hc
      gi_wp2
      refine hR2.mono ?_
      rintro e W3 (⟨rfl, hJ3, hk3⟩ | ⟨rfl, hJx3⟩)
      · have hb3 := (World.cell?_of_block (a := ⟨Bs, 0, none⟩) hk3.2).trans hbs
        gi_wp2
        go_roundw
        case rel => exact ⟨k + 1, _, by omega, by go_num, by have := HP.out; simp [Hid, backI_succ, this], hJ3, hnx.trans hk3.1, hb3⟩
        case measure => simp [intOf]; omega
      · gi_wp2
        refine bodyPost_ret (results_none rfl _ _ _) rfl ?_
        exact ⟨⟨_, rfl⟩, .inr ⟨_, ⟨k + 1, by omega, by have := HP.out; simp [backI_succ, this]⟩, hJx3⟩⟩
    · obtain rfl : k = zs.length := by omega
      gi_wp2
      go_end0
      exact ⟨⟨_, rfl⟩, .inl ⟨_, HP.out, hJs⟩⟩
set_option maxHeartbeats 1000000 in
theorem back_in (F : Fence) (n : Nat) (h5 : F.fn 87) (hro : F.round = none) (a : Option Addr) (len cap : Nat) (w : World) :
    CallsIn F n Tryz.prog 87 #[.slice a len cap] w fun e w' => e = .returned (.func (.func 109) #[] #[.pointer (some ⟨w.heap.size, 0, none⟩)]) ∧ w' = w.alloc (.cells #[.slice a len cap] 25) := by
  refine callsIn_of_wp Tryz.func87 rfl h5 ?_ hro
  simp only [Tryz.ntmps87, List.size_toArray, List.length_cons, List.length_nil, Nat.reduceAdd, Nat.reduceSub, Array.replicate_succ, Array.replicate_zero, List.push_toArray, List.append_toArray, List.nil_append, List.cons_append]
  gi_wp2
  go_ret
  exact ⟨rfl, rfl⟩
theorem back_stops (F : Fence) (n : Nat) (h7 : F.fn 109) (hro : F.round = none) (hn : 1 ≤ n) (Bs : Nat) (w0 : World) (A : Option Addr) (c : Nat) (zs : List Nat) (hR : NR w0 A c zs) (w : World) (hw : Below w0.heap.size w0 w) (hBs : Bs < w.heap.size)
    (hc : w.cell? ⟨Bs, 0, none⟩ = some (.slice A zs.length c)) :
    SeqStopsK F n Tryz.prog 109 #[.pointer (some ⟨Bs, 0, none⟩)] (fun x : Fin zs.length => #[Value.int .i64 (x.1 : Int), Value.int .u32 (dg zs x.1 : Int)]) (KB w0.heap.size Bs) (fun ys => ys.map Fin.val = backI zs.length zs.length)
      (fun pre => ∃ k, k ≤ zs.length ∧ pre.map Fin.val = backI zs.length k) zs.length w := fun l J Jx W hW _ _ hY h0 =>
  back1_in F n h7 hro hn l Bs w0 A c zs hR J Jx hY W (hw.trans (hW.mono hw.size)) ((hW.cell (p := ⟨Bs, 0, none⟩) hBs).trans hc) h0
end Go.Proofs.YtchnaimpmegbkaaGreatDoor

/- bits.Sub32, Add32, Div32, LeadingZeros32. -/
namespace Go.Proofs.YtchnaimpmegbkaaGreatDoor
open Go.RowKit
set_option linter.unusedVariables false

theorem top_bit {n : Nat} (h : n < 4294967296) : n.testBit 31 = decide (2147483648 ≤ n) := by
  rw [Nat.testBit_eq_decide_div_mod_eq]
  have e : (2 : Nat) ^ 31 = 2147483648 := by decide
  rw [e]
  apply decide_eq_decide.2
  omega
theorem div_top {n : Nat} (h : n < 4294967296) : n / 2147483648 = (n.testBit 31).toNat := by
  rw [top_bit h]
  by_cases h2 : 2147483648 ≤ n
  · simp [h2]; omega
  · simp [h2]; omega
theorem lt32_and {a b : Nat} (h : b < 4294967296) : a &&& b < 4294967296 := Nat.lt_of_le_of_lt Nat.and_le_right h
theorem lt32_or {a b : Nat} (ha : a < 4294967296) (hb : b < 4294967296) : a ||| b < 4294967296 := Nat.or_lt_two_pow (n := 32) ha hb
theorem lt32_xor {a b : Nat} (ha : a < 4294967296) (hb : b < 4294967296) : a ^^^ b < 4294967296 := Nat.xor_lt_two_pow (n := 32) ha hb

/-- The borrow, as bits.Sub32 computes it. -/
theorem borrow_is {x y b d c : Nat} (hx : x < 4294967296) (hy : y < 4294967296) (hd : d < 4294967296) (hb : b ≤ 1) (hc : c ≤ 1) (h : d + y + b = x + 4294967296 * c) :
    (((4294967295 ^^^ x) &&& y) ||| ((4294967295 ^^^ (x ^^^ y)) &&& d)) / 2147483648 = c := by
  rw [div_top (lt32_or (lt32_and hy) (lt32_and hd))]
  simp only [Nat.testBit_or, Nat.testBit_and, Nat.testBit_xor, top_bit hx, top_bit hy, top_bit hd, show (4294967295 : Nat).testBit 31 = true from by decide]
  by_cases h1 : 2147483648 ≤ x <;> by_cases h2 : 2147483648 ≤ y <;> by_cases h3 : 2147483648 ≤ d <;> simp [h1, h2, h3] <;> omega

set_option maxHeartbeats 1000000 in
theorem Sub32_any (x y b : Nat) (hx : x < 4294967296) (hy : y < 4294967296) (hb : b ≤ 1) :
    ∃ d c : Nat, d < 4294967296 ∧ c ≤ 1 ∧ d + y + b = x + 4294967296 * c ∧ ∀ (X Y B : Int) (w : World), X = x → Y = y → B = b → Calls Tryz.prog 129 #[.int .u32 X, .int .u32 Y, .int .u32 B] w fun e w' => e = .returned (.tuple #[.int .u32 d, .int .u32 c]) ∧ w = w' := by
  obtain ⟨d, c, hd, hc, h⟩ : ∃ d c : Nat, d < 4294967296 ∧ c ≤ 1 ∧ d + y + b = x + 4294967296 * c := by
    by_cases h : y + b ≤ x
    · exact ⟨x - y - b, 0, by omega, by omega, by omega⟩
    · exact ⟨x + 4294967296 - y - b, 1, by omega, by omega, by omega⟩
  refine ⟨d, c, hd, hc, h, ?_⟩
  intro X Y B w eX eY eB
  subst eX eY eB
  have HB := Lib.hid (borrow_is hx hy hd hb hc h)
  have HD : Hid ((((x : Int) - y) % 4294967296 - b) % 4294967296 = d) := by unfold Hid; omega
  have HD2 : Hid (((x : Int) - y - b) % 4294967296 = d) := by unfold Hid; omega
  have hsg : IntKind.u32.signed = false := rfl
  have hmx : IntKind.u32.max = 4294967295 := rfl
  have HX := Lib.hid hx
  have HY := Lib.hid hy
  have HDD := Lib.hid hd
  clear hx hy hd h
  go_enter Tryz.func129, Tryz.ntmps129
  go_wp2
  go_ret2
  refine ⟨tuple_int2 HD.out ?_, rfl⟩
  have e1 : (4294967295 : Int) = ((4294967295 : Nat) : Int) := rfl
  rw [HD2.out, e1, u32_xor_nat 4294967295 x (by omega) HX.out, u32_xor_nat x y HX.out HY.out, u32_xor_nat 4294967295 _ (by omega) (lt32_xor HX.out HY.out), u32_and_nat _ y (lt32_xor (by omega) HX.out) HY.out,
    u32_and_nat _ d (lt32_xor (by omega) (lt32_xor HX.out HY.out)) HDD.out, u32_or_nat _ _ (lt32_and HY.out) (lt32_and HDD.out)]
  have := HB.out
  omega
set_option maxHeartbeats 1000000 in
theorem Add32_any (x y b : Nat) (w : World) (hx : x < 4294967296) (hy : y < 4294967296) (hb : b ≤ 1) {X Y B : Int} (eX : X = x) (eY : Y = y) (eB : B = b) :
    Calls Tryz.prog 130 #[.int .u32 X, .int .u32 Y, .int .u32 B] w fun e w' => e = .returned (.tuple #[.int .u32 ((x + y + b) % 4294967296 : Nat), .int .u32 ((x + y + b) / 4294967296 : Nat)]) ∧ w = w' := by
  subst eX eY eB
  have h1 : (x : Int) ≤ 4294967295 := by omega
  have h2 : (y : Int) ≤ 4294967295 := by omega
  have h3 : (b : Int) ≤ 1 := by omega
  have HX := Lib.hid hx
  have HY := Lib.hid hy
  clear hx hy
  go_enter Tryz.func130, Tryz.ntmps130
  go_wp2
  go_ret2
  exact ⟨tuple_int2 (by have := HX.out; omega) (by have := HX.out; have := HY.out; omega), rfl⟩
end Go.Proofs.YtchnaimpmegbkaaGreatDoor

/- order and the reference's Order: the comparison of two numbers. -/
namespace Go.Proofs.YtchnaimpmegbkaaGreatDoor
open Go.RowKit Go.Shelf
set_option linter.unusedVariables false
attribute [local go_sem] Oper.semAt_some

set_option maxHeartbeats 1000000 in
theorem order_len (A : Option Addr) (ca : Nat) (a : List Nat) (Bd : Option Addr) (cb : Nat) (b : List Nat) (w : World) {na nb : Nat} (hna : a.length = na) (hnb : b.length = nb) (ha : NR w A ca a) (hb : NR w Bd cb b) (ta : Trm a) (tb : Trm b) (hne : na ≠ nb) :
    Calls Tryz.prog 56 #[.slice A na ca, .slice Bd nb cb] w fun e w' => e = .returned (.int .i64 (cmpN (val a) (val b))) ∧ Below w.heap.size w w' := by
  have la : (na : Int) ≤ 35184372088832 := by have := ha.len; omega
  have lb : (nb : Int) ≤ 35184372088832 := by have := hb.len; omega
  have h1 : ((na : Int) != nb) = true := by simp; omega
  have h1' : (na != nb) = true := by simp; omega
  rcases Nat.lt_or_ge na nb with h | h
  · have HC := Lib.hid (cmpN_lt (val_lt_of_len ha.dig tb (by omega)))
    go_enter Tryz.func56, Tryz.ntmps56
    go_wp2
    refine bodyPost_ret (v := .int .i64 (-1)) (by simp [results, Tryz.f56, go_sem]) rfl ?_
    exact ⟨by rw [HC.out], by first | exact (((Below.refl _ _).alloc (Nat.le_refl _) _).alloc (by simp) _) | exact (((Below.refl _ _).alloc (Nat.le_refl _) _).alloc (by simp) _).setCell (by simp) _⟩
  · have HC := Lib.hid (cmpN_gt (val_lt_of_len hb.dig ta (by omega)))
    go_enter Tryz.func56, Tryz.ntmps56
    go_wp2
    refine bodyPost_ret (v := .int .i64 1) (by simp [results, Tryz.f56, go_sem]) rfl ?_
    exact ⟨by rw [HC.out], by first | exact (((Below.refl _ _).alloc (Nat.le_refl _) _).alloc (by simp) _) | exact (((Below.refl _ _).alloc (Nat.le_refl _) _).alloc (by simp) _).setCell (by simp) _⟩

theorem back_pre {n m k : Nat} {ini : List (Fin m)} {last : Fin m} (h : (ini ++ [last]).map Fin.val = backI n k) : ∃ k', k = k' + 1 ∧ ini.map Fin.val = backI n k' ∧ last.1 = n - 1 - k' := by
  cases k with
  | zero => simp [backI] at h
  | succ k' =>
    rw [backI_succ, List.map_append] at h
    obtain ⟨h1, h2⟩ := List.append_inj' h rfl
    exact ⟨k', rfl, h1, by simpa using h2⟩

/-- The digits that have come are those of b. -/
def SameB (a b : List Nat) (pre : List (Fin a.length)) : Prop := ∀ p ∈ pre, dg a p.1 = dg b p.1
theorem SameB.top {a b : List Nat} {pre : List (Fin a.length)} {k : Nat} (h : SameB a b pre) (hp : pre.map Fin.val = backI a.length k) (hab : b.length = a.length) (hk : k ≤ a.length) : ∀ j, a.length - k ≤ j → dg a j = dg b j := fun j hj => by
  rcases Nat.lt_or_ge j a.length with h1 | h1
  · have hm := backI_mem hj h1 hk
    rw [← hp] at hm
    obtain ⟨p, hp1, hp2⟩ := List.mem_map.1 hm
    rw [← hp2]
    exact h p hp1
  · rw [dg_out h1, dg_out (by omega)]

set_option maxRecDepth 100000 in
set_option maxHeartbeats 2000000 in
theorem order_same (A : Option Addr) (ca : Nat) (a : List Nat) (Bd : Option Addr) (cb : Nat) (b : List Nat) (w : World) (hab : b.length = a.length) (ha : NR w A ca a) (hb : NR w Bd cb b) :
    Calls Tryz.prog 56 #[.slice A a.length ca, .slice Bd a.length cb] w fun e w' => e = .returned (.int .i64 (cmpN (val a) (val b))) ∧ Below w.heap.size w w' := by
  have la : (a.length : Int) ≤ 35184372088832 := int_le_of ha.len
  refine (callsIn_wide (n := 4)).1 ?_
  generalize hF : Fence.wide = F
  have hro : F.round = none := by rw [← hF]; rfl
  have hfn : ∀ f, F.fn f := by rw [← hF]; exact fun _ => trivial
  clear hF
  refine callsIn_of_wp_marks Tryz.func56 rfl (hfn _) ?_ hro
  simp only [Tryz.ntmps56, List.size_toArray, List.length_cons, List.length_nil, Nat.reduceAdd, Nat.reduceSub, Array.replicate_succ, Array.replicate_zero, List.push_toArray, List.append_toArray, List.nil_append, List.cons_append]
  gi_wp2_with (gi_at_call 87; refine (back_in F 3 (hfn _) hro _ _ _ _).mono ?_; rintro e w' ⟨rfl, rfl⟩)
  have bB := Boxed.new w 25 (.slice Bd a.length cb)
  have bR := Boxed.new (w.alloc (.cells #[.slice Bd a.length cb] 25)) 3 (.int .i64 0)
  have bS := Boxed.new ((w.alloc (.cells #[.slice Bd a.length cb] 25)).alloc (.cells #[.int .i64 0] 3)) 25 (.slice A a.length ca)
  simp only [World.size_alloc] at bR bS
  have hB0 : Below w.heap.size w (((w.alloc (.cells #[.slice Bd a.length cb] 25)).alloc (.cells #[.int .i64 0] 3)).alloc (.cells #[.slice A a.length ca] 25)) := (((Below.refl _ w).alloc (Nat.le_refl _) _).alloc (by simp) _).alloc (by simp; omega) _
  refine wpIn_rangeFunc_ownG hro (by omega) (gf := 109) (lb := #[.pointer (some ⟨w.heap.size + 1 + 1, 0, none⟩)]) rfl (hfn _) (enters_of Tryz.func109 (by kernel_rfl) rfl)
    (back_stops F 3 (hfn _) hro (by omega) (w.heap.size + 1 + 1) w A ca a ha _ hB0 (by simp) bS.cell) KB.trans (KB.put (by simp; omega) (by simp)) (Below.refl _ _) (fun _ => rfl)
    (fun pre W => (SameB a b pre ∧ (W.cell? ⟨w.heap.size, 0, none⟩ = some (.slice Bd a.length cb)) ∧ W.cell? ⟨w.heap.size + 1, 0, none⟩ = some (.int .i64 0) ∧ W.frozen? ⟨w.heap.size + 1, 0, none⟩ = false) ∧ Below w.heap.size w W)
    (fun c pre W => (c = .ret ∧ ∃ ini last, pre = ini ++ [last] ∧ SameB a b ini ∧ ((dg a last.1 < dg b last.1 ∧ W.cell? ⟨w.heap.size + 1, 0, none⟩ = some (.int .i64 (-1))) ∨ (dg b last.1 < dg a last.1 ∧ W.cell? ⟨w.heap.size + 1, 0, none⟩ = some (.int .i64 1)))) ∧ Below w.heap.size w W)
    ?hI ?hIx ?h0
    (fun x => { tmps := #[.slice A a.length ca, .slice Bd a.length cb, undef, .pointer (some ⟨w.heap.size, 0, none⟩), .pointer (some ⟨w.heap.size + 1, 0, none⟩), .int .i64 (x.1 : Int), .int .u32 (dg a x.1 : Int), .slice A a.length ca, .int .i64 (a.length : Int), .slice Bd a.length cb, .int .i64 (a.length : Int), .bool false, undef, undef, undef, undef, undef, .slice A a.length ca, .func (.func 109) #[] #[.pointer (some ⟨w.heap.size + 1 + 1, 0, none⟩)], .int .i64 (x.1 : Int), .int .u32 (dg a x.1 : Int), undef, undef, undef, undef, undef, undef, undef, undef, undef, undef, undef, undef, undef, undef], defers := [] }) ?assign ?body ?done ?stop
  case hI => exact OwnFrom.and (Own.from (fun s A B row hs hg hr => ⟨hs.1, cell_kept hs.2.1 hg hr, cell_kept hs.2.2.1 hg hr, (frozen_kept hs.2.2.1 hg hr).trans hs.2.2.2⟩) _) (ownFrom_below (Nat.le_refl _) (by simp; omega))
  case hIx =>
    exact fun c => OwnFrom.and (Own.from (fun s A B row hs hg hr => by
      obtain ⟨hc, ini, last, e1, e2, e3⟩ := hs
      exact ⟨hc, ini, last, e1, e2, e3.imp (fun h => ⟨h.1, cell_kept h.2 hg hr⟩) (fun h => ⟨h.1, cell_kept h.2 hg hr⟩)⟩) _) (ownFrom_below (Nat.le_refl _) (by simp; omega))
  case h0 => exact ⟨⟨(fun p hp => by cases hp), ((bB.alloc _).alloc _).cell, (bR.alloc _).cell, (bR.alloc _).frozen⟩, hB0⟩
  case assign =>
    intro l x W K hK
    gi_wp2
    exact hK
  case body =>
    rintro l pre x W ⟨⟨hs, hcb, hcr, hfr⟩, hB⟩ _
    obtain ⟨bb, off, rfl, hbb, hc⟩ := hb.at_ (i := x.1) (by have := x.2; omega)
    have hc2 := (hB.cell (p := ⟨bb, off + x.1, none⟩) hbb).trans hc
    have hxl : (x.1 : Int) < a.length := by have := x.2; omega
    clear hc
    rcases Nat.lt_trichotomy (dg a x.1) (dg b x.1) with h | h | h
    · have t1 : decide (dg a x.1 < dg b x.1) = true := by simpa using h
      have H := Lib.hid h
      have HS := Lib.hid hs
      clear hs h
      gi_wp2
      exact ⟨(KeepsOthers.setCell _ _ _).from _, ⟨rfl, pre, x, rfl, HS.out, .inl ⟨H.out, World.cell?_setCell_same' _ _ _ (by rw [hcr]; rfl)⟩⟩, hB.setCell (p := ⟨w.heap.size + 1, 0, none⟩) (by simp) _⟩
    · have t1 : decide (dg a x.1 < dg b x.1) = false := by simp; omega
      have t2 : decide (dg b x.1 < dg a x.1) = false := by simp; omega
      have H := Lib.hid h
      have HS := Lib.hid hs
      clear hs h
      gi_wp2
      exact ⟨KeepsFrom.refl _ _, ⟨Below.refl _ _, rfl⟩, ⟨fun p hp => (List.mem_append.1 hp).elim (HS.out p) (fun e => by rw [List.mem_singleton.1 e]; exact H.out), hcb, hcr, hfr⟩, hB⟩
    · have t1 : decide (dg a x.1 < dg b x.1) = false := by simp; omega
      have t2 : decide (dg b x.1 < dg a x.1) = true := by simpa using h
      have H := Lib.hid h
      have HS := Lib.hid hs
      clear hs h
      gi_wp2
      exact ⟨(KeepsOthers.setCell _ _ _).from _, ⟨rfl, pre, x, rfl, HS.out, .inr ⟨H.out, World.cell?_setCell_same' _ _ _ (by rw [hcr]; rfl)⟩⟩, hB.setCell (p := ⟨w.heap.size + 1, 0, none⟩) (by simp) _⟩
  case done =>
    rintro D ys W hD hys ⟨⟨hs, hcb, hcr, hfr⟩, hB⟩ hK
    have HV : Hid (cmpN (val a) (val b) = 0) := cmpN_eq (val_ext fun j => hs.top hys hab (Nat.le_refl _) j (by omega))
    clear hs hys
    gi_wp2
    have hK' := (KeepsOthers.setCell W ⟨w.heap.size + 1, 0, none⟩ (.int .i64 0)).same D _ hK rfl
    refine ⟨by simp, .inl ⟨_, _, rfl, run_takeDeferred hK', ?_⟩⟩
    have hc5 := cell_kept (World.cell?_setCell_same' W ⟨w.heap.size + 1, 0, none⟩ (.int .i64 0) (by rw [hcr]; rfl)) (grownBy_putObj' _ D (.deferred none)) (fun r e => by cases e; exact ⟨_, hK', rfl⟩)
    refine ⟨.int .i64 0, ?_, by rw [HV.out], (hB.setCell (p := ⟨w.heap.size + 1, 0, none⟩) (by simp) _).trans (belowK_b (w := w) (Nat.le_refl _) _ D _ _ (by simp at hD; omega) hK' rfl rfl)⟩
    simp [results, Tryz.f56, go_sem, hc5]
  case stop =>
    rintro D c pre W hD ⟨k, hk, hp⟩ ⟨⟨rfl, ini, last, e1, hs, e3⟩, hB⟩ hK
    rw [e1] at hp
    obtain ⟨k', rfl, hi, hl⟩ := back_pre hp
    have htop := hs.top hi hab (by omega)
    gi_wp2
    refine ⟨by simp, .inl ⟨_, _, rfl, run_takeDeferred hK, ?_⟩⟩
    rcases e3 with ⟨h1, h2⟩ | ⟨h1, h2⟩
    · have hc5 := cell_kept h2 (grownBy_putObj' _ D (.deferred none)) (fun r e => by cases e; exact ⟨_, hK, rfl⟩)
      refine ⟨.int .i64 (-1), ?_, by rw [cmpN_lt (val_lt_of_top (i := last.1) ha.dig (fun j hj => htop j (by omega)) h1)], hB.trans (belowK_b (w := w) (Nat.le_refl _) W D _ _ (by simp at hD; omega) hK rfl rfl)⟩
      simp [results, Tryz.f56, go_sem, hc5]
    · have hc5 := cell_kept h2 (grownBy_putObj' _ D (.deferred none)) (fun r e => by cases e; exact ⟨_, hK, rfl⟩)
      refine ⟨.int .i64 1, ?_, by rw [cmpN_gt (val_lt_of_top (i := last.1) hb.dig (fun j hj => (htop j (by omega)).symm) h1)], hB.trans (belowK_b (w := w) (Nat.le_refl _) W D _ _ (by simp at hD; omega) hK rfl rfl)⟩
      simp [results, Tryz.f56, go_sem, hc5]

/-- order of two trimmed numbers. -/
theorem order_any (A : Option Addr) (ca : Nat) (a : List Nat) (Bd : Option Addr) (cb : Nat) (b : List Nat) (w : World) {na nb : Nat} (hna : a.length = na) (hnb : b.length = nb) (ha : NR w A ca a) (hb : NR w Bd cb b) (ta : Trm a) (tb : Trm b) :
    Calls Tryz.prog 56 #[.slice A na ca, .slice Bd nb cb] w fun e w' => e = .returned (.int .i64 (cmpN (val a) (val b))) ∧ Below w.heap.size w w' := by
  by_cases h : na = nb
  · subst hna
    rw [← h]
    exact order_same A ca a Bd cb b w (by omega) ha hb
  · exact order_len A ca a Bd cb b w hna hnb ha hb ta tb h
end Go.Proofs.YtchnaimpmegbkaaGreatDoor

/- plus and the reference's Plus. -/
namespace Go.Proofs.YtchnaimpmegbkaaGreatDoor
open Go.RowKit
set_option linter.unusedVariables false

/-- The greater one, as max computes it. -/
theorem max_is (a b : Nat) : ∃ n : Nat, a ≤ n ∧ b ≤ n ∧ (n = a ∨ n = b) ∧ (if a < b then (b : Int) else (a : Int)) = (n : Int) := by
  by_cases h : a < b
  · exact ⟨b, by omega, by omega, by omega, by rw [if_pos h]⟩
  · exact ⟨a, by omega, by omega, by omega, by rw [if_neg h]⟩

set_option maxHeartbeats 1000000 in
set_option maxRecDepth 100000 in
theorem plus_any (A : Option Addr) (ca : Nat) (a : List Nat) (Bd : Option Addr) (cb : Nat) (b : List Nat) (w : World) {na nb : Nat} (hna : a.length = na) (hnb : b.length = nb) (ha : NR w A ca a) (hb : NR w Bd cb b) (la : na ≤ 1048576) (lb : nb ≤ 1048576) :
    Calls Tryz.prog 82 #[.slice A na ca, .slice Bd nb cb] w fun e w' => ∃ A' c', e = .returned (.slice A' (digs (val a + val b)).length c') ∧ NF w.heap.size w' A' c' (digs (val a + val b)) ∧ Below w.heap.size w w' := by
  obtain ⟨n, hn1, hn2, hn3, hmx⟩ := max_is na nb
  have ln : n ≤ 1048576 := by omega
  have Hn := Lib.hid hn3
  clear hn3
  have Ha := Lib.hid hna
  have Hb := Lib.hid hnb
  have Ra := Lib.hid ha
  have Rb := Lib.hid hb
  clear hna hnb ha hb
  go_enter Tryz.func82, Tryz.ntmps82
  go_wp2_with (at_make; refine wpList_make_nat _ rfl _ _ rfl (n + 1) rfl rfl (by omega) (by omega) (by omega) ?_; intro w1 hk1 hb1 hs1)
  have HK1 := Lib.hid hk1
  clear hk1
  go_loopw [7, 18] (fun vc vk wr => ∃ (k c : Nat) (l : List Nat), k ≤ n ∧ vk = .int .i64 k ∧ vc = .int .u64 c ∧ c ≤ 1 ∧ Hid (PlusI a b l k c) ∧ Hid (l.length = n + 1) ∧ Hid (BlkN wr w.heap.size l) ∧ Below w.heap.size w wr) (fun _ vk _ => n - (intOf vk).toNat)
  case atStart => exact ⟨0, 0, List.replicate (n + 1) 0, by omega, rfl, rfl, by omega, PlusI.start _ _ _ (Dig.replicate _), by simp [Hid], HK1.out, hb1⟩
  case round =>
    obtain ⟨k, c, l, hk, rfl, rfl, hc, HI, HL, HB, hbel⟩ := hrel
    by_cases hkn : k < n
    · have hcell := HB.out.cell (i := k) (by have := HL.out; omega)
      have hfr := HB.out.frozen k
      obtain ⟨s1, s2⟩ := HI.out.sum Ra.out.dig Rb.out.dig
      have s3 : (dg a k : Int) + (dg b k : Int) ≤ 8589934590 := by omega
      have s4 : (dg a k : Int) + (dg b k : Int) + c ≤ 8589934591 := by omega
      clear s1 s2
      have HS := Lib.hid (HI.out.step Ra.out.dig Rb.out.dig (by have := HL.out; omega))
      have HBS := Lib.hid (HB.out.set k (x := (dg a k + dg b k + c) % 4294967296) (by omega))
      go_wp2_with fail
      refine (digit_any _ _ a k _ Ha.out (Ra.out.below hbel) (by omega)).mono ?_
      rintro e w2 ⟨rfl, rfl⟩
      go_wp2_with fail
      refine (digit_any _ _ b k _ Hb.out (Rb.out.below hbel) (by omega)).mono ?_
      rintro e w2 ⟨rfl, rfl⟩
      go_wp2_with fail
      refine (halves_any (dg a k + dg b k + c) _ (by omega) (by omega)).mono ?_
      rintro e w2 ⟨rfl, rfl⟩
      go_wp2_with fail
      go_roundw
      case rel => exact ⟨k + 1, _, _, by omega, by go_num, rfl, HS.out.2.1, HS.out, by have := HL.out; simp [Hid, this], HBS.out, hbel.setCell (Nat.le_refl _) _⟩
      case measure => simp [intOf]; omega
    · obtain rfl : k = n := by omega
      have hcell := HB.out.cell (i := k) (by have := HL.out; omega)
      have hfr := HB.out.frozen k
      have HF := Lib.hid (HI.out.fin (n := k) (by have := Ha.out; omega) (by have := Hb.out; omega) HL.out)
      have HBS := Lib.hid (HB.out.set k (x := c) (by omega))
      go_wp2_with fail
      have hnf := HBS.out.nf (B := w.heap.size) (c := k + 1) (Nat.le_refl _) (by have := HL.out; simp [this]) (by omega) (by have := HL.out; simp [this]; omega)
      refine (trim_any _ _ (l.set k c) _ (by have := HL.out; simp [this]) hnf.1).mono ?_
      rintro e w2 ⟨rfl, rfl⟩
      go_wp2_with fail
      go_ret
      rw [HF.out.1]
      exact ⟨_, _, rfl, by have := hnf.trim; rwa [HF.out.1] at this, hbel.setCell (Nat.le_refl _) _⟩

set_option maxHeartbeats 1000000 in
set_option maxRecDepth 100000 in
theorem refPlus_any (A : Option Addr) (ca : Nat) (a : List Nat) (Bd : Option Addr) (cb : Nat) (b : List Nat) (w : World) {na nb : Nat} (hna : a.length = na) (hnb : b.length = nb) (ha : NR w A ca a) (hb : NR w Bd cb b) (la : na ≤ 1048576) (lb : nb ≤ 1048576) :
    Calls Tryz.prog 133 #[.slice A na ca, .slice Bd nb cb] w fun e w' => ∃ A' c', e = .returned (.slice A' (digs (val a + val b)).length c') ∧ NF w.heap.size w' A' c' (digs (val a + val b)) ∧ Below w.heap.size w w' := by
  obtain ⟨n, hn1, hn2, hn3, hmx⟩ := max_is na nb
  have ln : n ≤ 1048576 := by omega
  have Hn := Lib.hid hn3
  have Ha := Lib.hid hna
  have Hb := Lib.hid hnb
  have Ra := Lib.hid ha
  have Rb := Lib.hid hb
  clear hna hnb ha hb hn3
  go_enter Tryz.func133, Tryz.ntmps133
  go_wp2_with fail
  go_loopw [5, 6, 7] (fun vo vc vk wr => ∃ (k c : Nat) (X : Option Addr) (d : Nat) (l : List Nat), k ≤ n + 1 ∧ vk = .int .i64 k ∧ vc = .int .u64 c ∧ vo = .slice X k d ∧ c ≤ 1 ∧ Hid (PlusI a b l k c) ∧ Hid (l.length = k) ∧ Hid (ON w.heap.size wr X d l) ∧ Below w.heap.size w wr) (fun _ _ vk _ => n + 1 - (intOf vk).toNat)
  case atStart => exact ⟨0, 0, none, 0, [], by omega, rfl, rfl, rfl, by omega, PlusI.start _ _ _ Dig.nil, rfl, ON.nil _ _, Below.refl _ _⟩
  case round =>
    obtain ⟨k, c, X, d, l, hk, rfl, rfl, rfl, hc, HI, HL, HB, hbel⟩ := hrel
    have hsz := hbel.size
    by_cases hkn : k ≤ n
    · obtain ⟨s1, s2⟩ := HI.out.sum Ra.out.dig Rb.out.dig
      have s3 : (dg a k : Int) + (dg b k : Int) ≤ 8589934590 := by omega
      have s4 : (dg a k : Int) + (dg b k : Int) + c ≤ 8589934591 := by omega
      clear s1 s2
      have HS := Lib.hid (HI.out.snoc Ra.out.dig Rb.out.dig HL.out)
      have hm : decide ((k : Int) ≤ n) = true := by simp; omega
      go_wp2_with fail
      refine (refAt_any _ _ a k _ Ha.out (Ra.out.below hbel) (by omega)).mono ?_
      rintro e w2 ⟨rfl, rfl⟩
      go_wp2_with fail
      refine (refAt_any _ _ b k _ Hb.out (Rb.out.below hbel) (by omega)).mono ?_
      rintro e w2 ⟨rfl, rfl⟩
      generalize hx : dg a k + dg b k + c = x at *
      have hxi : (dg a k : Int) + (dg b k : Int) + c = x := by omega
      have hx2 : (x : Int) ≤ 8589934591 := by omega
      have e1 : Hid (((x % 4294967296 : Nat) : Int) = (x : Int) % 4294967296) := by unfold Hid; omega
      have HX := Lib.hid hx
      clear hx
      go_wp2_with (at_builtin; go_loud (refine wpList_append_nat _ rfl (.tmp 27) (.tmp 31) rfl w.heap.size X k d l HL.out rfl (HB.out.below ((Below.refl _ _).alloc (Nat.le_refl _) _)) (some ⟨_, 0, none⟩) 1 1 [x % 4294967296] rfl rfl (by have := Src.one wr (Value.int .u32 ((x % 4294967296 : Nat) : Int)) 120; rw [e1.out] at this; simp only [cellsN, List.map_cons, List.map_nil]; rw [e1.out]; exact this) (Dig.one (by omega)) (by omega) (by simp <;> omega) ?_); intro A' c' w' hon hbel2 hg; clear hg)
      go_roundw
      case rel =>
        exact ⟨k + 1, x / 4294967296, A', c', l ++ [x % 4294967296], by omega, by go_num, int_cong (by omega), rfl, HS.out.2.1, HS.out, by have := HL.out; simp [Hid, this], hon, (hbel.alloc hbel.size _).trans (hbel2.mono (by simp <;> omega))⟩
      case measure => simp [intOf]; omega
    · obtain rfl : k = n + 1 := by omega
      have hm : decide (((n + 1 : Nat) : Int) ≤ n) = false := by simp; omega
      have HV := Lib.hid (HI.out.all Ra.out.dig Rb.out.dig (by have := Ha.out; omega) (by have := Hb.out; omega) HL.out)
      go_wp2_with fail
      refine (refTrim_any _ _ l _ HL.out HB.out.nf.1).mono ?_
      rintro e w2 ⟨A', c', rfl, hnf, hb2⟩
      rw [HV.out] at hnf ⊢
      go_wp2_with fail
      go_ret
      exact ⟨A', c', rfl, hnf.mono hsz, hbel.trans (hb2.mono hsz)⟩
end Go.Proofs.YtchnaimpmegbkaaGreatDoor

/- The reference's Order and Minus; minus. -/
namespace Go.Proofs.YtchnaimpmegbkaaGreatDoor
open Go.RowKit
set_option linter.unusedVariables false

set_option maxHeartbeats 1000000 in
theorem refOrder_any (A : Option Addr) (ca : Nat) (a : List Nat) (Bd : Option Addr) (cb : Nat) (b : List Nat) (w : World) {na nb : Nat} (hna : a.length = na) (hnb : b.length = nb) (ha : NR w A ca a) (hb : NR w Bd cb b) :
    Calls Tryz.prog 93 #[.slice A na ca, .slice Bd nb cb] w fun e w' => e = .returned (.int .i64 (cmpN (val a) (val b))) ∧ w = w' := by
  obtain ⟨n, hn1, hn2, hn3, hmx⟩ := max_is na nb
  have la : na ≤ 35184372088832 := by have := ha.len; omega
  have lb : nb ≤ 35184372088832 := by have := hb.len; omega
  have ln : n ≤ 35184372088832 := by omega
  have Hn := Lib.hid hn3
  have Ha := Lib.hid hna
  have Hb := Lib.hid hnb
  have Ra := Lib.hid ha
  have Rb := Lib.hid hb
  clear hna hnb ha hb hn3
  go_enter Tryz.func93, Tryz.ntmps93
  go_wp2_with fail
  go_loop [5] (fun vi => ∃ k : Nat, k ≤ n ∧ vi = .int .i64 ((k : Int) - 1) ∧ Hid (∀ j, k ≤ j → dg a j = dg b j)) (fun vi => (intOf vi + 1).toNat)
  case atStart => exact ⟨n, Nat.le_refl _, rfl, fun j hj => by have := Ha.out; have := Hb.out; rw [dg_out (by omega), dg_out (by omega)]⟩
  case round =>
    obtain ⟨k, hk, rfl, H⟩ := hrel
    by_cases h0 : 0 < k
    · obtain ⟨i, rfl⟩ : ∃ i, k = i + 1 := ⟨k - 1, by omega⟩
      have e1 : ((i + 1 : Nat) : Int) - 1 = i := by omega
      rw [e1]
      rcases Nat.lt_trichotomy (dg a i) (dg b i) with h | h | h
      · have t1 : decide (dg a i < dg b i) = true := by simpa using h
        have HV := Lib.hid (cmpN_lt (val_lt_of_top (i := i) Ra.out.dig (fun j hj => H.out j (by omega)) h))
        clear h
        go_wp2_with fail
        refine (refAt_any _ _ a i _ Ha.out Ra.out (by omega)).mono ?_
        rintro e w2 ⟨rfl, rfl⟩
        go_wp2_with fail
        refine (refAt_any _ _ b i _ Hb.out Rb.out (by omega)).mono ?_
        rintro e w2 ⟨rfl, rfl⟩
        go_wp2_with fail
        go_ret
        exact ⟨ret_int HV.out.symm, rfl⟩
      · have t1 : decide (dg a i < dg b i) = false := by simp; omega
        have t2 : decide (dg b i < dg a i) = false := by simp; omega
        have H2 : Hid (∀ j, i ≤ j → dg a j = dg b j) := fun j hj => by
          by_cases e : j = i
          · rw [e]; exact h
          · exact H.out j (by omega)
        clear h
        go_wp2_with fail
        refine (refAt_any _ _ a i _ Ha.out Ra.out (by omega)).mono ?_
        rintro e w2 ⟨rfl, rfl⟩
        go_wp2_with fail
        refine (refAt_any _ _ b i _ Hb.out Rb.out (by omega)).mono ?_
        rintro e w2 ⟨rfl, rfl⟩
        go_wp2_with fail
        refine (refAt_any _ _ a i _ Ha.out Ra.out (by omega)).mono ?_
        rintro e w2 ⟨rfl, rfl⟩
        go_wp2_with fail
        refine (refAt_any _ _ b i _ Hb.out Rb.out (by omega)).mono ?_
        rintro e w2 ⟨rfl, rfl⟩
        go_wp2_with fail
        go_round
        case rel => exact ⟨i, by omega, rfl, H2⟩
        case measure => simp [intOf]
      · have t1 : decide (dg a i < dg b i) = false := by simp; omega
        have t2 : decide (dg b i < dg a i) = true := by simpa using h
        have HV := Lib.hid (cmpN_gt (val_lt_of_top (i := i) Rb.out.dig (fun j hj => (H.out j (by omega)).symm) h))
        clear h
        go_wp2_with fail
        refine (refAt_any _ _ a i _ Ha.out Ra.out (by omega)).mono ?_
        rintro e w2 ⟨rfl, rfl⟩
        go_wp2_with fail
        refine (refAt_any _ _ b i _ Hb.out Rb.out (by omega)).mono ?_
        rintro e w2 ⟨rfl, rfl⟩
        go_wp2_with fail
        refine (refAt_any _ _ a i _ Ha.out Ra.out (by omega)).mono ?_
        rintro e w2 ⟨rfl, rfl⟩
        go_wp2_with fail
        refine (refAt_any _ _ b i _ Hb.out Rb.out (by omega)).mono ?_
        rintro e w2 ⟨rfl, rfl⟩
        go_wp2_with fail
        go_ret
        exact ⟨ret_int HV.out.symm, rfl⟩
    · have HV : Hid (cmpN (val a) (val b) = 0) := cmpN_eq (val_ext fun j => H.out j (by omega))
      go_wp2_with fail
      go_ret
      exact ⟨ret_int HV.out.symm, rfl⟩

set_option maxHeartbeats 1000000 in
set_option maxRecDepth 100000 in
theorem refMinus_any (A : Option Addr) (ca : Nat) (a : List Nat) (Bd : Option Addr) (cb : Nat) (b : List Nat) (w : World) {na nb : Nat} (hna : a.length = na) (hnb : b.length = nb) (ha : NR w A ca a) (hb : NR w Bd cb b) (tb : Trm b) (hle : val b ≤ val a) :
    Calls Tryz.prog 135 #[.slice A na ca, .slice Bd nb cb] w fun e w' => ∃ A' c', e = .returned (.slice A' (digs (val a - val b)).length c') ∧ NF w.heap.size w' A' c' (digs (val a - val b)) ∧ Below w.heap.size w w' := by
  have la : na ≤ 35184372088832 := by have := ha.len; omega
  have lb : nb ≤ 35184372088832 := by have := hb.len; omega
  have Ha := Lib.hid hna
  have Hb := Lib.hid hnb
  have Ra := Lib.hid ha
  have Rb := Lib.hid hb
  have Hle := Lib.hid hle
  clear hna hnb ha hb hle
  go_enter Tryz.func135, Tryz.ntmps135
  go_wp2_with fail
  go_loopw [5, 6, 7] (fun vo vc vk wr => ∃ (k c : Nat) (X : Option Addr) (d : Nat) (l : List Nat), k ≤ na ∧ vk = .int .i64 k ∧ vc = .int .u64 c ∧ vo = .slice X k d ∧ c ≤ 1 ∧ Hid (MinusI a b l k c) ∧ Hid (l.length = k) ∧ Hid (ON w.heap.size wr X d l) ∧ Below w.heap.size w wr) (fun _ _ vk _ => na - (intOf vk).toNat)
  case atStart => exact ⟨0, 0, none, 0, [], by omega, rfl, rfl, rfl, by omega, MinusI.start _ _ _ Dig.nil, rfl, ON.nil _ _, Below.refl _ _⟩
  case round =>
    obtain ⟨k, c, X, d, l, hk, rfl, rfl, rfl, hc, HI, HL, HB, hbel⟩ := hrel
    have hsz := hbel.size
    by_cases hkn : k < na
    · have s1 : (dg a k : Int) ≤ 4294967295 := by have := dg_lt Ra.out.dig k; omega
      have s2 : (dg b k : Int) ≤ 4294967295 := by have := dg_lt Rb.out.dig k; omega
      go_wp2_with fail
      refine (refAt_any _ _ a k _ Ha.out (Ra.out.below hbel) (by omega)).mono ?_
      rintro e w2 ⟨rfl, rfl⟩
      go_wp2_with fail
      refine (refAt_any _ _ b k _ Hb.out (Rb.out.below hbel) (by omega)).mono ?_
      rintro e w2 ⟨rfl, rfl⟩
      obtain ⟨x, hx⟩ : ∃ x : Nat, (4294967296 : Int) + dg a k - dg b k - c = x := ⟨4294967296 + dg a k - dg b k - c, by omega⟩
      have hx2 : (x : Int) ≤ 8589934591 := by omega
      have HX := Lib.hid hx
      have HS := Lib.hid (HI.out.snoc HL.out (d := x % 4294967296) (c' := 1 - x / 4294967296) (by omega) (by omega) (by omega))
      have e1 : Hid (((x % 4294967296 : Nat) : Int) = (x : Int) % 4294967296) := by unfold Hid; omega
      have e2 : Hid ((1 : Int) - (x : Int) / 4294967296 = ((1 - x / 4294967296 : Nat) : Int)) := by unfold Hid; omega
      have e3 : 0 ≤ (1 : Int) - (x : Int) / 4294967296 := by omega
      go_wp2_with (at_builtin; go_loud (refine wpList_append_nat _ rfl (.tmp 25) (.tmp 29) rfl w.heap.size X k d l HL.out rfl (HB.out.below ((Below.refl _ _).alloc (Nat.le_refl _) _)) (some ⟨_, 0, none⟩) 1 1 [x % 4294967296] rfl rfl (by have := Src.one wr (Value.int .u32 ((x % 4294967296 : Nat) : Int)) 120; rw [e1.out] at this; simp only [cellsN, List.map_cons, List.map_nil]; rw [e1.out]; exact this) (Dig.one (by omega)) (by omega) (by simp <;> omega) ?_); intro A' c' w' hon hbel2 hg; clear hg)
      go_roundw
      case rel =>
        exact ⟨k + 1, 1 - x / 4294967296, A', c', l ++ [x % 4294967296], by omega, by go_num, int_cong e2.out, rfl, HS.out.2.1, HS.out, by have := HL.out; simp [Hid, this], hon, (hbel.alloc hbel.size _).trans (hbel2.mono (by simp <;> omega))⟩
      case measure => simp [intOf]; omega
    · obtain rfl : k = na := by omega
      have HF := Lib.hid (MinusI.fin (a := a) (b := b) (l := l) (c := c) Ra.out.dig tb (by have := HI.out; rw [Ha.out]; exact this) (by have := HL.out; have := Ha.out; omega) Hle.out)
      go_wp2_with fail
      refine (refTrim_any _ _ l _ HL.out HB.out.nf.1).mono ?_
      rintro e w2 ⟨A', c', rfl, hnf, hb2⟩
      rw [HF.out.1] at hnf ⊢
      go_wp2_with fail
      go_ret
      exact ⟨A', c', rfl, hnf.mono hsz, hbel.trans (hb2.mono hsz)⟩
end Go.Proofs.YtchnaimpmegbkaaGreatDoor

/- Long division by digits: plain laws. No program in sight. -/
namespace Go.Proofs.YtchnaimpmegbkaaGreatDoor
open Go.RowKit
set_option linter.unusedVariables false

/-! ### A part of some digits -/
/-- The m digits from index j on. -/
def seg (l : List Nat) (j m : Nat) : List Nat := (l.drop j).take m
theorem seg_zero (l : List Nat) (j : Nat) : val (seg l j 0) = 0 := by simp [seg, val]
theorem seg_succ (l : List Nat) (j m : Nat) : val (seg l j (m + 1)) = val (seg l j m) + 4294967296 ^ m * dg l (j + m) := by
  unfold seg; rw [val_take_succ, dg_drop]
theorem seg_lt {l : List Nat} (h : Dig l) (j m : Nat) : val (seg l j m) < 4294967296 ^ m := val_take_lt (h.drop j) m
theorem seg_ext {a b : List Nat} {j m : Nat} (h : ∀ i, i < m → dg a (j + i) = dg b (j + i)) : val (seg a j m) = val (seg b j m) := by
  induction m with
  | zero => rw [seg_zero, seg_zero]
  | succ m ih => rw [seg_succ, seg_succ, ih (fun i hi => h i (by omega)), h m (by omega)]
theorem val_drop_seg {l : List Nat} {j m : Nat} (h : ∀ i, j + m ≤ i → dg l i = 0) : val (l.drop j) = val (seg l j m) := by
  rw [val_cut (l.drop j) m, List.drop_drop, val_zero_of (l := l.drop (j + m)) (fun i => by rw [dg_drop]; exact h _ (by omega))]
  simp [seg]
theorem val_drop_succ (l : List Nat) (j : Nat) : val (l.drop j) = dg l j + 4294967296 * val (l.drop (j + 1)) := by
  rw [val_cut (l.drop j) 1, List.drop_drop, val_take_succ, dg_drop]
  simp [val]
theorem val_eq_take_drop (l : List Nat) (j : Nat) : val l = val (l.take j) + 4294967296 ^ j * val (l.drop j) := val_cut l j
theorem take_ext {a b : List Nat} {m : Nat} (h : ∀ i, i < m → dg a i = dg b i) : val (a.take m) = val (b.take m) := by
  induction m with
  | zero => simp
  | succ m ih => rw [val_take_succ, val_take_succ, ih (fun i hi => h i (by omega)), h m (by omega)]
theorem dg_zero_of_drop_lt {l : List Nat} {j n : Nat} (h : val (l.drop j) < 4294967296 ^ n) : ∀ i, j + n ≤ i → dg l i = 0 := by
  intro i hi
  rcases Nat.eq_zero_or_pos (dg l i) with h0 | h0
  · exact h0
  · exfalso
    have e : val (l.drop j) = val ((l.drop j).take (i - j)) + 4294967296 ^ (i - j) * val (l.drop i) := by
      have := val_cut (l.drop j) (i - j)
      rw [List.drop_drop, show j + (i - j) = i from by omega] at this
      exact this
    have e2 := val_drop_succ l i
    have h1 : 4294967296 ^ (i - j) * 1 ≤ 4294967296 ^ (i - j) * val (l.drop i) := Nat.mul_le_mul_left _ (by omega)
    have h2 : 4294967296 ^ n ≤ 4294967296 ^ (i - j) := Nat.pow_le_pow_right (by omega) (by omega)
    omega

/-! ### subtract and giveBack -/
/-- i digits of the part at j are done: c is carried, b borrowed. -/
def SubI (u v l : List Nat) (j x i c b : Nat) : Prop :=
  Dig l ∧ l.length = u.length ∧ c < 4294967296 ∧ b ≤ 1 ∧ (v.length < i → c = 0) ∧ (∀ p, p < j ∨ j + i ≤ p → dg l p = dg u p) ∧
    val (seg l j i) + x * val (v.take i) = val (seg u j i) + 4294967296 ^ i * (c + b)
theorem SubI.start {u v : List Nat} (hu : Dig u) (j x : Nat) : SubI u v u j x 0 0 0 := ⟨hu, rfl, by omega, by omega, fun h => rfl, fun p _ => rfl, by simp [seg_zero, val]⟩
theorem SubI.bound {u v l : List Nat} {j x i c b : Nat} (h : SubI u v l j x i c b) (hv : Dig v) (hx : x < 4294967296) : x * dg v i + c ≤ 18446744073709551615 ∧ x * dg v i ≤ 18446744065119617025 := by
  have h1 := dg_lt hv i
  have h2 : x * dg v i ≤ 4294967295 * 4294967295 := Nat.mul_le_mul (by omega) (by omega)
  have := h.2.2.1
  omega
theorem SubI.step {u v l : List Nat} {j x i c b d b' : Nat} (h : SubI u v l j x i c b) (hv : Dig v) (hx : x < 4294967296) (hi : j + i < u.length) (hd : d < 4294967296) (hb' : b' ≤ 1)
    (he : d + (x * dg v i + c) % 4294967296 + b = dg u (j + i) + 4294967296 * b') : SubI u v (l.set (j + i) d) j x (i + 1) ((x * dg v i + c) / 4294967296) b' := by
  obtain ⟨hl, hlen, hc, hb, hz, hs, hval⟩ := h
  have hbd := SubI.bound ⟨hl, hlen, hc, hb, hz, hs, hval⟩ hv hx
  refine ⟨hl.set _ hd, by simpa using hlen, by omega, hb', fun hlt => ?_, fun p hp => ?_, ?_⟩
  · rw [dg_out (l := v) (i := i) (by omega)]; omega
  · rw [dg_set_other (by omega)]; exact hs p (by omega)
  · have e1 : val (seg (l.set (j + i) d) j i) = val (seg l j i) := seg_ext fun p hp => dg_set_other (by omega)
    rw [seg_succ, seg_succ, e1, dg_set_same (by omega), val_take_succ]
    generalize dg v i = dv at *
    generalize dg u (j + i) = du at *
    generalize hq : x * dv + c = q at *
    have e2 : q = q % 4294967296 + 4294967296 * (q / 4294967296) := by omega
    rw [Nat.pow_succ]
    generalize 4294967296 ^ i = P at *
    generalize val (seg l j i) = s1 at *
    generalize val (seg u j i) = s2 at *
    generalize val (v.take i) = s3 at *
    have e3 : x * (s3 + P * dv) = x * s3 + P * (x * dv) := by rw [Nat.mul_add, Nat.mul_left_comm]
    rw [e3]
    have e4 : P * d + P * (x * dv) + P * (c + b) = P * du + P * 4294967296 * (q / 4294967296 + b') := by
      rw [Nat.mul_assoc, ← Nat.mul_add, ← Nat.mul_add, ← Nat.mul_add]
      congr 1
      omega
    omega
theorem SubI.fin {u v l : List Nat} {j x m c b : Nat} (h : SubI u v l j x m c b) (hv : Dig v) (hm : v.length < m) : val (seg l j m) + x * val v = val (seg u j m) + 4294967296 ^ m * b := by
  obtain ⟨hl, hlen, hc, hb, hz, hs, hval⟩ := h
  have h0 := hz hm
  subst h0
  rw [List.take_of_length_le (by omega), Nat.zero_add] at hval
  exact hval

/-- i digits of the part at j are given back: c is carried. -/
def GiveI (u v l : List Nat) (j i c : Nat) : Prop :=
  Dig l ∧ l.length = u.length ∧ c ≤ 1 ∧ (∀ p, p < j ∨ j + i ≤ p → dg l p = dg u p) ∧ val (seg l j i) + 4294967296 ^ i * c = val (seg u j i) + val (v.take i)
theorem GiveI.start {u v : List Nat} (hu : Dig u) (j : Nat) : GiveI u v u j 0 0 := ⟨hu, rfl, by omega, fun p _ => rfl, by simp [seg_zero, val]⟩
theorem GiveI.step {u v l : List Nat} {j i c : Nat} (h : GiveI u v l j i c) (hu : Dig u) (hv : Dig v) (hi : j + i < u.length) :
    GiveI u v (l.set (j + i) ((dg u (j + i) + dg v i + c) % 4294967296)) j (i + 1) ((dg u (j + i) + dg v i + c) / 4294967296) := by
  obtain ⟨hl, hlen, hc, hs, hval⟩ := h
  have h1 := dg_lt hu (j + i)
  have h2 := dg_lt hv i
  refine ⟨hl.set _ (by omega), by simpa using hlen, by omega, fun p hp => ?_, ?_⟩
  · rw [dg_set_other (by omega)]; exact hs p (by omega)
  · have e1 : val (seg (l.set (j + i) ((dg u (j + i) + dg v i + c) % 4294967296)) j i) = val (seg l j i) := seg_ext fun p hp => dg_set_other (by omega)
    rw [seg_succ, seg_succ, e1, dg_set_same (by omega), val_take_succ]
    generalize dg v i = dv at *
    generalize dg u (j + i) = du at *
    generalize hq : du + dv + c = q at *
    rw [Nat.pow_succ]
    generalize 4294967296 ^ i = P at *
    have e4 : P * (q % 4294967296) + P * 4294967296 * (q / 4294967296) = P * du + P * dv + P * c := by
      rw [Nat.mul_assoc, ← Nat.mul_add, ← Nat.mul_add, ← Nat.mul_add]
      congr 1
      omega
    omega
theorem GiveI.fin {u v l : List Nat} {j m c : Nat} (h : GiveI u v l j m c) (hm : v.length ≤ m) : val (seg l j m) + 4294967296 ^ m * c = val (seg u j m) + val v := by
  have := h.2.2.2.2
  rwa [List.take_of_length_le hm] at this

/-! ### shifted and unshifted -/
theorem pow_split {s : Nat} (h : s ≤ 31) : ∃ t, 2 ^ s * 2 ^ t = 4294967296 ∧ 2 ^ s ≤ 2147483648 ∧ 2 ≤ 2 ^ t ∧ 1 ≤ 2 ^ s := by
  refine ⟨32 - s, ?_, ?_, ?_, ?_⟩
  · rw [← Nat.pow_add, show s + (32 - s) = 32 from by omega]
  · exact Nat.le_trans (Nat.pow_le_pow_right (by omega) h) (by decide)
  · exact Nat.le_trans (by decide : 2 ≤ 2 ^ 1) (Nat.pow_le_pow_right (by omega) (by omega))
  · exact Nat.one_le_two_pow
/-- The digits of a times 2^s, the first i of them done. -/
def ShI (a l : List Nat) (s i : Nat) : Prop := Dig l ∧ l.length = a.length + 1 ∧ dg l i < 2 ^ s ∧ (∀ p, i < p → dg l p = 0) ∧ val (l.take (i + 1)) = val (a.take i) * 2 ^ s
theorem ShI.start (a : List Nat) (s : Nat) : ShI a (List.replicate (a.length + 1) 0) s 0 := by
  refine ⟨Dig.replicate _, by simp, by rw [dg_replicate]; exact Nat.two_pow_pos s, fun p _ => dg_replicate _ _, ?_⟩
  rw [val_take_succ, dg_replicate]; simp [val]
/-- What 'or' makes: a sum. -/
theorem or_low {s x d : Nat} (hs : s ≤ 31) (hd : d < 2 ^ s) : d ||| (x * 2 ^ s) % 4294967296 = d + (x * 2 ^ s) % 4294967296 := by
  obtain ⟨t, ht, _⟩ := pow_split hs
  have e : (x * 2 ^ s) % 4294967296 = 2 ^ s * (x % 2 ^ t) := by rw [Nat.mul_comm x, ← ht, Nat.mul_mod_mul_left]
  rw [e, Nat.or_comm, ← Nat.two_pow_add_eq_or_of_lt hd, Nat.add_comm]
theorem or_low_lt {s x d : Nat} (hs : s ≤ 31) (hd : d < 2 ^ s) : d + (x * 2 ^ s) % 4294967296 < 4294967296 := by
  obtain ⟨t, ht, _⟩ := pow_split hs
  have e : (x * 2 ^ s) % 4294967296 = 2 ^ s * (x % 2 ^ t) := by rw [Nat.mul_comm x, ← ht, Nat.mul_mod_mul_left]
  rw [e]
  have h1 : x % 2 ^ t < 2 ^ t := Nat.mod_lt _ (Nat.two_pow_pos t)
  have h2 : 2 ^ s * (x % 2 ^ t + 1) ≤ 2 ^ s * 2 ^ t := Nat.mul_le_mul_left _ h1
  rw [ht, Nat.mul_add] at h2
  omega
theorem ShI.step {a l : List Nat} {s i : Nat} (h : ShI a l s i) (ha : Dig a) (hs : s ≤ 31) (hi : i < a.length) :
    ShI a ((l.set i (dg l i + (dg a i * 2 ^ s) % 4294967296)).set (i + 1) (dg a i * 2 ^ s / 4294967296)) s (i + 1) := by
  obtain ⟨hl, hlen, hd, hz, hval⟩ := h
  obtain ⟨t, ht, hp1, hp2, hp3⟩ := pow_split hs
  have hda := dg_lt ha i
  have hov : dg a i * 2 ^ s / 4294967296 < 2 ^ s := by
    rw [Nat.div_lt_iff_lt_mul (by omega), Nat.mul_comm]
    exact Nat.mul_lt_mul_of_pos_left hda (by omega)
  refine ⟨(hl.set _ (or_low_lt hs hd)).set _ (by omega), by simpa using hlen, ?_, fun p hp => ?_, ?_⟩
  · rw [dg_set_same (by simp; omega)]; exact hov
  · rw [dg_set_other (by omega), dg_set_other (by omega)]; exact hz p (by omega)
  · rw [val_take_succ, dg_set_same (by simp; omega), val_take_succ, dg_set_other (by omega), dg_set_same (by omega)]
    have e1 : val (((l.set i (dg l i + dg a i * 2 ^ s % 4294967296)).set (i + 1) (dg a i * 2 ^ s / 4294967296)).take i) = val (l.take i) :=
      take_ext fun p hp => by rw [dg_set_other (by omega), dg_set_other (by omega)]
    rw [e1, val_take_succ, Nat.add_mul, ← hval, val_take_succ]
    generalize dg l i = d at *
    generalize dg a i = x at *
    rw [Nat.mul_assoc]
    generalize x * 2 ^ s = y at *
    rw [Nat.pow_succ]
    generalize 4294967296 ^ i = P at *
    have e2 : P * (y % 4294967296) + P * 4294967296 * (y / 4294967296) = P * y := by
      rw [Nat.mul_assoc, ← Nat.mul_add]
      congr 1
      omega
    rw [Nat.mul_add]
    omega
theorem ShI.fin {a l : List Nat} {s : Nat} (h : ShI a l s a.length) : val l = val a * 2 ^ s := by
  have := h.2.2.2.2
  rwa [List.take_of_length_le (by have := h.2.1; omega), List.take_of_length_le (Nat.le_refl _)] at this

/-- The digits of u over 2^s, the first i of them done. -/
def UnI (u l : List Nat) (s i : Nat) : Prop := Dig l ∧ l.length = u.length ∧ val (l.take i) = (val u / 2 ^ s) % 4294967296 ^ i
theorem UnI.start (u : List Nat) (s : Nat) : UnI u (List.replicate u.length 0) s 0 := ⟨Dig.replicate _, by simp, by simp [val]; omega⟩
theorem val_div_pow {u : List Nat} (hu : Dig u) (i : Nat) : val u / 4294967296 ^ i = val (u.drop i) := by
  rw [val_cut u i, Nat.add_mul_div_left _ _ (Nat.pow_pos (by omega)), Nat.div_eq_of_lt (val_take_lt hu i)]; omega
theorem un_digit {u : List Nat} {s i : Nat} (hs : s ≤ 31) (hu : Dig u) : (val u / 2 ^ s) / 4294967296 ^ i % 4294967296 = ((dg u (i + 1) * 4294967296 + dg u i) / 2 ^ s) % 4294967296 := by
  obtain ⟨t, ht, hp1, hp2, hp3⟩ := pow_split hs
  rw [Nat.div_div_eq_div_mul, Nat.mul_comm (2 ^ s), ← Nat.div_div_eq_div_mul, val_div_pow hu, val_drop_succ, val_drop_succ]
  generalize val (u.drop (i + 1 + 1)) = R
  generalize dg u i = d0
  generalize dg u (i + 1) = d1
  have e : d0 + 4294967296 * (d1 + 4294967296 * R) = (d1 * 4294967296 + d0) + 2 ^ s * (4294967296 * (2 ^ t * R)) := by
    rw [Nat.mul_left_comm (2 ^ s), ← Nat.mul_assoc (2 ^ s), ht]; omega
  rw [e, Nat.add_mul_div_left _ _ (by omega)]
  omega
theorem UnI.step {u l : List Nat} {s i : Nat} (h : UnI u l s i) (hs : s ≤ 31) (hu : Dig u) (hi : i < u.length) : UnI u (l.set i (((dg u (i + 1) * 4294967296 + dg u i) / 2 ^ s) % 4294967296)) s (i + 1) := by
  obtain ⟨hl, hlen, hval⟩ := h
  refine ⟨hl.set _ (by omega), by simpa using hlen, ?_⟩
  rw [val_set (by omega), hval, Nat.pow_succ, Nat.mod_mul, un_digit hs hu]
theorem UnI.fin {u l : List Nat} {s : Nat} (h : UnI u l s u.length) (hu : Dig u) : val l = val u / 2 ^ s := by
  have := h.2.2
  rw [List.take_of_length_le (by have := h.2.1; omega)] at this
  rw [this, Nat.mod_eq_of_lt]
  exact Nat.lt_of_le_of_lt (Nat.div_le_self _ _) (val_lt hu)
end Go.Proofs.YtchnaimpmegbkaaGreatDoor
