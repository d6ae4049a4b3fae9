/-
  Lemmas and contracts, joined.
-/
import Derived.Test.YtenpkmgbaajeeaaGreatCt1
import Derived.Test.YtenpkmgbaajeeaaGreatCn4
import Derived.Test.YtenpkmgbaajeeaaGreatCw1
set_option linter.unusedSimpArgs false
set_option linter.unusedVariables false
set_option linter.unnecessarySimpa false
/- Codes of steps in plain words: thresholds, the arrangement, words, weights, names, completeness. -/
namespace Go.Proofs.YtenpkmgbaajeeaaGreat
set_option linter.unusedVariables false

/-- How many of the first numbers in a row have a property, up to n of them. -/
def lead (P : Nat → Bool) : Nat → Nat
  | 0 => 0
  | n + 1 => if lead P n = n ∧ P n = true then n + 1 else lead P n
theorem lead_le (P : Nat → Bool) : ∀ n, lead P n ≤ n
  | 0 => Nat.le_refl _
  | n + 1 => by
    have := lead_le P n
    unfold lead
    split <;> omega
theorem lead_go {P : Nat → Bool} {x : Nat} (h : lead P x = x) (hp : P x = true) : lead P (x + 1) = x + 1 := by rw [lead, if_pos ⟨h, hp⟩]
theorem lead_stop {P : Nat → Bool} {x : Nat} (h : lead P x = x) (hp : P x = false) : ∀ {n : Nat}, x < n → lead P n = x
  | 0, hx => by omega
  | n + 1, hx => by
    rw [lead]
    rcases Nat.lt_or_ge x n with h1 | h1
    · have := lead_stop h hp h1
      rw [this, if_neg (by omega)]
    · obtain rfl : x = n := by omega
      rw [if_neg (by rw [hp]; simp), h]
theorem lead_all {P : Nat → Bool} : ∀ {n x : Nat}, x < lead P n → P x = true
  | 0, x, h => by simp [lead] at h
  | n + 1, x, h => by
    rw [lead] at h
    split at h
    · rename_i h1
      rcases Nat.lt_or_ge x n with h2 | h2
      · exact lead_all (n := n) (by omega)
      · obtain rfl : x = n := by omega
        exact h1.2
    · exact lead_all h
theorem lead_end {P : Nat → Bool} : ∀ {n : Nat}, lead P n < n → P (lead P n) = false
  | 0, h => by omega
  | n + 1, h => by
    rw [lead] at h ⊢
    split at h
    · omega
    · rename_i h1
      rw [if_neg h1]
      rcases Nat.lt_or_ge (lead P n) n with h2 | h2
      · exact lead_end h2
      · have h3 := lead_le P n
        have h4 : lead P n = n := by omega
        rw [h4]
        cases hp : P n
        · rfl
        · exact absurd ⟨h4, hp⟩ h1
/-- The divisions with at most x marked places in the first block are at most the share num / den of all. -/
def underB (d k num den x : Nat) : Bool := decide (divsN d k (x + 1) * den ≤ num * bin (2 * d) d)
/-- The threshold. -/
def thS (d k num den : Nat) : Int := (lead (underB d k num den) (k + 1) : Int) - 1

/-- Two places are exchanged. -/
def swapL (l : List Nat) (i j : Nat) : List Nat := (l.set i (l.getD j 0)).set j (l.getD i 0)
theorem swapL_length (l : List Nat) (i j : Nat) : (swapL l i j).length = l.length := by simp [swapL]
theorem swapL_get {l : List Nat} {i j p : Nat} (hi : i < l.length) (hj : j < l.length) (hp : p < l.length) : (swapL l i j).getD p 0 = l.getD (if p = j then i else if p = i then j else p) 0 := by
  unfold swapL
  simp only [List.getD_eq_getElem?_getD, List.getElem?_set, List.length_set]
  by_cases h1 : p = j
  · subst h1; simp [hj]
  · rw [if_neg (fun e => h1 e.symm), if_neg h1]
    by_cases h2 : p = i
    · subst h2; simp [hi]
    · rw [if_neg (fun e => h2 e.symm), if_neg h2]
/-- An arrangement of n places: all in range, no place twice. -/
def ArrL (l : List Nat) (n : Nat) : Prop := l.length = n ∧ (∀ p, p < n → l.getD p 0 < n) ∧ ∀ p q, p < n → q < n → l.getD p 0 = l.getD q 0 → p = q
theorem arr_range (n : Nat) : ArrL (List.range n) n := by
  have h : ∀ p, p < n → (List.range n).getD p 0 = p := fun p hp => by simp [List.getD_eq_getElem?_getD, hp]
  exact ⟨by simp, fun p hp => by rw [h p hp]; exact hp, fun p q hp hq e => by rwa [h p hp, h q hq] at e⟩
theorem arr_swap {l : List Nat} {n i j : Nat} (h : ArrL l n) (hi : i < n) (hj : j < n) : ArrL (swapL l i j) n := by
  obtain ⟨h1, h2, h3⟩ := h
  have hg : ∀ p, p < n → (swapL l i j).getD p 0 = l.getD (if p = j then i else if p = i then j else p) 0 := fun p hp => swapL_get (by omega) (by omega) (by omega)
  have hb : ∀ p, p < n → (if p = j then i else if p = i then j else p) < n := fun p hp => by
    by_cases a : p = j
    · rw [if_pos a]; exact hi
    · rw [if_neg a]
      by_cases b : p = i
      · rw [if_pos b]; exact hj
      · rw [if_neg b]; exact hp
  refine ⟨by rw [swapL_length, h1], fun p hp => by rw [hg p hp]; exact h2 _ (hb p hp), fun p q hp hq e => ?_⟩
  rw [hg p hp, hg q hq] at e
  have e2 := h3 _ _ (hb p hp) (hb q hq) e
  clear hg hb e h1 h2 h3
  generalize he : (if p = j then i else if p = i then j else p) = u at e2
  generalize hf : (if q = j then i else if q = i then j else q) = v at e2
  subst e2
  by_cases a1 : p = j
  · rw [if_pos a1] at he
    by_cases b1 : q = j
    · omega
    · rw [if_neg b1] at hf
      by_cases b2 : q = i
      · rw [if_pos b2] at hf; omega
      · rw [if_neg b2] at hf; omega
  · rw [if_neg a1] at he
    by_cases a2 : p = i
    · rw [if_pos a2] at he
      by_cases b1 : q = j
      · rw [if_pos b1] at hf; omega
      · rw [if_neg b1] at hf
        by_cases b2 : q = i
        · omega
        · rw [if_neg b2] at hf; omega
    · rw [if_neg a2] at he
      by_cases b1 : q = j
      · rw [if_pos b1] at hf; omega
      · rw [if_neg b1] at hf
        by_cases b2 : q = i
        · rw [if_pos b2] at hf; omega
        · rw [if_neg b2] at hf; omega
/-- The exchanges from the place i down. -/
def arrD (num : Nat → Nat) : Nat → List Nat → List Nat
  | 0, l => l
  | i + 1, l => arrD num i (swapL l (i + 1) (num (i + 1)))
def arrS (num : Nat → Nat) (n : Nat) : List Nat := arrD num (n - 1) (List.range n)
theorem arr_arrD {num : Nat → Nat} {n : Nat} (hn : ∀ i, i < n → num i ≤ i) : ∀ {i : Nat} {l : List Nat}, i < n → ArrL l n → ArrL (arrD num i l) n
  | 0, _, _, h => h
  | i + 1, l, hi, h => arr_arrD (l := swapL l (i + 1) (num (i + 1))) hn (by omega) (arr_swap h hi (by have := hn (i + 1) hi; omega))
theorem arr_arrS {num : Nat → Nat} {n : Nat} (hn : ∀ i, i < n → num i ≤ i) : ArrL (arrS num n) n := by
  rcases Nat.eq_zero_or_pos n with rfl | h
  · exact arr_range 0
  · exact arr_arrD hn (by omega) (arr_range n)

/-- A word: the columns from lo on, the first i of all looked at. -/
def wordF (at_ : List Nat) (n lo : Nat) : Nat → List UInt8
  | 0 => List.replicate n 0
  | i + 1 => if lo ≤ i then (wordF at_ n lo i).set (at_.getD i 0) 1 else wordF at_ n lo i
theorem wordF_length (at_ : List Nat) (n lo : Nat) : ∀ i, (wordF at_ n lo i).length = n
  | 0 => by simp [wordF]
  | i + 1 => by rw [wordF]; split <;> simp [wordF_length at_ n lo i]
theorem wordF_low (at_ : List Nat) (n lo : Nat) : ∀ {i}, i ≤ lo → wordF at_ n lo i = List.replicate n 0
  | 0, _ => rfl
  | i + 1, h => by rw [wordF, if_neg (by omega), wordF_low at_ n lo (by omega)]
theorem wordF_yes {at_ : List Nat} {n lo i : Nat} (h : lo ≤ i) : wordF at_ n lo (i + 1) = (wordF at_ n lo i).set (at_.getD i 0) 1 := by rw [wordF, if_pos h]
theorem wordF_no {at_ : List Nat} {n lo i : Nat} (h : i < lo) : wordF at_ n lo (i + 1) = wordF at_ n lo i := by rw [wordF, if_neg (by omega)]
/-- The symbol of a column. -/
theorem wordF_get {at_ : List Nat} {n lo : Nat} (ha : ArrL at_ n) : ∀ {i p : Nat}, i ≤ n → p < n → (wordF at_ n lo i).getD (at_.getD p 0) 0 = if lo ≤ p ∧ p < i then 1 else 0
  | 0, p, _, hp => by
    rw [if_neg (by omega)]
    have := ha.2.1 p hp
    rw [wordF, List.getD_eq_getElem?_getD, List.getElem?_replicate, if_pos this]; rfl
  | i + 1, p, hi, hp => by
    have ih := wordF_get (lo := lo) ha (i := i) (p := p) (by omega) hp
    have hl := wordF_length at_ n lo i
    have hb := ha.2.1 p hp
    by_cases h : lo ≤ i
    · rw [wordF_yes h, List.getD_eq_getElem?_getD, List.getElem?_set]
      by_cases e : at_.getD i 0 = at_.getD p 0
      · have := ha.2.2 i p (by omega) hp e
        subst this
        rw [if_pos e, if_pos (by rw [hl]; exact ha.2.1 i hp), if_pos ⟨h, by omega⟩]; rfl
      · rw [if_neg e, ← List.getD_eq_getElem?_getD, ih]
        have : i ≠ p := fun e' => e (by rw [e'])
        by_cases h2 : lo ≤ p ∧ p < i
        · rw [if_pos h2, if_pos (by omega)]
        · rw [if_neg h2, if_neg (by omega)]
    · rw [wordF_no (by omega), ih]
      by_cases h2 : lo ≤ p ∧ p < i
      · rw [if_pos h2, if_pos (by omega)]
      · rw [if_neg h2, if_neg (by omega)]
def stepWord (at_ : List Nat) (n lo : Nat) : List UInt8 := wordF at_ n lo n
theorem stepWord_length (at_ : List Nat) (n lo : Nat) : (stepWord at_ n lo).length = n := wordF_length _ _ _ _
theorem wordF_bit (at_ : List Nat) (n lo : Nat) : ∀ (i p : Nat), ((wordF at_ n lo i).getD p 0).toNat ≤ 1
  | 0, p => by
    simp only [wordF, List.getD_eq_getElem?_getD, List.getElem?_replicate]
    split <;> simp
  | i + 1, p => by
    rw [wordF]
    split
    · rw [List.getD_eq_getElem?_getD, List.getElem?_set]
      split
      · split <;> simp
      · rw [← List.getD_eq_getElem?_getD]; exact wordF_bit at_ n lo i p
    · exact wordF_bit at_ n lo i p

/-- The weights, the first i columns looked at. -/
def weightF (at_ : List Nat) (y : List UInt8) (B m : Nat) : Nat → List Nat
  | 0 => List.replicate m 0
  | i + 1 => if y.getD (at_.getD i 0) 0 = 1 then (weightF at_ y B m i).set (i / B) ((weightF at_ y B m i).getD (i / B) 0 + 1) else weightF at_ y B m i
theorem weightF_length (at_ : List Nat) (y : List UInt8) (B m : Nat) : ∀ i, (weightF at_ y B m i).length = m
  | 0 => by simp [weightF]
  | i + 1 => by rw [weightF]; split <;> simp [weightF_length at_ y B m i]
theorem weightF_yes {at_ : List Nat} {y : List UInt8} {B m i : Nat} (h : y.getD (at_.getD i 0) 0 = 1) : weightF at_ y B m (i + 1) = (weightF at_ y B m i).set (i / B) ((weightF at_ y B m i).getD (i / B) 0 + 1) := by rw [weightF, if_pos h]
theorem weightF_no {at_ : List Nat} {y : List UInt8} {B m i : Nat} (h : ¬ y.getD (at_.getD i 0) 0 = 1) : weightF at_ y B m (i + 1) = weightF at_ y B m i := by rw [weightF, if_neg h]
/-- The weight of a block, counted. -/
theorem weightF_get (at_ : List Nat) (y : List UInt8) (B m : Nat) : ∀ {i b : Nat}, b < m → (weightF at_ y B m i).getD b 0 = sumN (fun j => if j / B = b ∧ y.getD (at_.getD j 0) 0 = 1 then 1 else 0) i
  | 0, b, hb => by simp [weightF, sumN, List.getD_eq_getElem?_getD, hb]
  | i + 1, b, hb => by
    have ih := weightF_get at_ y B m (i := i) hb
    have hl := weightF_length at_ y B m i
    rw [sumN_succ, ← ih]
    by_cases h : y.getD (at_.getD i 0) 0 = 1
    · rw [weightF_yes h, List.getD_eq_getElem?_getD, List.getElem?_set]
      by_cases e : i / B = b
      · subst e
        rw [if_pos rfl, if_pos (by rw [hl]; exact hb), if_pos ⟨rfl, h⟩]; rfl
      · rw [if_neg e, if_neg (fun h => e h.1), ← List.getD_eq_getElem?_getD]; rfl
    · rw [weightF_no h, if_neg (fun h' => h h'.2)]; rfl
theorem block_sum (B b : Nat) (hB : 0 < B) : ∀ n, sumN (fun j => if j / B = b then 1 else 0) n = min n ((b + 1) * B) - min n (b * B)
  | 0 => by simp [sumN]
  | n + 1 => by
    rw [sumN_succ, block_sum B b hB n]
    have e : (b + 1) * B = b * B + B := by rw [Nat.add_mul, Nat.one_mul]
    have hd : n / B = b ↔ b * B ≤ n ∧ n < b * B + B := by
      rw [← e, Nat.div_eq_iff hB]
      constructor
      · rintro ⟨h1, h2⟩; exact ⟨h1, by rw [e]; omega⟩
      · rintro ⟨h1, h2⟩; exact ⟨h1, by rw [e] at h2; omega⟩
    by_cases h : n / B = b
    · rw [if_pos h]; have := hd.1 h; omega
    · rw [if_neg h]
      have : ¬ (b * B ≤ n ∧ n < b * B + B) := fun h' => h (hd.2 h')
      omega
theorem weightF_le (at_ : List Nat) (y : List UInt8) (B m : Nat) (hB : 0 < B) {i b : Nat} (hb : b < m) : (weightF at_ y B m i).getD b 0 ≤ B := by
  rw [weightF_get at_ y B m hb]
  refine Nat.le_trans (sumN_le (g := fun j => if j / B = b then 1 else 0) fun j _ => ?_) ?_
  · split
    · rename_i h; rw [if_pos h.1]; omega
    · exact Nat.zero_le _
  · rw [block_sum B b hB]
    have e : (b + 1) * B = b * B + B := by rw [Nat.add_mul, Nat.one_mul]
    omega
def weightsS (at_ : List Nat) (y : List UInt8) (B m : Nat) : List Nat := weightF at_ y B m at_.length

/-- Whether a user is named for some weights. -/
def namedB (users B num den : Nat) (w : List Nat) (u : Nat) : Bool :=
  if u = 0 then decide (0 < w.getD 0 0) else if u + 1 = users then decide (w.getD (u - 1) 0 < B) else decide ((w.getD (u - 1) 0 : Int) ≤ thS B (w.getD (u - 1) 0 + w.getD u 0) num den)
def namesF (P : Nat → Bool) : Nat → List Int
  | 0 => []
  | u + 1 => if P u = true then namesF P u ++ [(u : Int)] else namesF P u
theorem namesF_yes {P : Nat → Bool} {u : Nat} (h : P u = true) : namesF P (u + 1) = namesF P u ++ [(u : Int)] := by rw [namesF, if_pos h]
theorem namesF_no {P : Nat → Bool} {u : Nat} (h : P u = false) : namesF P (u + 1) = namesF P u := by rw [namesF, if_neg (by rw [h]; simp)]
theorem namesF_length (P : Nat → Bool) : ∀ n, (namesF P n).length ≤ n
  | 0 => Nat.le_refl _
  | n + 1 => by
    have := namesF_length P n
    rw [namesF]
    split
    · simp; omega
    · omega
theorem namesF_mem {P : Nat → Bool} : ∀ {n : Nat} {x : Int}, x ∈ namesF P n ↔ ∃ u : Nat, u < n ∧ P u = true ∧ x = (u : Int)
  | 0, x => by simp [namesF]
  | n + 1, x => by
    rw [namesF]
    split
    · rename_i h
      rw [List.mem_append, namesF_mem, List.mem_singleton]
      constructor
      · rintro (⟨u, h1, h2, h3⟩ | rfl)
        · exact ⟨u, by omega, h2, h3⟩
        · exact ⟨n, by omega, h, rfl⟩
      · rintro ⟨u, h1, h2, h3⟩
        by_cases e : u = n
        · subst e; exact .inr h3
        · exact .inl ⟨u, by omega, h2, h3⟩
    · rename_i h
      rw [namesF_mem]
      constructor
      · rintro ⟨u, h1, h2, h3⟩; exact ⟨u, by omega, h2, h3⟩
      · rintro ⟨u, h1, h2, h3⟩
        refine ⟨u, ?_, h2, h3⟩
        rcases Nat.lt_or_ge u n with h4 | h4
        · exact h4
        · obtain rfl : u = n := by omega
          exact absurd h2 h
def namesS (users B num den : Nat) (w : List Nat) : List Int := namesF (namedB users B num den w) users

/-- The weights of a block that name nobody up to it. -/
def mayS (B : Nat) (t : Nat → Int) : Nat → Nat → Bool
  | 0, w => decide (w = 0)
  | j + 1, w => decide (∃ v, v ≤ B ∧ mayS B t j v = true ∧ t (v + w) < (v : Int))
end Go.Proofs.YtenpkmgbaajeeaaGreat

/- Codes of steps in plain words: sums over the columns; words, weights and names of words; what a complete code names. -/
namespace Go.Proofs.YtenpkmgbaajeeaaGreat
set_option linter.unusedVariables false

theorem swapL_perm {l : List Nat} {i j : Nat} (hi : i < l.length) (hj : j < l.length) : (swapL l i j).Perm l := by
  have h := Array.swap_perm (xs := l.toArray) (i := i) (j := j) (by simpa using hi) (by simpa using hj)
  have h2 := Array.perm_iff_toList_perm.1 h
  have e : (l.toArray.swap i j (by simpa using hi) (by simpa using hj)).toList = swapL l i j := by
    simp [swapL, Array.swap, List.getD_eq_getElem?_getD, hi, hj]
  rw [e] at h2
  simpa using h2
theorem arrD_perm {num : Nat → Nat} {n : Nat} (hn : ∀ i, i < n → num i ≤ i) : ∀ {i : Nat} {l : List Nat}, i < n → l.length = n → (arrD num i l).Perm l
  | 0, l, _, _ => List.Perm.refl _
  | i + 1, l, hi, hl => (arrD_perm (l := swapL l (i + 1) (num (i + 1))) hn (by omega) (by rw [swapL_length, hl])).trans (swapL_perm (by omega) (by have := hn (i + 1) hi; omega))
theorem arrS_perm {num : Nat → Nat} {n : Nat} (hn : ∀ i, i < n → num i ≤ i) : (arrS num n).Perm (List.range n) := by
  rcases Nat.eq_zero_or_pos n with rfl | h
  · exact List.Perm.refl _
  · exact arrD_perm hn (by omega) (by simp)
theorem sum_range (f : Nat → Nat) : ∀ n, ((List.range n).map f).sum = sumN f n
  | 0 => rfl
  | n + 1 => by rw [List.range_succ, List.map_append, List.sum_append, sum_range f n, sumN_succ]; simp
theorem map_getD (l : List Nat) : (List.range l.length).map (fun i => l.getD i 0) = l := by
  refine List.ext_getElem (by simp) fun i h1 h2 => ?_
  simp [List.getD_eq_getElem?_getD, h2]
/-- A sum over the columns is one over the places. -/
theorem sum_columns {l : List Nat} {n : Nat} (h : l.Perm (List.range n)) (f : Nat → Nat) : sumN (fun i => f (l.getD i 0)) n = sumN f n := by
  have hl : l.length = n := by have := h.length_eq; simpa using this
  have h1 := (h.map f).sum_nat
  rw [sum_range] at h1
  rw [← h1, ← sum_range, ← hl]
  have e : (List.range l.length).map (fun i => f (l.getD i 0)) = ((List.range l.length).map (fun i => l.getD i 0)).map f := by rw [List.map_map]; rfl
  rw [e, map_getD]
theorem stepWord_get {at_ : List Nat} {n lo : Nat} (ha : ArrL at_ n) {p : Nat} (hp : p < n) : (stepWord at_ n lo).getD (at_.getD p 0) 0 = if lo ≤ p then 1 else 0 := by
  unfold stepWord
  rw [wordF_get ha (Nat.le_refl _) hp]
  by_cases h : lo ≤ p
  · rw [if_pos ⟨h, hp⟩, if_pos h]
  · rw [if_neg (fun h' => h h'.1), if_neg h]
/-- How many places of a word are 1. -/
def onesB (l : List UInt8) : Nat → Nat := fun n => sumN (fun p => if l.getD p 0 = 1 then 1 else 0) n
theorem sum_from (lo : Nat) : ∀ n, sumN (fun i => if lo ≤ i then 1 else 0) n = n - lo
  | 0 => by simp [sumN]
  | n + 1 => by
    rw [sumN_succ, sum_from lo n]
    split <;> omega
theorem stepWord_ones {at_ : List Nat} {n lo : Nat} (ha : ArrL at_ n) (hp : at_.Perm (List.range n)) : onesB (stepWord at_ n lo) n = n - lo := by
  unfold onesB
  rw [← sum_columns hp, ← sum_from lo n]
  refine sumN_congr fun i hi => ?_
  rw [stepWord_get ha hi]
  by_cases h : lo ≤ i
  · rw [if_pos h, if_pos h, if_pos rfl]
  · rw [if_neg h, if_neg h, if_neg (by decide)]
theorem ArrL.len {l : List Nat} {n : Nat} (h : ArrL l n) : l.length = n := h.1
/-- The weights of a word of a user. -/
theorem word_weights {at_ : List Nat} {B m u : Nat} (ha : ArrL at_ (m * B)) (hB : 0 < B) {b : Nat} (hb : b < m) : (weightsS at_ (stepWord at_ (m * B) (u * B)) B m).getD b 0 = if u ≤ b then B else 0 := by
  unfold weightsS
  rw [weightF_get _ _ _ _ hb, ha.len]
  by_cases h : u ≤ b
  · rw [if_pos h]
    have e : sumN (fun j => if j / B = b ∧ (stepWord at_ (m * B) (u * B)).getD (at_.getD j 0) 0 = 1 then 1 else 0) (m * B) = sumN (fun j => if j / B = b then 1 else 0) (m * B) := sumN_congr fun j hj => by
      by_cases e : j / B = b
      · have h1 : u * B ≤ j := Nat.le_trans (Nat.mul_le_mul_right B h) (by rw [← e]; exact Nat.div_mul_le_self j B)
        rw [stepWord_get ha hj, if_pos h1, if_pos ⟨e, rfl⟩, if_pos e]
      · rw [if_neg (fun h => e h.1), if_neg e]
    rw [e, block_sum B b hB]
    have h1 := Nat.mul_le_mul_right B (show b + 1 ≤ m by omega)
    have h2 : (b + 1) * B = b * B + B := by rw [Nat.add_mul, Nat.one_mul]
    omega
  · rw [if_neg h]
    refine sumN_zero fun j hj => ?_
    by_cases e : j / B = b
    · have h1 : j < u * B := (Nat.div_lt_iff_lt_mul hB).1 (by rw [e]; omega)
      rw [stepWord_get ha hj, if_neg (show ¬ u * B ≤ j by omega)]; simp
    · rw [if_neg (fun h => e h.1)]
/-- No user's weights reach the last block's size if the code is complete and none of the earlier ones is named. -/
theorem complete_names {users B num den : Nat} {w : List Nat} (hu : 2 ≤ users) (hw : ∀ b, b < users - 1 → w.getD b 0 ≤ B) (hc : mayS B (fun k => thS B k num den) (users - 2) B = false) : ∃ u, u < users ∧ namedB users B num den w u = true := by
  apply Classical.byContradiction
  intro hno
  have hn : ∀ u, u < users → namedB users B num den w u = false := fun u hu => by
    cases h : namedB users B num den w u
    · rfl
    · exact absurd ⟨u, hu, h⟩ hno
  have hm : ∀ j, j ≤ users - 2 → mayS B (fun k => thS B k num den) j (w.getD j 0) = true := by
    intro j
    induction j with
    | zero =>
      intro _
      have := hn 0 (by omega)
      unfold namedB at this
      rw [if_pos rfl] at this
      simp only [decide_eq_false_iff_not] at this
      simp only [mayS, decide_eq_true_eq]
      omega
    | succ j ih =>
      intro hj
      have h1 := hn (j + 1) (by omega)
      unfold namedB at h1
      rw [if_neg (by omega), if_neg (by omega), Nat.add_sub_cancel] at h1
      simp only [decide_eq_false_iff_not, Int.not_le] at h1
      simp only [mayS, decide_eq_true_eq]
      exact ⟨w.getD j 0, hw j (by omega), ih (by omega), h1⟩
  have h2 := hn (users - 1) (by omega)
  unfold namedB at h2
  rw [if_neg (by omega), if_pos (by omega), show users - 1 - 1 = users - 2 from by omega] at h2
  simp only [decide_eq_false_iff_not] at h2
  have h3 := hw (users - 2) (by omega)
  have h4 := hm (users - 2) (Nat.le_refl _)
  rw [show w.getD (users - 2) 0 = B from by omega, hc] at h4
  cases h4
/-- Codes of two users are complete. -/
theorem complete_two {B : Nat} (hB : 0 < B) (t : Nat → Int) : mayS B t 0 B = false := by
  simp only [mayS, decide_eq_false_iff_not]; omega
theorem complete_three {B num den : Nat} (t : Nat → Int) : mayS B t 1 B = decide (t B < 0) := by
  rw [Bool.eq_iff_iff]
  simp only [mayS, decide_eq_true_eq]
  constructor
  · rintro ⟨v, _, rfl, h⟩
    simpa using h
  · intro h
    exact ⟨0, Nat.zero_le _, rfl, by simpa using h⟩
/-- The threshold is below 0 just if not even no marked place is below the limit. -/
theorem thS_neg (d k num den : Nat) : thS d k num den < 0 ↔ underB d k num den 0 = false := by
  unfold thS
  constructor
  · intro h
    cases hu : underB d k num den 0
    · rfl
    · have h1 : lead (underB d k num den) 1 = 1 := lead_go (x := 0) rfl hu
      have h2 : ∀ n, 1 ≤ lead (underB d k num den) (n + 1) := by
        intro n
        induction n with
        | zero => exact Nat.le_of_eq h1.symm
        | succ n ih => rw [lead]; split <;> omega
      have := h2 k
      omega
  · intro h
    rw [lead_stop (P := underB d k num den) (x := 0) (n := k + 1) rfl h (by omega)]
    decide
theorem thS_ge (d k num den : Nat) : -1 ≤ thS d k num den := by unfold thS; omega
theorem thS_le (d k num den : Nat) : thS d k num den ≤ k := by
  unfold thS
  have := lead_le (underB d k num den) (k + 1)
  omega
theorem bin_pos : ∀ {a b : Nat}, b ≤ a → 0 < bin a b
  | a, 0, _ => by rw [bin_zero]; omega
  | 0, b + 1, h => by omega
  | a + 1, b + 1, h => by
    have := bin_pos (a := a) (b := b) (by omega)
    rw [bin_succ]; omega
/-- Below the limit 1 not all divisions are. -/
theorem thS_lt {d k num den : Nat} (hk : k ≤ 2 * d) (hl : num < den) : thS d k num den < k := by
  unfold thS
  have h1 := lead_le (underB d k num den) (k + 1)
  rcases Nat.lt_or_ge k (lead (underB d k num den) (k + 1)) with h | h
  · have h2 := lead_all h
    unfold underB at h2
    rw [divsN_all hk] at h2
    simp only [decide_eq_true_eq] at h2
    have h3 := bin_pos (a := 2 * d) (b := d) (by omega)
    have h4 := Nat.mul_lt_mul_of_pos_left hl h3
    rw [Nat.mul_comm (bin (2 * d) d) num] at h4
    omega
  · omega
theorem thS_under {d k num den : Nat} {x : Nat} (h : (x : Int) ≤ thS d k num den) : divsN d k (x + 1) * den ≤ num * bin (2 * d) d := by
  unfold thS at h
  have := lead_all (P := underB d k num den) (n := k + 1) (x := x) (by omega)
  simpa [underB] using this
theorem thS_over {d k num den : Nat} (h : thS d k num den < k) : num * bin (2 * d) d < divsN d k ((thS d k num den + 2).toNat) * den := by
  unfold thS at h ⊢
  have := lead_end (P := underB d k num den) (n := k + 1) (by omega)
  simp only [underB, decide_eq_false_iff_not, Nat.not_le] at this
  rw [show ((lead (underB d k num den) (k + 1) : Int) - 1 + 2).toNat = lead (underB d k num den) (k + 1) + 1 from by omega]
  exact this
end Go.Proofs.YtenpkmgbaajeeaaGreat

/- Tails: the program's. -/
namespace Go.Proofs.YtenpkmgbaajeeaaGreat
open Go.RowKit
set_option linter.unusedVariables false
set_option linter.unusedSimpArgs false

/-- A tail, or the error. -/
def tailS (d k x : Int) : (List Nat × List Nat) × Int := if d < 1 ∨ 64 < d ∨ k < 0 ∨ 2 * d < k ∨ x < -1 ∨ k < x then (([], []), 2) else (lowS (divsN d.toNat k.toNat (x + 1).toNat) (bin (2 * d.toNat) d.toNat), 0)
theorem tailS_no {d k x : Int} (h : d < 1 ∨ 64 < d ∨ k < 0 ∨ 2 * d < k ∨ x < -1 ∨ k < x) : tailS d k x = (([], []), 2) := by rw [tailS, if_pos h]
theorem tailS_yes {d k X : Nat} {x : Int} (hX : x + 1 = (X : Int)) (h1 : 1 ≤ d) (h2 : d ≤ 64) (h3 : k ≤ 2 * d) (h4 : X ≤ k + 1) : tailS (d : Int) (k : Int) x = (lowS (divsN d k X) (bin (2 * d) d), 0) := by
  rw [tailS, if_neg (by omega), hX, Int.toNat_natCast, Int.toNat_natCast, Int.toNat_natCast]
theorem divsN_le {d k x : Nat} (hk : k ≤ 2 * d) (hx : x ≤ k + 1) : divsN d k x ≤ bin (2 * d) d := by
  rw [← divsN_all hk]
  exact sumN_mono _ hx
theorem divsN_succ (d k x : Nat) : divsN d k (x + 1) = divsN d k x + pick k (2 * d - k) d x := rfl
theorem sm_all {d : Nat} (h : d ≤ 64) : Sm (bin (2 * d) d) := sm_bin (by omega)
theorem box2_ (w : World) (c0 z0 : Array Value) (t0 : TypeId) {W : World} (hW : W = (w.alloc (.cells z0 t0)).setRow w.heap.size c0) : Below w.heap.size w W ∧ Blk W w.heap.size t0 c0 := by
  subst hW
  exact ⟨below_setRow (alloc_bel w _) (Nat.le_refl _) _, (Blk.new w _ _).setRow _⟩

set_option maxHeartbeats 8000000 in
set_option maxRecDepth 100000 in
theorem tail_out (d k x : Int) (w : World) (h : d < 1 ∨ 64 < d ∨ k < 0 ∨ 2 * d < k ∨ x < -1 ∨ k < x) :
    Calls Tryz.prog 55 #[.int .i64 d, .int .i64 k, .int .i64 x] w fun e w' => Frac2 w w' e (tailS d k x) := by
  have HS := Lib.hid (tailS_no h)
  have b0 := alloc_bel w (.cells #[.slice none 0 0, .slice none 0 0] 27)
  by_cases hd : d < 1 ∨ 64 < d
  · clear h
    go_enter Tryz.func55, Tryz.ntmps55
    go_wp2_with fail
    all_goals first | omega | exact bodyPost_ret (v := .tuple #[.agg #[.slice none 0 0, .slice none 0 0], .int .i64 2]) (by simp [results, Tryz.f55, go_sem]) rfl (Frac2.mk' HS.out (FracNew.zero b0))
  · have e1 : IntKind.i64.wrap (2 * d) = 2 * d := by rw [IntKind.wrap_i64]; omega
    have h1 : 1 ≤ d := by omega
    have h2 : d ≤ 64 := by omega
    clear hd
    go_enter Tryz.func55, Tryz.ntmps55
    go_wp2_with fail
    all_goals first | omega | exact bodyPost_ret (v := .tuple #[.agg #[.slice none 0 0, .slice none 0 0], .int .i64 2]) (by simp [results, Tryz.f55, go_sem]) rfl (Frac2.mk' HS.out (FracNew.zero b0))

set_option maxHeartbeats 8000000 in
set_option maxRecDepth 100000 in
theorem tail_in (d k X : Nat) (x : Int) (w : World) (hX : x + 1 = (X : Int)) (h1 : 1 ≤ d) (h2 : d ≤ 64) (h3 : k ≤ 2 * d) (h4 : X ≤ k + 1) :
    Calls Tryz.prog 55 #[.int .i64 (d : Int), .int .i64 (k : Int), .int .i64 x] w fun e w' => Frac2 w w' e (tailS d k x) := by
  have HS := Lib.hid (tailS_yes hX h1 h2 h3 h4)
  obtain ⟨n, hn⟩ : ∃ n, k + n = 2 * d := ⟨2 * d - k, by omega⟩
  have hn2 : 2 * d - k = n := by omega
  have e1 : IntKind.i64.wrap (2 * (d : Int)) = 2 * (d : Int) := by rw [IntKind.wrap_i64]; omega
  have e2 : IntKind.i64.wrap (x + 1) = (X : Int) := by rw [IntKind.wrap_i64]; omega
  have hd1 : (1 : Int) ≤ d := by omega
  have hd2 : (d : Int) ≤ 64 := by omega
  have hk2 : (k : Int) ≤ 2 * (d : Int) := by omega
  have hx1 : -1 ≤ x := by omega
  have hx2 : x ≤ (k : Int) := by omega
  have hXi : (X : Int) ≤ 129 := by omega
  have HDV : Hid (∀ W, Calls Tryz.prog 106 #[.int .i64 (d : Int), .int .i64 (k : Int)] W fun e w' => (∃ M cm O co, e = .returned (.agg (divC d k n M cm O co)) ∧ DivR W.heap.size w' k n M cm O co) ∧ Below W.heap.size W w') := fun W => divided_any d k n W h2 hn
  have HWT : Hid (∀ i, i ≤ k → ∀ B M cm O co W, DivR B W k n M cm O co → Calls Tryz.prog 109 #[.agg (divC d k n M cm O co), .int .i64 (i : Int)] W fun e w' => (∃ X x', e = .returned (.slice X (digs (pick k n d i)).length x') ∧ NR w' X x' (digs (pick k n d i))) ∧ Below W.heap.size W w') := fun i hi B M cm O co W hW => with_any d k n i M cm O co W hW h2 hn (by omega)
  have HAL : Hid (∀ M cm O co W, Calls Tryz.prog 110 #[.agg (divC d k n M cm O co)] W fun e w' => (∃ X x', e = .returned (.slice X (digs (bin (2 * d) d)).length x') ∧ NR w' X x' (digs (bin (2 * d) d))) ∧ Below W.heap.size W w') := fun M cm O co W => all_any d k n M cm O co W h2
  have HSM : Hid (∀ i, i ≤ k + 1 → Sm (divsN d k i)) := fun i hi => (sm_all h2).mono (divsN_le h3 hi)
  have HSA : Hid (Sm (bin (2 * d) d) ∧ bin (2 * d) d ≠ 0) := ⟨sm_all h2, by have := bin_pos (a := 2 * d) (b := d) (by omega); omega⟩
  have HPK : Hid (∀ i, divsN d k (i + 1) = divsN d k i + pick k n d i) := fun i => by rw [divsN_succ, hn2]
  have HMU : Hid (∀ A n c W, Calls Tryz.prog 107 #[.slice A n c, .int .i64 0] W fun e w' => e = .returned (.slice A n c) ∧ Below W.heap.size W w') := fun A n c W => must_any A n c 0 W
  have HXK := Lib.hid h4
  obtain ⟨W0, hW0⟩ : ∃ W, W = w.alloc (.cells #[.slice none 0 0, .slice none 0 0] 27) := ⟨_, rfl⟩
  have b0 : Hid (Below w.heap.size w W0) := by unfold Hid; rw [hW0]; exact alloc_bel w _
  have Q0 : Blk W0 w.heap.size 27 #[.slice none 0 0, .slice none 0 0] := by rw [hW0]; exact Blk.new w _ _
  have HQ : Hid (∀ W, Below W0.heap.size W0 W → Blk W w.heap.size 27 #[.slice none 0 0, .slice none 0 0]) := fun W hW => Q0.below' hW
  have HZ0 : Hid (W0.heap.size = w.heap.size + 1) := by unfold Hid; rw [hW0]; simp
  have HW0 := Lib.hid hW0
  clear hW0 Q0 hX h1 h2 h3 h4 hn hn2
  go_enter Tryz.func55, Tryz.ntmps55
  go_wp2_with (first
    | (go_at_call 106; rw [← HW0.out]; (with_reducible refine (HDV.out _).mono ?_); rintro e w1 ⟨⟨M, cm, O, co, rfl, hr⟩, hb⟩; have R1 := Lib.hid hr; have D1 := Lib.hid hb; clear hr hb)
    | (refine wpList_store_row rfl 150 (.tmp 8) (.tmp 39) rfl w1.heap.size (divC d k n M cm O co) rfl rfl 150 #[.int .i64 0, .slice none 0 0, .slice none 0 0] (Blk.new w1 _ _) (by kernel_rfl) rfl (by simp [divC, Value.oneCell']) ?_; obtain ⟨w2, hV⟩ : ∃ W, W = (w1.alloc (.cells #[.int .i64 0, .slice none 0 0, .slice none 0 0] 150)).setRow w1.heap.size (divC d k n M cm O co) := ⟨_, rfl⟩; rw [← hV]; obtain ⟨gb, nb⟩ := box2_ _ _ _ _ hV; have D2 := Lib.hid (bel_on D1.out gb); have R2 := Lib.hid (R1.out.below gb); have G2 := Lib.hid nb; clear hV gb nb))
  all_goals first | omega | skip
  go_loopw [9, 42] (fun vs vi wr => ∃ (i ls s : Nat) (S : Option Addr), i ≤ X ∧ vi = .int .i64 (i : Int) ∧ vs = .slice S ls s ∧ Hid ((digs (divsN d k i)).length = ls) ∧ Hid (NR wr S s (digs (divsN d k i))) ∧ Below w2.heap.size w2 wr) (fun _ vi _ => X - (intOf vi).toNat)
  case atStart => exact ⟨0, 0, 0, none, by omega, rfl, rfl, rfl, NR.nil _, Below.refl _ _⟩
  case round =>
    obtain ⟨i, ls, s, S, hi, rfl, rfl, HLS, HRS, hbel⟩ := hrel
    by_cases hlt : i < X
    · have hii : (i : Int) < X := by omega
      have hik : i ≤ k := by have := HXK.out; omega
      obtain ⟨lp, hlp⟩ : ∃ l, (digs (pick k n d i)).length = l := ⟨_, rfl⟩
      obtain ⟨ls2, hls2⟩ : ∃ l, (digs (divsN d k (i + 1))).length = l := ⟨_, rfl⟩
      have HW1 := Lib.hid (HWT.out i hik)
      rw [hlp] at HW1
      have HAD : Hid (∀ A' c' W, NR W S s (digs (divsN d k i)) → NR W A' c' (digs (pick k n d i)) → Calls Tryz.prog 108 #[.slice S ls s, .slice A' lp c'] W fun e w' => (∃ X x, e = .returned (.tuple #[.slice X ls2 x, .int .i64 0]) ∧ NR w' X x (digs (divsN d k (i + 1)))) ∧ Below W.heap.size W w') := fun A' c' W g1 g2 => by
        have e := HPK.out i
        have hs := HSM.out (i + 1) (by omega)
        rw [e] at hs
        have := addD_any (x := divsN d k i) (y := pick k n d i) hs HLS.out hlp g1 g2
        rwa [← e, hls2] at this
      have HLS2 := Lib.hid hls2
      have B2 := Lib.hid (G2.out.below' hbel)
      have R3 := Lib.hid (R2.out.below hbel)
      clear hlp hls2
      go_wp2_with (first
        | (refine wpList_load_row rfl 150 (.tmp 8) rfl (w1.heap.size) rfl 150 (divC d k n M cm O co) (0, 0) _ B2.out Tryz.underlying150 rfl (by kernel_rfl) ?_)
        | (go_at_call 109; (with_reducible refine (HW1.out _ _ _ _ _ _ R3.out).mono ?_); rintro e w3 ⟨⟨P3, p3, rfl, hp⟩, hb⟩; have P4 := Lib.hid hp; have S4 := Lib.hid (HRS.out.below hb); have D3 := Lib.hid (bel_on hbel hb); clear hp hb)
        | (go_at_call 108; (with_reducible refine (HAD.out _ _ _ S4.out P4.out).mono ?_); rintro e w4 ⟨⟨S5, s5, rfl, hp⟩, hb⟩; have S6 := Lib.hid hp; have D4 := Lib.hid (bel_on D3.out hb); clear hp hb)
        | (go_at_call 107; (with_reducible refine (HMU.out _ _ _ _).mono ?_); rintro e w5 ⟨rfl, hb⟩; have S7 := Lib.hid (S6.out.below hb); have D5 := Lib.hid (bel_on D4.out hb); clear hb))
      go_roundw
      case rel => exact ⟨i + 1, ls2, s5, S5, by omega, by go_num, rfl, HLS2.out, S7.out, D5.out⟩
      case measure => simp [intOf]; omega
    · obtain rfl : i = X := by omega
      have hx : ¬ ((i : Int) < i) := by omega
      have B2 := Lib.hid (G2.out.below' hbel)
      obtain ⟨la, hla⟩ : ∃ l, (digs (bin (2 * d) d)).length = l := ⟨_, rfl⟩
      have HRT : Hid (∀ A' c' W, NR W S s (digs (divsN d k i)) → NR W A' c' (digs (bin (2 * d) d)) → Calls Tryz.prog 52 #[.slice S ls s, .slice A' la c'] W fun e w' => ∃ v, e = .returned (.tuple #[v, .int .i64 0]) ∧ FracNew W w' v (lowS (divsN d k i) (bin (2 * d) d))) := fun A' c' W g1 g2 => ratioD_any (HSM.out i HXK.out) HSA.out.1 HSA.out.2 HLS.out hla g1 g2
      rw [hla] at HAL
      clear hla
      go_wp2_with (first
        | (refine wpList_load_row rfl 150 (.tmp 8) rfl (w1.heap.size) rfl 150 (divC d k n M cm O co) (0, 0) _ B2.out Tryz.underlying150 rfl (by kernel_rfl) ?_)
        | (go_at_call 110; (with_reducible refine (HAL.out _ _ _ _ _).mono ?_); rintro e w3 ⟨⟨P3, p3, rfl, hp⟩, hb⟩; have P4 := Lib.hid hp; have S4 := Lib.hid (HRS.out.below hb); have D3 := Lib.hid (bel_on hbel hb); clear hp hb))
      go_at_call 52
      refine (HRT.out _ _ _ S4.out P4.out).mono ?_
      rintro e w9 ⟨v, rfl, hf⟩
      clear HRT
      obtain ⟨Xa, xc, Y, yd, rfl, hXX, hY, hap, hbf⟩ := hf
      have DF := bel_on D2.out (bel_on D3.out hbf)
      have QF := HQ.out _ DF
      have k0 := QF.cell 0
      have k1 := QF.cell 1
      have f0 := QF.frozen 0
      have f1 := QF.frozen 1
      have HBF := Lib.hid (bel_on b0.out DF)
      have HLE : Hid (w.heap.size + 1 ≤ w3.heap.size) := by
        have a1 := HZ0.out
        have a2 := D2.out.size
        have a3 := D3.out.size
        unfold Hid; omega
      have HFX := Lib.hid (hXX.mono HLE.out)
      have HFY := Lib.hid (hY.mono HLE.out)
      have HAP := Lib.hid hap
      obtain ⟨r, hr⟩ : ∃ r, lowS (divsN d k i) (bin (2 * d) d) = r := ⟨_, rfl⟩
      rw [hr] at HFX HFY HAP HS
      obtain ⟨r1, r2⟩ := r
      dsimp only at HFX HFY HAP HS
      generalize hlx : (lowS (divsN d k i) (bin (2 * d) d)).1.length = lx
      generalize hly : (lowS (divsN d k i) (bin (2 * d) d)).2.length = ly
      rw [hr] at hlx hly
      dsimp only at hlx hly
      have HLX := Lib.hid hlx
      have HLY := Lib.hid hly
      clear QF hXX hY hap hbf hr hlx hly DF
      go_wp2_with fail
      refine bodyPost_ret (v := .tuple #[.agg #[.slice Xa lx xc, .slice Y ly yd], .int .i64 0]) (by simp [results, Tryz.f55, go_sem, k0, k1, f0, f1]) rfl (Frac2.mk' HS.out ?_)
      rw [← HLX.out, ← HLY.out]
      exact fracNew_store HFX.out HFY.out HAP.out (Nat.le_refl _) HBF.out _ _
theorem Tail_any (d k x : Int) (w : World) : Calls Tryz.prog 55 #[.int .i64 d, .int .i64 k, .int .i64 x] w fun e w' => Frac2 w w' e (tailS d k x) := by
  by_cases h : d < 1 ∨ 64 < d ∨ k < 0 ∨ 2 * d < k ∨ x < -1 ∨ k < x
  · exact tail_out d k x w h
  · obtain ⟨D, rfl⟩ : ∃ D : Nat, d = (D : Int) := ⟨d.toNat, by omega⟩
    obtain ⟨K, rfl⟩ : ∃ K : Nat, k = (K : Int) := ⟨k.toNat, by omega⟩
    obtain ⟨X, hX⟩ : ∃ X : Nat, x + 1 = (X : Int) := ⟨(x + 1).toNat, by omega⟩
    exact tail_in D K X x w hX (by omega) (by omega) (by omega) (by omega)
end Go.Proofs.YtenpkmgbaajeeaaGreat

/- Chances of agreement: the program's and the reference's. -/
namespace Go.Proofs.YtenpkmgbaajeeaaGreat
open Go.RowKit
set_option linter.unusedVariables false
set_option linter.unusedSimpArgs false

/-- The number of choices of at least k out of m, counted up to i. -/
def tailT (m k i : Nat) : Nat := sumN (fun j => if k ≤ j then bin m j else 0) i
theorem tailT_yes {m k i : Nat} (h : k ≤ i) : tailT m k (i + 1) = tailT m k i + bin m i := by unfold tailT; rw [sumN_succ, if_pos h]
theorem tailT_no {m k i : Nat} (h : ¬ k ≤ i) : tailT m k (i + 1) = tailT m k i := by unfold tailT; rw [sumN_succ, if_neg h]; omega
theorem tailT_le (m k i : Nat) (h : i ≤ m + 1) : tailT m k i ≤ 2 ^ m := by
  rw [← sumN_bin m]
  refine Nat.le_trans (sumN_le (g := bin m) fun j _ => ?_) (sumN_mono _ h)
  split
  · exact Nat.le_refl _
  · exact Nat.zero_le _
/-- A chance of agreement, or the error. -/
def mcS (m k : Int) : (List Nat × List Nat) × Int := if m < 0 ∨ 64 < m ∨ k < 0 ∨ 64 < k then (([], []), 2) else (lowS (tailT m.toNat k.toNat (m.toNat + 1)) (2 ^ m.toNat), 0)

set_option maxHeartbeats 4000000 in
set_option maxRecDepth 100000 in
theorem choose_any (m i : Nat) (w : World) (hm : m ≤ 150) (hi : i ≤ m) :
    Calls Tryz.prog 156 #[.int .i64 (m : Int), .int .i64 (i : Int)] w fun e w' => (∃ A c, e = .returned (.slice A (digs (bin m i)).length c) ∧ NR w' A c (digs (bin m i))) ∧ Below w.heap.size w w' := by
  have hmi : (m : Int) ≤ 150 := by omega
  have him : (i : Int) ≤ m := by omega
  have s0 : decide ((i : Int) < 0) = false := decide_eq_false (by omega)
  have s1 : decide ((m : Int) < (i : Int)) = false := decide_eq_false (by omega)
  have s2 : decide (m < i) = false := decide_eq_false (by omega)
  have HO1 : Hid (∀ W, Calls Tryz.prog 53 #[.int .u64 1] W fun e w' => (∃ A c, e = .returned (.slice A (digs (bin m 0)).length c) ∧ NR w' A c (digs (bin m 0))) ∧ Below W.heap.size W w') := fun W => by rw [bin_zero]; exact refOfD_any 1 W (by omega)
  go_enter Tryz.func156, Tryz.ntmps156
  go_wp2_with (go_at_call 53; refine (HO1.out _).mono ?_; rintro e w1 ⟨⟨A1, c1, rfl, hr1⟩, hb1⟩; have R1 := Lib.hid hr1; clear hr1; generalize hl1 : (digs (bin m 0)).length = l1; have HL1 := Lib.hid hl1; clear hl1)
  go_loopw [5, 6] (fun vc vi wr => ∃ (j l : Nat) (A : Option Addr) (c : Nat), j ≤ i ∧ vi = .int .i64 (j : Int) ∧ vc = .slice A l c ∧ Hid ((digs (bin m j)).length = l) ∧ Hid (NR wr A c (digs (bin m j))) ∧ Below w.heap.size w wr) (fun _ vi _ => i - (intOf vi).toNat)
  case atStart => exact ⟨0, l1, A1, c1, by omega, rfl, rfl, HL1.out, R1.out, hb1⟩
  case round =>
    obtain ⟨j, l, A, c, hj, rfl, rfl, HL, HR, hbel⟩ := hrel
    by_cases hlt : j < i
    · have hji : (j : Int) < i := by omega
      obtain ⟨k, hk⟩ : ∃ k, j + k = m := ⟨m - j, by omega⟩
      obtain ⟨n1, hn1⟩ : ∃ n1, j + 1 = n1 := ⟨_, rfl⟩
      have e1 : IntKind.i64.wrap ((m : Int) - (j : Int)) = (k : Int) := by rw [IntKind.wrap_i64]; omega
      have e2 : (m : Int) - (j : Int) = (k : Int) := by omega
      have e3 : IntKind.u64.wrap (k : Int) = (k : Int) := by rw [IntKind.wrap_u64]; omega
      have e4 : IntKind.u64.wrap ((j : Int) + 1) = (n1 : Int) := by rw [IntKind.wrap_u64]; omega
      obtain ⟨lk, hlk⟩ : ∃ l, (digs k).length = l := ⟨_, rfl⟩
      obtain ⟨lj, hlj⟩ : ∃ l, (digs n1).length = l := ⟨_, rfl⟩
      obtain ⟨lp, hlp⟩ : ∃ l, (digs (bin m j * k)).length = l := ⟨_, rfl⟩
      obtain ⟨lq, hlq⟩ : ∃ l, (digs (bin m (j + 1))).length = l := ⟨_, rfl⟩
      have HOK : Hid (∀ W, Calls Tryz.prog 53 #[.int .u64 (k : Int)] W fun e w' => (∃ A c, e = .returned (.slice A lk c) ∧ NR w' A c (digs k)) ∧ Below W.heap.size W w') := fun W => by rw [← hlk]; exact refOfD_any k W (by omega)
      have HOJ : Hid (∀ W, Calls Tryz.prog 53 #[.int .u64 (n1 : Int)] W fun e w' => (∃ A c, e = .returned (.slice A lj c) ∧ NR w' A c (digs n1)) ∧ Below W.heap.size W w') := fun W => by rw [← hlj]; exact refOfD_any n1 W (by omega)
      have HTM : Hid (∀ A' c' B' d' W, NR W A' c' (digs (bin m j)) → NR W B' d' (digs k) → Calls Tryz.prog 128 #[.slice A' l c', .slice B' lk d'] W fun e w' => (∃ A c, e = .returned (.slice A lp c) ∧ NR w' A c (digs (bin m j * k))) ∧ Below W.heap.size W w') := fun A' c' B' d' W h1 h2 => by rw [← hlp]; exact timesD_any (sm_bin hm) (sm_small (by omega)) HL.out hlk h1 h2
      have HPT : Hid (∀ A' c' B' d' W, NR W A' c' (digs (bin m j * k)) → NR W B' d' (digs n1) → Calls Tryz.prog 131 #[.slice A' lp c', .slice B' lj d'] W fun e w' => (∃ A c B d lr, e = .returned (.tuple #[.slice A lq c, .slice B lr d]) ∧ NR w' A c (digs (bin m (j + 1)))) ∧ Below W.heap.size W w') := fun A' c' B' d' W h1 h2 => by
        have := partedD_any (x := bin m j * k) (y := n1) (sm_bin_mul hm (by omega)) (sm_small (by omega)) (by omega) hlp hlj h1 h2
        rwa [← hn1, bin_step hk, hlq] at this
      have HLQ := Lib.hid hlq
      have HN1 := Lib.hid hn1
      have tok : True := trivial
      clear hk hn1 hlk hlj hlp hlq
      go_wp2_with (first | (go_at_call 53; have _t := tok; (with_reducible refine (HOK.out _).mono ?_); rintro e w3 ⟨⟨A3, c3, rfl, hr3⟩, hb3⟩; have R3 := Lib.hid hr3; have D3 := bel_on hbel hb3; have HR3 := Lib.hid (HR.out.below hb3); clear tok hr3 hb3) | (go_at_call 128; (with_reducible refine (HTM.out _ _ _ _ _ HR3.out R3.out).mono ?_); rintro e w4 ⟨⟨A4, c4, rfl, hr4⟩, hb4⟩; have R4 := Lib.hid hr4; have D4 := bel_on D3 hb4; clear hr4 hb4) | (go_at_call 53; (with_reducible refine (HOJ.out _).mono ?_); rintro e w5 ⟨⟨A5, c5, rfl, hr5⟩, hb5⟩; have R5 := Lib.hid hr5; have D5 := bel_on D4 hb5; have HR5 := Lib.hid (R4.out.below hb5); clear hr5 hb5) | (go_at_call 131; (with_reducible refine (HPT.out _ _ _ _ _ HR5.out R5.out).mono ?_); rintro e w6 ⟨⟨A6, c6, B6, d6, lr, rfl, hr6⟩, hb6⟩; have R6 := Lib.hid hr6; have D6 := bel_on D5 hb6; clear hr6 hb6))
      go_roundw
      case rel => exact ⟨j + 1, lq, A6, c6, by omega, by go_num, rfl, HLQ.out, R6.out, D6⟩
      case measure => simp [intOf]; omega
    · obtain rfl : j = i := by omega
      have hji : (j : Int) ≤ j := Int.le_refl _
      go_wp2_with fail
      go_ret
      exact ⟨⟨A, c, by rw [HL.out]; rfl, HR.out⟩, hbel⟩
end Go.Proofs.YtenpkmgbaajeeaaGreat

/- Tails: the reference's. -/
namespace Go.Proofs.YtenpkmgbaajeeaaGreat
open Go.RowKit
set_option linter.unusedVariables false
set_option linter.unusedSimpArgs false

set_option maxHeartbeats 4000000 in
set_option maxRecDepth 100000 in
theorem refChoose_any (m : Nat) (b : Int) (w : World) (hm : m ≤ 150) :
    Calls Tryz.prog 156 #[.int .i64 (m : Int), .int .i64 b] w fun e w' => (∃ A c, e = .returned (.slice A (digs (chS m b)).length c) ∧ NR w' A c (digs (chS m b))) ∧ Below w.heap.size w w' := by
  by_cases h : b < 0 ∨ (m : Int) < b
  · have HS : Hid (chS m b = 0) := by rcases h with h | h; exact chS_neg h; exact chS_above h
    have hmi : (m : Int) ≤ 150 := by omega
    clear hm
    go_enter Tryz.func156, Tryz.ntmps156
    go_wp2_with fail
    all_goals first | omega | (go_ret; exact ⟨⟨none, 0, by rw [HS.out]; rfl, by rw [HS.out]; exact NR.nil _⟩, Below.refl _ _⟩)
  · obtain ⟨i, rfl⟩ : ∃ i : Nat, b = (i : Int) := ⟨b.toNat, by omega⟩
    rw [chS_nat]
    exact choose_any m i w hm (by omega)
end Go.Proofs.YtenpkmgbaajeeaaGreat

/- Thresholds: both sides. -/
namespace Go.Proofs.YtenpkmgbaajeeaaGreat
open Go.RowKit
set_option linter.unusedVariables false
set_option linter.unusedSimpArgs false

theorem dig12 {n : Nat} (h : n ≤ 2 ^ 150) : (digs n).length ≤ 12 := digs_len_le (Nat.lt_of_le_of_lt h (by decide +kernel))
theorem all12 {d : Nat} (h : d ≤ 64) : (digs (bin (2 * d) d)).length ≤ 12 := dig12 (Nat.le_trans (bin_le _ _) (Nat.pow_le_pow_right (by omega) (by omega)))
theorem divs12 {d k i : Nat} (h : d ≤ 64) (hk : k ≤ 2 * d) (hi : i ≤ k + 1) : (digs (divsN d k i)).length ≤ 12 := Nat.le_trans (digs_len_mono (divsN_le hk hi)) (all12 h)
/-- The threshold of a valid code. -/
def StV.th (s : StV) (k : Nat) : Int := thS s.b.toNat k (val s.x) (val s.y)

set_option maxHeartbeats 8000000 in
set_option maxRecDepth 100000 in
theorem threshold_any (s : StV) (k : Nat) (w : World) (h : StOK w s) (hok : s.ok = true) (hk : (k : Int) ≤ 2 * s.b) :
    Calls Tryz.prog 100 #[.agg s.cs.toArray, .int .i64 (k : Int)] w fun e w' => e = .returned (.int .i64 (s.th k)) ∧ Below w.heap.size w w' := by
  obtain ⟨⟨q1, q2, q3, q4⟩, hl⟩ := StV.parts hok
  obtain ⟨d, hd⟩ : ∃ d : Nat, s.b = (d : Int) := ⟨s.b.toNat, by omega⟩
  have hT : s.th k = thS d k (val s.x) (val s.y) := by unfold StV.th; rw [hd, Int.toNat_natCast]
  rw [hT]
  have h1 : 1 ≤ d := by omega
  have h2 : d ≤ 64 := by omega
  have h3 : k ≤ 2 * d := by omega
  have hks := h.k16
  obtain ⟨n, hn⟩ : ∃ n, k + n = 2 * d := ⟨2 * d - k, by omega⟩
  have hn2 : 2 * d - k = n := by omega
  have hki : (k : Int) ≤ 128 := by omega
  have hdi : (d : Int) ≤ 64 := by omega
  obtain ⟨P, hP⟩ : ∃ P, P = underB d k (val s.x) (val s.y) := ⟨_, rfl⟩
  have hPu : ∀ i, P i = decide (divsN d k (i + 1) * val s.y ≤ val s.x * bin (2 * d) d) := fun i => by rw [hP]; rfl
  have HTH : Hid (thS d k (val s.x) (val s.y) = (lead P (k + 1) : Int) - 1) := by unfold Hid; rw [hP]; rfl
  have HSM : Hid (∀ i, i ≤ k + 1 → Sm (divsN d k i)) := fun i hi => (sm_all h2).mono (divsN_le h3 hi)
  have HPK : Hid (∀ i, divsN d k (i + 1) = divsN d k i + pick k n d i) := fun i => by rw [divsN_succ, hn2]
  have HWI : Hid (∀ i, i < k + 1 → ∀ W A' c' B' e', Below w.heap.size w W → NR W A' c' (digs (divsN d k (i + 1))) → NR W B' e' (digs (bin (2 * d) d)) → Calls Tryz.prog 132 #[.slice A' (digs (divsN d k (i + 1))).length c', .slice B' (digs (bin (2 * d) d)).length e', .agg #[.slice s.A s.x.length s.ca, .slice s.Bd s.y.length s.cb]] W fun e w' => e = .returned (.bool (P i)) ∧ Below W.heap.size W w') := fun i hi W A' c' B' e' hW g1 g2 => by
    have := within_any (divsN d k (i + 1)) (bin (2 * d) d) A' c' B' e' s.A s.ca s.x s.Bd s.cb s.y W rfl rfl rfl rfl g1 g2 (h.hx.below hW) (h.hy.below hW) hl (divs12 h2 h3 (by omega)) (all12 h2)
    rwa [← hPu] at this
  have HDV : Hid (∀ W, Calls Tryz.prog 106 #[.int .i64 (d : Int), .int .i64 (k : Int)] W fun e w' => (∃ M cm O co, e = .returned (.agg (divC d k n M cm O co)) ∧ DivR W.heap.size w' k n M cm O co) ∧ Below W.heap.size W w') := fun W => divided_any d k n W h2 hn
  have HWT : Hid (∀ i, i ≤ k → ∀ B M cm O co W, DivR B W k n M cm O co → Calls Tryz.prog 109 #[.agg (divC d k n M cm O co), .int .i64 (i : Int)] W fun e w' => (∃ X x', e = .returned (.slice X (digs (pick k n d i)).length x') ∧ NR w' X x' (digs (pick k n d i))) ∧ Below W.heap.size W w') := fun i hi B M cm O co W hW => with_any d k n i M cm O co W hW h2 hn (by omega)
  have HAL : Hid (∀ M cm O co W, Calls Tryz.prog 110 #[.agg (divC d k n M cm O co)] W fun e w' => (∃ X x', e = .returned (.slice X (digs (bin (2 * d) d)).length x') ∧ NR w' X x' (digs (bin (2 * d) d))) ∧ Below W.heap.size W w') := fun M cm O co W => all_any d k n M cm O co W h2
  have HMU : Hid (∀ A n c W, Calls Tryz.prog 107 #[.slice A n c, .int .i64 0] W fun e w' => e = .returned (.slice A n c) ∧ Below W.heap.size W w') := fun A n c W => must_any A n c 0 W
  obtain ⟨W0, hW0⟩ : ∃ W : World, W = w.alloc (.cells s.cs.toArray 29) := ⟨_, rfl⟩
  have b0 : Hid (Below w.heap.size w W0) := by unfold Hid; rw [hW0]; exact alloc_below _ _
  have x0 : Hid (Blk W0 w.heap.size 29 s.cs.toArray) := by unfold Hid; rw [hW0]; exact Blk.new w _ _
  obtain ⟨k0, k1, k18, k19⟩ := StV.cells hks x0.out
  have HCL : Hid (∀ W, Below W0.heap.size W0 W → W.cell? ⟨w.heap.size, 1, none⟩ = some (.int .i64 (d : Int)) ∧ W.cell? ⟨w.heap.size, 18, none⟩ = some (.slice s.A s.x.length s.ca) ∧ W.cell? ⟨w.heap.size, 19, none⟩ = some (.slice s.Bd s.y.length s.cb)) := fun W hW => by
    obtain ⟨_, g1, g2, g3⟩ := StV.cells hks (x0.out.below' hW)
    rw [hd] at g1
    exact ⟨g1, g2, g3⟩
  rw [hd] at k1
  have HW0 := Lib.hid hW0
  obtain ⟨cs, hcs⟩ : ∃ c, s.cs.toArray = c := ⟨_, rfl⟩
  rw [hcs] at HW0 ⊢
  obtain ⟨SA, hA⟩ : ∃ A, s.A = A := ⟨_, rfl⟩
  obtain ⟨SB, hB⟩ : ∃ A, s.Bd = A := ⟨_, rfl⟩
  obtain ⟨sx, hsx⟩ : ∃ n, s.x.length = n := ⟨_, rfl⟩
  obtain ⟨sy, hsy⟩ : ∃ n, s.y.length = n := ⟨_, rfl⟩
  obtain ⟨sca, hca⟩ : ∃ n, s.ca = n := ⟨_, rfl⟩
  obtain ⟨scb, hcb⟩ : ∃ n, s.cb = n := ⟨_, rfl⟩
  rw [hA, hsx, hca] at HCL HWI
  rw [hB, hsy, hcb] at HCL HWI
  obtain ⟨la, hla⟩ : ∃ l, (digs (bin (2 * d) d)).length = l := ⟨_, rfl⟩
  rw [hla] at HAL HWI
  clear hT h hok hl q1 q2 q3 q4 hd h1 h2 h3 hk hn hn2 hP hPu hW0 hcs hA hB hsx hsy hca hcb hla hks x0 k0
  go_enter Tryz.func100, Tryz.ntmps100
  go_wp2_with (first
    | (rw [← HW0.out])
    | (go_at_call 106; (with_reducible refine (HDV.out _).mono ?_); rintro e w1 ⟨⟨M, cm, O, co, rfl, hr⟩, hb⟩; have R1 := Lib.hid hr; have D1 := Lib.hid hb; clear hr hb)
    | (refine wpList_store_row rfl 150 (.tmp 5) (.tmp 12) rfl w1.heap.size (divC d k n M cm O co) rfl rfl 150 #[.int .i64 0, .slice none 0 0, .slice none 0 0] (Blk.new w1 _ _) (by kernel_rfl) rfl (by simp [divC, Value.oneCell']) ?_; obtain ⟨w2, hV⟩ : ∃ W, W = (w1.alloc (.cells #[.int .i64 0, .slice none 0 0, .slice none 0 0] 150)).setRow w1.heap.size (divC d k n M cm O co) := ⟨_, rfl⟩; rw [← hV]; obtain ⟨gb, nb⟩ := box2_ _ _ _ _ hV; have D2 := Lib.hid (bel_on D1.out gb); have R2 := Lib.hid (R1.out.below gb); have G2 := Lib.hid nb; clear hV gb nb)
    | (refine wpList_load_row rfl 150 (.tmp 5) rfl (w1.heap.size) rfl 150 (divC d k n M cm O co) (0, 0) _ G2.out Tryz.underlying150 rfl (by kernel_rfl) ?_)
    | (go_at_call 110; (with_reducible refine (HAL.out _ _ _ _ _).mono ?_); rintro e w3 ⟨⟨LA, lc, rfl, hp⟩, hb⟩; have A3 := Lib.hid hp; have G3 := Lib.hid (G2.out.below' hb); have R3 := Lib.hid (R2.out.below hb); have D3 := Lib.hid (bel_on D2.out hb); clear hp hb))
  go_loopw [7, 8] (fun vs vi wr => ∃ (i ls s : Nat) (S : Option Addr), i ≤ k + 1 ∧ vi = .int .i64 (i : Int) ∧ vs = .slice S ls s ∧ Hid ((digs (divsN d k i)).length = ls) ∧ Hid (NR wr S s (digs (divsN d k i))) ∧ Hid (lead P i = i) ∧ Below w3.heap.size w3 wr) (fun _ vi _ => k + 1 - (intOf vi).toNat)
  case atStart => exact ⟨0, 0, 0, none, by omega, rfl, rfl, rfl, NR.nil _, rfl, Below.refl _ _⟩
  case round =>
    obtain ⟨i, ls, z, S, hi, rfl, rfl, HLS, HRS, HLD, hbel⟩ := hrel
    by_cases hlt : i < k + 1
    · have hii : (i : Int) ≤ k := by omega
      have hik : i ≤ k := by omega
      obtain ⟨lp, hlp⟩ : ∃ l, (digs (pick k n d i)).length = l := ⟨_, rfl⟩
      obtain ⟨ls2, hls2⟩ : ∃ l, (digs (divsN d k (i + 1))).length = l := ⟨_, rfl⟩
      have HW1 := Lib.hid (HWT.out i hik)
      rw [hlp] at HW1
      have HW2 := Lib.hid (HWI.out i hlt)
      rw [hls2] at HW2
      have HAD : Hid (∀ A' c' W, NR W S z (digs (divsN d k i)) → NR W A' c' (digs (pick k n d i)) → Calls Tryz.prog 108 #[.slice S ls z, .slice A' lp c'] W fun e w' => (∃ X x, e = .returned (.tuple #[.slice X ls2 x, .int .i64 0]) ∧ NR w' X x (digs (divsN d k (i + 1)))) ∧ Below W.heap.size W w') := fun A' c' W g1 g2 => by
        have e := HPK.out i
        have hs := HSM.out (i + 1) (by omega)
        rw [e] at hs
        have := addD_any (x := divsN d k i) (y := pick k n d i) hs HLS.out hlp g1 g2
        rwa [← e, hls2] at this
      have HLS2 := Lib.hid hls2
      have B2 := Lib.hid (G3.out.below' hbel)
      have R4 := Lib.hid (R3.out.below hbel)
      clear hlp hls2
      cases hPi : P i with
      | true =>
        have HG := Lib.hid (lead_go HLD.out hPi)
        rw [hPi] at HW2
        clear hPi
        go_wp2_with (first
          | (refine wpList_load_row rfl 150 (.tmp 5) rfl (w1.heap.size) rfl 150 (divC d k n M cm O co) (0, 0) _ B2.out Tryz.underlying150 rfl (by kernel_rfl) ?_)
          | (go_at_call 109; (with_reducible refine (HW1.out _ _ _ _ _ _ R4.out).mono ?_); rintro e w4 ⟨⟨P3, p3, rfl, hp⟩, hb⟩; have P4 := Lib.hid hp; have S4 := Lib.hid (HRS.out.below hb); have D4 := Lib.hid (bel_on hbel hb); clear hp hb)
          | (go_at_call 108; (with_reducible refine (HAD.out _ _ _ S4.out P4.out).mono ?_); rintro e w5 ⟨⟨S5, s5, rfl, hp⟩, hb⟩; have S6 := Lib.hid hp; have D5 := Lib.hid (bel_on D4.out hb); clear hp hb)
          | (go_at_call 107; (with_reducible refine (HMU.out _ _ _ _).mono ?_); rintro e w6 ⟨rfl, hb⟩; have S7 := Lib.hid (S6.out.below hb); have D6 := Lib.hid (bel_on D5.out hb); have A6 := Lib.hid (A3.out.below (bel_on D5.out hb)); clear hb; have E6 := Lib.hid (bel_on D3.out D6.out); obtain ⟨c1, c18, c19⟩ := HCL.out _ E6.out)
          | (go_at_call 132; (with_reducible refine (HW2.out _ _ _ _ _ (bel_on b0.out E6.out) S7.out A6.out).mono ?_); rintro e w7 ⟨rfl, hb⟩; have S8 := Lib.hid (S7.out.below hb); have D7 := Lib.hid (bel_on D6.out hb); clear hb))
        go_roundw
        case rel => exact ⟨i + 1, ls2, s5, S5, by omega, by go_num, rfl, HLS2.out, S8.out, HG.out, D7.out⟩
        case measure => simp [intOf]; omega
      | false =>
        have HG := Lib.hid (lead_stop (n := k + 1) HLD.out hPi hlt)
        rw [hPi] at HW2
        clear hPi
        go_wp2_with (first
          | (refine wpList_load_row rfl 150 (.tmp 5) rfl (w1.heap.size) rfl 150 (divC d k n M cm O co) (0, 0) _ B2.out Tryz.underlying150 rfl (by kernel_rfl) ?_)
          | (go_at_call 109; (with_reducible refine (HW1.out _ _ _ _ _ _ R4.out).mono ?_); rintro e w4 ⟨⟨P3, p3, rfl, hp⟩, hb⟩; have P4 := Lib.hid hp; have S4 := Lib.hid (HRS.out.below hb); have D4 := Lib.hid (bel_on hbel hb); clear hp hb)
          | (go_at_call 108; (with_reducible refine (HAD.out _ _ _ S4.out P4.out).mono ?_); rintro e w5 ⟨⟨S5, s5, rfl, hp⟩, hb⟩; have S6 := Lib.hid hp; have D5 := Lib.hid (bel_on D4.out hb); clear hp hb)
          | (go_at_call 107; (with_reducible refine (HMU.out _ _ _ _).mono ?_); rintro e w6 ⟨rfl, hb⟩; have S7 := Lib.hid (S6.out.below hb); have D6 := Lib.hid (bel_on D5.out hb); have A6 := Lib.hid (A3.out.below (bel_on D5.out hb)); clear hb; have E6 := Lib.hid (bel_on D3.out D6.out); obtain ⟨c1, c18, c19⟩ := HCL.out _ E6.out)
          | (go_at_call 132; (with_reducible refine (HW2.out _ _ _ _ _ (bel_on b0.out E6.out) S7.out A6.out).mono ?_); rintro e w7 ⟨rfl, hb⟩; have D7 := Lib.hid (bel_on D6.out hb); clear hb))
        go_ret
        refine ⟨ret_int' ?_, bel_on b0.out (bel_on D3.out D7.out)⟩
        rw [HTH.out, HG.out] <;> omega
    · obtain rfl : i = k + 1 := by omega
      have hx : ¬ (((k + 1 : Nat) : Int) ≤ k) := by omega
      have hx2 : ¬ ((k : Int) + 1 ≤ k) := by omega
      go_wp2_with fail
      go_ret
      refine ⟨ret_int' ?_, bel_on b0.out (bel_on D3.out hbel)⟩
      rw [HTH.out, HLD.out] <;> omega
end Go.Proofs.YtenpkmgbaajeeaaGreat

/- Thresholds: the reference's; Threshold: both sides. -/
namespace Go.Proofs.YtenpkmgbaajeeaaGreat
open Go.RowKit
set_option linter.unusedVariables false
set_option linter.unusedSimpArgs false

set_option maxHeartbeats 8000000 in
set_option maxRecDepth 100000 in
theorem refThresholdOf_any (s : StV) (k : Nat) (w : World) (h : StOK w s) (hok : s.ok = true) (hk : (k : Int) ≤ 2 * s.b) :
    Calls Tryz.prog 125 #[.agg s.cs.toArray, .int .i64 (k : Int)] w fun e w' => e = .returned (.int .i64 (s.th k)) ∧ Below w.heap.size w w' := by
  obtain ⟨⟨q1, q2, q3, q4⟩, hl⟩ := StV.parts hok
  obtain ⟨d, hd⟩ : ∃ d : Nat, s.b = (d : Int) := ⟨s.b.toNat, by omega⟩
  have hT : s.th k = thS d k (val s.x) (val s.y) := by unfold StV.th; rw [hd, Int.toNat_natCast]
  rw [hT]
  have h1 : 1 ≤ d := by omega
  have h2 : d ≤ 64 := by omega
  have h3 : k ≤ 2 * d := by omega
  have hks := h.k16
  obtain ⟨n, hn⟩ : ∃ n, k + n = 2 * d := ⟨2 * d - k, by omega⟩
  have hn2 : 2 * d - k = n := by omega
  have hki : (k : Int) ≤ 128 := by omega
  have hdi : (d : Int) ≤ 64 := by omega
  obtain ⟨P, hP⟩ : ∃ P, P = underB d k (val s.x) (val s.y) := ⟨_, rfl⟩
  have hPu : ∀ i, P i = decide (divsN d k (i + 1) * val s.y ≤ val s.x * bin (2 * d) d) := fun i => by rw [hP]; rfl
  have HTH : Hid (thS d k (val s.x) (val s.y) = (lead P (k + 1) : Int) - 1) := by unfold Hid; rw [hP]; rfl
  have HSM : Hid (∀ i, i ≤ k + 1 → Sm (divsN d k i)) := fun i hi => (sm_all h2).mono (divsN_le h3 hi)
  have HPK : Hid (∀ i, divsN d k (i + 1) = divsN d k i + pick k n d i) := fun i => by rw [divsN_succ, hn2]
  have HWI : Hid (∀ i, i < k + 1 → ∀ W A' c' B' e', Below w.heap.size w W → NR W A' c' (digs (divsN d k (i + 1))) → NR W B' e' (digs (bin (2 * d) d)) → Calls Tryz.prog 133 #[.slice A' (digs (divsN d k (i + 1))).length c', .slice B' (digs (bin (2 * d) d)).length e', .agg #[.slice s.A s.x.length s.ca, .slice s.Bd s.y.length s.cb]] W fun e w' => e = .returned (.bool (P i)) ∧ Below W.heap.size W w') := fun i hi W A' c' B' e' hW g1 g2 => by
    have := refWithin_any (divsN d k (i + 1)) (bin (2 * d) d) A' c' B' e' s.A s.ca s.x s.Bd s.cb s.y W rfl rfl rfl rfl g1 g2 (h.hx.below hW) (h.hy.below hW) hl (divs12 h2 h3 (by omega)) (all12 h2)
    rwa [← hPu] at this
  have HC0 : Hid (∀ W, Calls Tryz.prog 156 #[.int .i64 ((2 * d : Nat) : Int), .int .i64 (d : Int)] W fun e w' => (∃ A c, e = .returned (.slice A (digs (bin (2 * d) d)).length c) ∧ NR w' A c (digs (bin (2 * d) d))) ∧ Below W.heap.size W w') := fun W => choose_any (2 * d) d W (by omega) (by omega)
  have HC1 : Hid (∀ i W, Calls Tryz.prog 156 #[.int .i64 (k : Int), .int .i64 ((i : Nat) : Int)] W fun e w' => (∃ A c, e = .returned (.slice A (digs (chS k (i : Int))).length c) ∧ NR w' A c (digs (chS k (i : Int)))) ∧ Below W.heap.size W w') := fun i W => refChoose_any k i W (by omega)
  have HC2 : Hid (∀ z W, Calls Tryz.prog 156 #[.int .i64 (n : Int), .int .i64 z] W fun e w' => (∃ A c, e = .returned (.slice A (digs (chS n z)).length c) ∧ NR w' A c (digs (chS n z))) ∧ Below W.heap.size W w') := fun z W => refChoose_any n z W (by omega)
  have HS1 : Hid (∀ z, Sm (chS k z)) := fun z => (sm_pow (m := 128) (by omega)).mono (Nat.le_trans (chS_le k z) (Nat.pow_le_pow_right (by omega) (by omega)))
  have HS2 : Hid (∀ z, Sm (chS n z)) := fun z => (sm_pow (m := 128) (by omega)).mono (Nat.le_trans (chS_le n z) (Nat.pow_le_pow_right (by omega) (by omega)))
  have e1 : IntKind.i64.wrap (2 * (d : Int)) = ((2 * d : Nat) : Int) := by rw [IntKind.wrap_i64]; omega
  have e2 : IntKind.i64.wrap (((2 * d : Nat) : Int) - (k : Int)) = (n : Int) := by rw [IntKind.wrap_i64]; omega
  obtain ⟨m, hm⟩ : ∃ m, 2 * d = m := ⟨_, rfl⟩
  obtain ⟨W0, hW0⟩ : ∃ W : World, W = w.alloc (.cells s.cs.toArray 29) := ⟨_, rfl⟩
  have b0 : Hid (Below w.heap.size w W0) := by unfold Hid; rw [hW0]; exact alloc_below _ _
  have x0 : Hid (Blk W0 w.heap.size 29 s.cs.toArray) := by unfold Hid; rw [hW0]; exact Blk.new w _ _
  obtain ⟨k0, k1, k18, k19⟩ := StV.cells hks x0.out
  have HCL : Hid (∀ W, Below W0.heap.size W0 W → W.cell? ⟨w.heap.size, 1, none⟩ = some (.int .i64 (d : Int)) ∧ W.cell? ⟨w.heap.size, 18, none⟩ = some (.slice s.A s.x.length s.ca) ∧ W.cell? ⟨w.heap.size, 19, none⟩ = some (.slice s.Bd s.y.length s.cb)) := fun W hW => by
    obtain ⟨_, g1, g2, g3⟩ := StV.cells hks (x0.out.below' hW)
    rw [hd] at g1
    exact ⟨g1, g2, g3⟩
  rw [hd] at k1
  have HW0 := Lib.hid hW0
  obtain ⟨cs, hcs⟩ : ∃ c, s.cs.toArray = c := ⟨_, rfl⟩
  rw [hcs] at HW0 ⊢
  obtain ⟨SA, hA⟩ : ∃ A, s.A = A := ⟨_, rfl⟩
  obtain ⟨SB, hB⟩ : ∃ A, s.Bd = A := ⟨_, rfl⟩
  obtain ⟨sx, hsx⟩ : ∃ n, s.x.length = n := ⟨_, rfl⟩
  obtain ⟨sy, hsy⟩ : ∃ n, s.y.length = n := ⟨_, rfl⟩
  obtain ⟨sca, hca⟩ : ∃ n, s.ca = n := ⟨_, rfl⟩
  obtain ⟨scb, hcb⟩ : ∃ n, s.cb = n := ⟨_, rfl⟩
  rw [hA, hsx, hca] at HCL HWI
  rw [hB, hsy, hcb] at HCL HWI
  obtain ⟨la, hla⟩ : ∃ l, (digs (bin (2 * d) d)).length = l := ⟨_, rfl⟩
  rw [hla] at HC0 HWI
  rw [hm] at HC0 e1 e2 HWI
  clear hT h hok hl q1 q2 q3 q4 hd h1 h2 h3 hk hn hn2 hP hPu hW0 hcs hA hB hsx hsy hca hcb hla hks x0 k0 hm
  go_enter Tryz.func125, Tryz.ntmps125
  go_wp2_with (first
    | (rw [← HW0.out])
    | (go_at_call 156; (with_reducible refine (HC0.out _).mono ?_); rintro e w3 ⟨⟨LA, lc, rfl, hp⟩, hb⟩; have A3 := Lib.hid hp; have D3 := Lib.hid hb; clear hp hb))
  go_loopw [6, 7] (fun vs vi wr => ∃ (i ls s : Nat) (S : Option Addr), i ≤ k + 1 ∧ vi = .int .i64 ((i : Int) - 1) ∧ vs = .slice S ls s ∧ Hid ((digs (divsN d k i)).length = ls) ∧ Hid (NR wr S s (digs (divsN d k i))) ∧ Hid (lead P i = i) ∧ Below w3.heap.size w3 wr) (fun _ vi _ => k + 1 - (intOf vi + 1).toNat)
  case atStart => exact ⟨0, 0, 0, none, by omega, rfl, rfl, rfl, NR.nil _, rfl, Below.refl _ _⟩
  case round =>
    obtain ⟨i, ls, z0, S, hi, rfl, rfl, HLS, HRS, HLD, hbel⟩ := hrel
    by_cases hlt : i < k + 1
    · have hii : (i : Int) - 1 < k := by omega
      have hik : i ≤ k := by omega
      have e5 : IntKind.i64.wrap (i : Int) = (i : Int) := by rw [IntKind.wrap_i64]; omega
      obtain ⟨z, hz⟩ : ∃ z, (d : Int) - (i : Int) = z := ⟨_, rfl⟩
      have e3 : IntKind.i64.wrap ((d : Int) - ((i : Int) - 1)) = z + 1 := by rw [IntKind.wrap_i64]; omega
      have e4 : IntKind.i64.wrap z = z := by rw [IntKind.wrap_i64]; omega
      have hpk : chS k (i : Int) * chS n z = pick k n d i := by rw [← hz]; exact pick_chS k n d i
      obtain ⟨l1, hl1⟩ : ∃ l, (digs (chS k (i : Int))).length = l := ⟨_, rfl⟩
      obtain ⟨l2, hl2⟩ : ∃ l, (digs (chS n z)).length = l := ⟨_, rfl⟩
      obtain ⟨lp, hlp⟩ : ∃ l, (digs (pick k n d i)).length = l := ⟨_, rfl⟩
      obtain ⟨ls2, hls2⟩ : ∃ l, (digs (divsN d k (i + 1))).length = l := ⟨_, rfl⟩
      have HD1 := Lib.hid (HC1.out i)
      have HD2 := Lib.hid (HC2.out z)
      rw [hl1] at HD1
      rw [hl2] at HD2
      have HW2 := Lib.hid (HWI.out i hlt)
      rw [hls2] at HW2
      have HTM : Hid (∀ A' c' B' d' W, NR W A' c' (digs (chS k (i : Int))) → NR W B' d' (digs (chS n z)) → Calls Tryz.prog 128 #[.slice A' l1 c', .slice B' l2 d'] W fun e w' => (∃ A c, e = .returned (.slice A lp c) ∧ NR w' A c (digs (pick k n d i))) ∧ Below W.heap.size W w') := fun A' c' B' d' W g1 g2 => by
        have := timesD_any (HS1.out (i : Int)) (HS2.out z) hl1 hl2 g1 g2
        rwa [hpk, hlp] at this
      have HAD : Hid (∀ A' c' W, NR W S z0 (digs (divsN d k i)) → NR W A' c' (digs (pick k n d i)) → Calls Tryz.prog 81 #[.slice S ls z0, .slice A' lp c'] W fun e w' => (∃ X x, e = .returned (.slice X ls2 x) ∧ NR w' X x (digs (divsN d k (i + 1)))) ∧ Below W.heap.size W w') := fun A' c' W g1 g2 => by
        have e := HPK.out i
        have hs := HSM.out (i + 1) (by omega)
        rw [e] at hs
        have := plusD_any (x := divsN d k i) (y := pick k n d i) hs HLS.out hlp g1 g2
        rwa [← e, hls2] at this
      have HLS2 := Lib.hid hls2
      have HC := Lib.hid (HCL.out _ (bel_on D3.out hbel))
      generalize digs (chS k (i : Int)) = d1 at HD1 HTM
      generalize digs (chS n z) = d2 at HD2 HTM
      clear hz hpk hl1 hl2 hlp hls2
      go_wp2_with fail

      have HS : Hid (∀ W, Below wr.heap.size wr W → W.cell? ⟨w.heap.size, 1, none⟩ = some (.int .i64 (d : Int))) := fun W hW => (HCL.out _ (bel_on D3.out (bel_on hbel hW))).1
      have E0 : Below wr.heap.size wr wr := Below.refl _ _
      refine wp_region_noPanic ?_
      refine wp_region_held_drew (S := fun W => W.cell? ⟨w.heap.size, 1, none⟩ = some (.int .i64 (d : Int))) (by kernel_rfl) (HS.out _ E0.drew) (fun hS => ?_)
      have E0 := E0.drew
      refine hd_take 0 (_) rfl rfl (by kernel_rfl) (by kernel_rfl) (by kernel_rfl) (fun _ _ _ h => h) (fun w hw => by go_simp <;> rfl) hS ?_
      simp only [List.getElem_toArray, List.getElem_cons_succ, List.getElem_cons_zero, Act.put, List.setIfInBounds_toArray, List.set_cons_zero, List.set_cons_succ]
      refine hd_take 1 (_) rfl rfl (by kernel_rfl) (by kernel_rfl) (by kernel_rfl) (fun _ _ _ h => h) (fun w hw => by go_simp <;> rfl) hS ?_
      simp only [List.getElem_toArray, List.getElem_cons_succ, List.getElem_cons_zero, Act.put, List.setIfInBounds_toArray, List.set_cons_zero, List.set_cons_succ]
      refine hd_take 2 (_) rfl rfl (by kernel_rfl) (by kernel_rfl) (by kernel_rfl) (fun _ _ _ h => h) (fun w hw => by go_simp <;> rfl) hS ?_
      simp only [List.getElem_toArray, List.getElem_cons_succ, List.getElem_cons_zero, Act.put, List.setIfInBounds_toArray, List.set_cons_zero, List.set_cons_succ]
      refine hd_take 3 (.int .i64 (i : Int)) rfl rfl (by kernel_rfl) (by kernel_rfl) (by kernel_rfl) (fun _ _ _ h => h) (fun w hw => by have hx := e5; simp [go_sem, hx]) hS ?_
      simp only [List.getElem_toArray, List.getElem_cons_succ, List.getElem_cons_zero, Act.put, List.setIfInBounds_toArray, List.set_cons_zero, List.set_cons_succ]
      refine hd_take 5 (_) rfl rfl (by kernel_rfl) (by kernel_rfl) (by kernel_rfl) (fun _ _ _ h => h) (fun w hw => by go_simp <;> rfl) hS ?_
      simp only [List.getElem_toArray, List.getElem_cons_succ, List.getElem_cons_zero, Act.put, List.setIfInBounds_toArray, List.set_cons_zero, List.set_cons_succ]
      refine hd_take 6 (.int .i64 (d : Int)) rfl rfl (by kernel_rfl) (by kernel_rfl) (by kernel_rfl) (fun _ _ _ h => h) (fun w hw => by have hx := hw; simp [go_sem, hx]) hS ?_
      simp only [List.getElem_toArray, List.getElem_cons_succ, List.getElem_cons_zero, Act.put, List.setIfInBounds_toArray, List.set_cons_zero, List.set_cons_succ]
      refine hd_take 7 (.int .i64 (m : Int)) rfl rfl (by kernel_rfl) (by kernel_rfl) (by kernel_rfl) (fun _ _ _ h => h) (fun w hw => by have hx := e1; simp [go_sem, hx]) hS ?_
      simp only [List.getElem_toArray, List.getElem_cons_succ, List.getElem_cons_zero, Act.put, List.setIfInBounds_toArray, List.set_cons_zero, List.set_cons_succ]
      refine hd_take 8 (_) rfl rfl (by kernel_rfl) (by kernel_rfl) (by kernel_rfl) (fun _ _ _ h => h) (fun w hw => by go_simp <;> rfl) hS ?_
      simp only [List.getElem_toArray, List.getElem_cons_succ, List.getElem_cons_zero, Act.put, List.setIfInBounds_toArray, List.set_cons_zero, List.set_cons_succ]
      refine hd_take 9 (.int .i64 (n : Int)) rfl rfl (by kernel_rfl) (by kernel_rfl) (by kernel_rfl) (fun _ _ _ h => h) (fun w hw => by have hx := e2; simp [go_sem, hx]) hS ?_
      simp only [List.getElem_toArray, List.getElem_cons_succ, List.getElem_cons_zero, Act.put, List.setIfInBounds_toArray, List.set_cons_zero, List.set_cons_succ]
      refine hd_take 10 (_) rfl rfl (by kernel_rfl) (by kernel_rfl) (by kernel_rfl) (fun _ _ _ h => h) (fun w hw => by go_simp <;> rfl) hS ?_
      simp only [List.getElem_toArray, List.getElem_cons_succ, List.getElem_cons_zero, Act.put, List.setIfInBounds_toArray, List.set_cons_zero, List.set_cons_succ]
      refine hd_take 11 (.int .i64 (d : Int)) rfl rfl (by kernel_rfl) (by kernel_rfl) (by kernel_rfl) (fun _ _ _ h => h) (fun w hw => by have hx := hw; simp [go_sem, hx]) hS ?_
      simp only [List.getElem_toArray, List.getElem_cons_succ, List.getElem_cons_zero, Act.put, List.setIfInBounds_toArray, List.set_cons_zero, List.set_cons_succ]
      refine hd_take 12 (_) rfl rfl (by kernel_rfl) (by kernel_rfl) (by kernel_rfl) (fun _ _ _ h => h) (fun w hw => by go_simp <;> rfl) hS ?_
      simp only [List.getElem_toArray, List.getElem_cons_succ, List.getElem_cons_zero, Act.put, List.setIfInBounds_toArray, List.set_cons_zero, List.set_cons_succ]
      refine hd_take 13 (.int .i64 (z + 1)) rfl rfl (by kernel_rfl) (by kernel_rfl) (by kernel_rfl) (fun _ _ _ h => h) (fun w hw => by have hx := e3; simp [go_sem, hx]) hS ?_
      simp only [List.getElem_toArray, List.getElem_cons_succ, List.getElem_cons_zero, Act.put, List.setIfInBounds_toArray, List.set_cons_zero, List.set_cons_succ]
      refine hd_take 14 (.int .i64 z) rfl rfl (by kernel_rfl) (by kernel_rfl) (by kernel_rfl) (fun _ _ _ h => h) (fun w hw => by have hx := e4; simp [go_sem, hx]) hS ?_
      simp only [List.getElem_toArray, List.getElem_cons_succ, List.getElem_cons_zero, Act.put, List.setIfInBounds_toArray, List.set_cons_zero, List.set_cons_succ]
      refine hd_calls 4 156 #[.int .i64 (k : Int), .int .i64 (i : Int)] rfl rfl (by kernel_rfl) (by go_simp <;> rfl) ?_
      refine (HD1.out _).mono ?_
      rintro e y1 ⟨⟨oA, oc, rfl, ho⟩, hb⟩
      have E1_ := bel_on E0 hb
      have hS1_ := HS.out _ E1_
      clear hb
      refine ⟨_, rfl, hS1_, ?_⟩
      simp only [List.getElem_toArray, List.getElem_cons_succ, List.getElem_cons_zero, Act.put, List.setIfInBounds_toArray, List.set_cons_zero, List.set_cons_succ]
      refine hd_calls 15 156 #[.int .i64 (n : Int), .int .i64 z] rfl rfl (by kernel_rfl) (by go_simp <;> rfl) ?_
      refine (HD2.out _).mono ?_
      rintro e y2 ⟨⟨qA, qc, rfl, hq⟩, hb⟩
      have E2_ := bel_on E1_ hb
      have hS2_ := HS.out _ E2_
      have ho := ho.below hb
      clear hb
      refine ⟨_, rfl, hS2_, ?_⟩
      simp only [List.getElem_toArray, List.getElem_cons_succ, List.getElem_cons_zero, Act.put, List.setIfInBounds_toArray, List.set_cons_zero, List.set_cons_succ]
      refine hd_calls 16 128 #[.slice oA l1 oc, .slice qA l2 qc] rfl rfl (by kernel_rfl) (by go_simp <;> rfl) ?_
      refine (HTM.out _ _ _ _ _ ho hq).mono ?_
      rintro e y3 ⟨⟨pA, pc, rfl, hp⟩, hb⟩
      have E3_ := bel_on E2_ hb
      have hS3_ := HS.out _ E3_
      clear hb
      refine ⟨_, rfl, hS3_, ?_⟩
      simp only [List.getElem_toArray, List.getElem_cons_succ, List.getElem_cons_zero, Act.put, List.setIfInBounds_toArray, List.set_cons_zero, List.set_cons_succ]
      refine hd_calls 17 81 #[.slice S ls z0, .slice pA lp pc] rfl rfl (by kernel_rfl) (by go_simp <;> rfl) ?_
      refine (HAD.out _ _ _ (HRS.out.below E3_) hp).mono ?_
      rintro e y4 ⟨⟨S5, s5, rfl, hs⟩, hb⟩
      have E4_ := bel_on E3_ hb
      have hS4_ := HS.out _ E4_
      clear hb
      refine ⟨_, rfl, hS4_, ?_⟩
      simp only [List.getElem_toArray, List.getElem_cons_succ, List.getElem_cons_zero, Act.put, List.setIfInBounds_toArray, List.set_cons_zero, List.set_cons_succ]
      refine hd_take 18 (_) rfl rfl (by kernel_rfl) (by kernel_rfl) (by kernel_rfl) (fun _ _ _ h => h) (fun w hw => by go_simp <;> rfl) hS4_ ?_
      simp only [List.getElem_toArray, List.getElem_cons_succ, List.getElem_cons_zero, Act.put, List.setIfInBounds_toArray, List.set_cons_zero, List.set_cons_succ]
      refine wpAnyH_done (by kernel_rfl) (NoPanic.normal ?_) _
      have D4 := Lib.hid (bel_on hbel E4_)
      have S7 := Lib.hid hs
      have A6 := Lib.hid (A3.out.below D4.out)
      have E6 := Lib.hid (bel_on D3.out D4.out)
      obtain ⟨c1, c18, c19⟩ := HCL.out _ E6.out
      clear hS HS E0 ho hq hp hs hS1_ hS2_ hS3_ hS4_ E1_ E2_ E3_ E4_
      cases hPi : P i with
      | true =>
        have HG := Lib.hid (lead_go HLD.out hPi)
        rw [hPi] at HW2
        clear hPi
        go_wp2_with (first
          | (go_at_call 133; (with_reducible refine (HW2.out _ _ _ _ _ (bel_on b0.out E6.out) S7.out A6.out).mono ?_); rintro e w7 ⟨rfl, hb⟩; have S8 := Lib.hid (S7.out.below hb); have D7 := Lib.hid (bel_on D4.out hb); clear hb))
        go_roundw
        case rel => exact ⟨i + 1, ls2, s5, S5, by omega, by go_num, rfl, HLS2.out, S8.out, HG.out, D7.out⟩
        case measure => simp [intOf]; omega
      | false =>
        have HG := Lib.hid (lead_stop (n := k + 1) HLD.out hPi hlt)
        rw [hPi] at HW2
        clear hPi
        go_wp2_with (first
          | (go_at_call 133; (with_reducible refine (HW2.out _ _ _ _ _ (bel_on b0.out E6.out) S7.out A6.out).mono ?_); rintro e w7 ⟨rfl, hb⟩; have D7 := Lib.hid (bel_on D4.out hb); clear hb))
        go_ret
        refine ⟨ret_int' ?_, bel_on b0.out (bel_on D3.out D7.out)⟩
        rw [HTH.out, HG.out] <;> omega
    · obtain rfl : i = k + 1 := by omega
      have hx : ¬ (((k + 1 : Nat) : Int) - 1 < k) := by omega
      have hx2 : ¬ ((k : Int) + 1 - 1 < k) := by omega
      go_wp2_with fail
      go_ret
      refine ⟨ret_int' ?_, bel_on b0.out (bel_on D3.out hbel)⟩
      rw [HTH.out, HLD.out] <;> omega
/-- A threshold, or the error. -/
def thrS (s : StV) (k : Int) : Int × Int := if s.ok = true then (if k < 0 ∨ 2 * s.b < k then (0, 2) else (s.th k.toNat, 0)) else (0, 70)

set_option maxHeartbeats 8000000 in
set_option maxRecDepth 100000 in
theorem Threshold_any (s : StV) (k : Int) (w : World) (h : StOK w s) :
    Calls Tryz.prog 50 #[.agg s.cs.toArray, .int .i64 k] w fun e w' => e = .returned (.tuple #[.int .i64 (thrS s k).1, .int .i64 (thrS s k).2]) ∧ Below w.heap.size w w' := by
  have HCK : Hid (∀ W, Below w.heap.size w W → Calls Tryz.prog 21 #[.agg s.cs.toArray] W fun e w' => e = .returned (.int .i64 (ckSt s.ok)) ∧ Below W.heap.size W w') := fun W hW => CheckSteps_any s W (h.below hW)
  have HTO : Hid (∀ K : Nat, k = (K : Int) → s.ok = true → (K : Int) ≤ 2 * s.b → ∀ W, Below w.heap.size w W → Calls Tryz.prog 100 #[.agg s.cs.toArray, .int .i64 k] W fun e w' => e = .returned (.int .i64 (s.th K)) ∧ Below W.heap.size W w') := fun K hK hok hk W hW => by rw [hK]; exact threshold_any s K W (h.below hW) hok hk
  have hks := h.k16
  obtain ⟨W0, hW0⟩ : ∃ W : World, W = w.alloc (.cells s.cs.toArray 29) := ⟨_, rfl⟩
  have b0 : Hid (Below w.heap.size w W0) := by unfold Hid; rw [hW0]; exact alloc_below _ _
  have x0 : Hid (Blk W0 w.heap.size 29 s.cs.toArray) := by unfold Hid; rw [hW0]; exact Blk.new w _ _
  have HW0 := Lib.hid hW0
  have HIN := Lib.hid (StV.info (s := s) hks)
  have HCL : Hid (∀ W, Below W0.heap.size W0 W → W.cell? ⟨w.heap.size, 1, none⟩ = some (.int .i64 s.b)) := fun W hW => (StV.cells hks (x0.out.below' hW)).2.1
  clear hW0
  cases hok : s.ok with
  | false =>
    have HS : Hid (thrS s k = (0, 70)) := by unfold Hid thrS; rw [hok]; rfl
    rw [hok] at HCK
    rw [HS.out]
    generalize s.cs.toArray = cs at *
    clear h hks hok HTO
    go_enter Tryz.func50, Tryz.ntmps50
    go_wp2_with (first
      | (rw [← HW0.out])
      | (refine wpList_load_row rfl 29 (.tmp 2) rfl (w.heap.size) rfl 29 cs (0, 0) _ x0.out Tryz.underlying29 rfl HIN.out ?_)
      | (go_at_call 21; (with_reducible refine (HCK.out _ b0.out).mono ?_); rintro e w1 ⟨rfl, hb⟩; have D1 := Lib.hid (bel_on b0.out hb); clear hb; simp only [ckSt]))
    go_ret2
    exact ⟨rfl, D1.out⟩
  | true =>
    obtain ⟨⟨q1, q2, q3, q4⟩, _⟩ := StV.parts hok
    rw [hok] at HCK
    have HB : Hid (IntKind.i64.wrap (2 * s.b) = 2 * s.b) := by unfold Hid; rw [IntKind.wrap_i64]; omega
    by_cases hk : k < 0 ∨ 2 * s.b < k
    · have HS : Hid (thrS s k = (0, 2)) := by unfold Hid thrS; rw [hok, if_pos rfl, if_pos hk]
      rw [HS.out]
      have e1 := HB.out
      generalize s.cs.toArray = cs at *
      generalize s.b = b at *
      clear h hks hok HTO HS
      go_enter Tryz.func50, Tryz.ntmps50
      go_wp2_with (first
        | (rw [← HW0.out])
        | (refine wpList_load_row rfl 29 (.tmp 2) rfl (w.heap.size) rfl 29 cs (0, 0) _ x0.out Tryz.underlying29 rfl HIN.out ?_)
        | (go_at_call 21; (with_reducible refine (HCK.out _ b0.out).mono ?_); rintro e w1 ⟨rfl, hb⟩; have D1 := Lib.hid (bel_on b0.out hb); have c1 := HCL.out _ hb; clear hb; simp only [ckSt]))
      all_goals first | omega | (go_ret2; exact ⟨rfl, D1.out⟩)
    · obtain ⟨K, rfl⟩ : ∃ K : Nat, k = (K : Int) := ⟨k.toNat, by omega⟩
      have HS : Hid (thrS s (K : Int) = (s.th K, 0)) := by unfold Hid thrS; rw [hok, if_pos rfl, if_neg hk, Int.toNat_natCast]
      rw [HS.out]
      have e1 := HB.out
      have h1 : (K : Int) ≤ 2 * s.b := by omega
      have HT2 := Lib.hid (HTO.out K rfl hok h1)
      generalize s.th K = t at *
      generalize s.cs.toArray = cs at *
      generalize s.b = b at *
      clear h hks hok HTO HS hk
      go_enter Tryz.func50, Tryz.ntmps50
      go_wp2_with (first
        | (rw [← HW0.out])
        | (refine wpList_load_row rfl 29 (.tmp 2) rfl (w.heap.size) rfl 29 cs (0, 0) _ x0.out Tryz.underlying29 rfl HIN.out ?_)
        | (refine wpList_load_row rfl 29 (.tmp 2) rfl (w.heap.size) rfl 29 cs (0, 0) _ x1.out Tryz.underlying29 rfl HIN.out ?_)
        | (go_at_call 21; (with_reducible refine (HCK.out _ b0.out).mono ?_); rintro e w1 ⟨rfl, hb⟩; have D1 := Lib.hid (bel_on b0.out hb); have c1 := HCL.out _ hb; have x1 := Lib.hid (x0.out.below' hb); clear hb; simp only [ckSt])
        | (go_at_call 100; (with_reducible refine (HT2.out _ D1.out).mono ?_); rintro e w2 ⟨rfl, hb⟩; have D2 := Lib.hid (bel_on D1.out hb); clear hb))
      all_goals first | omega | (go_ret2; exact ⟨rfl, D2.out⟩)
end Go.Proofs.YtenpkmgbaajeeaaGreat
