/-
  Lemmas and contracts, joined.
-/
import Derived.Shelf.Abstract
import Derived.Test.YtenpkmgbaajeeaaGreatCt2
import Derived.Test.YtenpkmgbaajeeaaGreatCp2
import Derived.Test.YtenpkmgbaajeeaaGreatCp3
import Derived.Test.YtenpkmgbaajeeaaGreatCn4
import Derived.Test.YtenpkmgbaajeeaaGreatCp1
import Derived.Test.YtenpkmgbaajeeaaGreatCt1
import Derived.Test.YtenpkmgbaajeeaaGreatCc2
import Derived.Test.YtenpkmgbaajeeaaGreatCc3
set_option linter.unusedSimpArgs false
set_option linter.unusedVariables false
set_option linter.unnecessarySimpa false
/- Copies made to weights, in plain words. -/
namespace Go.Proofs.YtenpkmgbaajeeaaGreat
set_option linter.unusedVariables false

/-- The places i on of a block are marked while some are wanted. -/
def madeP (v w y0 : List UInt8) (n0 : Nat) : Nat → List UInt8 × Nat
  | 0 => (y0, n0)
  | i + 1 => if v.getD i 0 = 1 ∧ w.getD i 0 = 0 ∧ 0 < (madeP v w y0 n0 i).2 then ((madeP v w y0 n0 i).1.set i 1, (madeP v w y0 n0 i).2 - 1) else madeP v w y0 n0 i
def madeB (at_ : List Nat) (n B : Nat) (ws : List Nat) : Nat → List UInt8
  | 0 => List.replicate n 0
  | b + 1 => (madeP (stepWord at_ n (b * B)) (stepWord at_ n ((b + 1) * B)) (madeB at_ n B ws b) (ws.getD b 0) n).1
def madeS (at_ : List Nat) (n B : Nat) (ws : List Nat) (m : Nat) : List UInt8 := madeB at_ n B ws m
theorem madeP_yes {v w y0 : List UInt8} {n0 i : Nat} (h1 : v.getD i 0 = 1) (h2 : w.getD i 0 = 0) (h3 : 0 < (madeP v w y0 n0 i).2) : madeP v w y0 n0 (i + 1) = ((madeP v w y0 n0 i).1.set i 1, (madeP v w y0 n0 i).2 - 1) := by rw [madeP, if_pos ⟨h1, h2, h3⟩]
theorem madeP_no {v w y0 : List UInt8} {n0 i : Nat} (h : ¬ (v.getD i 0 = 1 ∧ w.getD i 0 = 0 ∧ 0 < (madeP v w y0 n0 i).2)) : madeP v w y0 n0 (i + 1) = madeP v w y0 n0 i := by rw [madeP, if_neg h]
theorem madeP_length (v w y0 : List UInt8) (n0 : Nat) : ∀ i, (madeP v w y0 n0 i).1.length = y0.length
  | 0 => rfl
  | i + 1 => by rw [madeP]; split <;> simp [madeP_length v w y0 n0 i]
theorem madeP_le (v w y0 : List UInt8) (n0 : Nat) : ∀ i, (madeP v w y0 n0 i).2 ≤ n0
  | 0 => Nat.le_refl _
  | i + 1 => by
    have := madeP_le v w y0 n0 i
    rw [madeP]; split
    · show _ - 1 ≤ n0; omega
    · exact this
theorem madeB_length (at_ : List Nat) (n B : Nat) (ws : List Nat) : ∀ b, (madeB at_ n B ws b).length = n
  | 0 => by simp [madeB]
  | b + 1 => by rw [madeB, madeP_length, madeB_length at_ n B ws b]
/-- Places of the block. -/
def inB (v w : List UInt8) (p : Nat) : Prop := v.getD p 0 = 1 ∧ w.getD p 0 = 0
instance (v w : List UInt8) (p : Nat) : Decidable (inB v w p) := by unfold inB; infer_instance
theorem set_getD (l : List UInt8) (i p : Nat) (x : UInt8) : (l.set i x).getD p 0 = if i = p ∧ i < l.length then x else l.getD p 0 := by
  rw [List.getD_eq_getElem?_getD, List.getElem?_set]
  by_cases h : i = p
  · subst h
    by_cases h2 : i < l.length
    · simp [h2]
    · simp [h2, List.getD_eq_getElem?_getD]
  · simp [h, List.getD_eq_getElem?_getD]
theorem madeP_get {v w y0 : List UInt8} {n0 : Nat} (p : Nat) : ∀ {i : Nat}, (¬ inB v w p ∨ i ≤ p) → (madeP v w y0 n0 i).1.getD p 0 = y0.getD p 0
  | 0, _ => rfl
  | i + 1, h => by
    have ih := madeP_get (v := v) (w := w) (y0 := y0) (n0 := n0) p (i := i) (by rcases h with h | h; exact .inl h; exact .inr (by omega))
    rw [madeP]
    split
    · rename_i h2
      rw [set_getD, if_neg, ih]
      rintro ⟨rfl, _⟩
      rcases h with h | h
      · exact h ⟨h2.1, h2.2.1⟩
      · omega
    · exact ih
theorem madeP_count {v w y0 : List UInt8} {n0 : Nat} (h0 : ∀ p, inB v w p → y0.getD p 0 = 0) : ∀ {i : Nat}, i ≤ y0.length →
    sumN (fun p => if inB v w p ∧ (madeP v w y0 n0 i).1.getD p 0 = 1 then 1 else 0) i + (madeP v w y0 n0 i).2 = n0 ∧ (madeP v w y0 n0 i).2 = n0 - sumN (fun p => if inB v w p then 1 else 0) i
  | 0, _ => by simp [sumN, madeP]
  | i + 1, hi => by
    obtain ⟨ih1, ih2⟩ := madeP_count (n0 := n0) h0 (i := i) (by omega)
    have hl := madeP_length v w y0 n0 i
    rw [sumN_succ, sumN_succ]
    by_cases hb : inB v w i
    · rw [if_pos hb]
      have h0i : (madeP v w y0 n0 i).1.getD i 0 = 0 := by rw [madeP_get i (.inr (Nat.le_refl _))]; exact h0 i hb
      by_cases h2 : 0 < (madeP v w y0 n0 i).2
      · rw [madeP_yes hb.1 hb.2 h2]
        have e : sumN (fun p => if inB v w p ∧ ((madeP v w y0 n0 i).1.set i 1).getD p 0 = 1 then 1 else 0) i = sumN (fun p => if inB v w p ∧ (madeP v w y0 n0 i).1.getD p 0 = 1 then 1 else 0) i := sumN_congr fun p hp => by
          rw [set_getD, if_neg (show ¬ (i = p ∧ i < (madeP v w y0 n0 i).1.length) by omega)]
        dsimp only
        rw [e, set_getD, if_pos (show i = i ∧ i < (madeP v w y0 n0 i).1.length from ⟨rfl, by omega⟩), if_pos (show inB v w i ∧ (1 : UInt8) = 1 from ⟨hb, rfl⟩)]
        omega
      · rw [madeP_no (fun h => h2 h.2.2), h0i]
        rw [if_neg (fun h => absurd h.2 (by decide))]
        omega
    · rw [if_neg hb, madeP_no (fun h => hb ⟨h.1, h.2.1⟩), if_neg (fun h => hb h.1)]
      omega
theorem word_in {at_ : List Nat} {B m b : Nat} (ha : ArrL at_ (m * B)) (hB : 0 < B) {j : Nat} (hj : j < m * B) : inB (stepWord at_ (m * B) (b * B)) (stepWord at_ (m * B) ((b + 1) * B)) (at_.getD j 0) ↔ j / B = b := by
  have e2 : (b + 1) * B = b * B + B := by rw [Nat.add_mul, Nat.one_mul]
  have hd : j / B = b ↔ b * B ≤ j ∧ j < b * B + B := by
    rw [Nat.div_eq_iff hB]
    constructor
    · rintro ⟨h1, h2⟩; exact ⟨h1, by omega⟩
    · rintro ⟨h1, h2⟩; exact ⟨h1, by omega⟩
  unfold inB
  rw [stepWord_get ha hj, stepWord_get ha hj, hd, e2]
  by_cases h1 : b * B ≤ j
  · by_cases h2 : b * B + B ≤ j
    · rw [if_pos h1, if_pos h2]; simp; omega
    · rw [if_pos h1, if_neg h2]; simp; omega
  · rw [if_neg h1]; simp; omega
/-- What a made copy holds of a block. -/
theorem madeB_count {at_ : List Nat} {B m : Nat} {ws : List Nat} (ha : ArrL at_ (m * B)) (hp : at_.Perm (List.range (m * B))) (hB : 0 < B) (hw : ∀ b, b < m → ws.getD b 0 ≤ B) : ∀ {b : Nat}, b ≤ m →
    (∀ j, j < m * B → b ≤ j / B → (madeB at_ (m * B) B ws b).getD (at_.getD j 0) 0 = 0) ∧
    ∀ c, c < b → sumN (fun j => if j / B = c ∧ (madeB at_ (m * B) B ws b).getD (at_.getD j 0) 0 = 1 then 1 else 0) (m * B) = ws.getD c 0
  | 0, _ => ⟨fun j hj _ => by
      rw [madeB, List.getD_eq_getElem?_getD, List.getElem?_replicate]; split <;> rfl, fun c hc => by omega⟩
  | b + 1, hb => by
    obtain ⟨ih1, ih2⟩ := madeB_count ha hp hB hw (b := b) (by omega)
    have hl := madeB_length at_ (m * B) B ws b
    have hin := fun {j : Nat} (hj : j < m * B) => word_in (b := b) ha hB hj
    have keep : ∀ j, j < m * B → j / B ≠ b → (madeB at_ (m * B) B ws (b + 1)).getD (at_.getD j 0) 0 = (madeB at_ (m * B) B ws b).getD (at_.getD j 0) 0 := fun j hj hne => by
      rw [madeB]
      exact madeP_get _ (.inl fun h => hne ((hin hj).1 h))
    refine ⟨fun j hj h => by rw [keep j hj (by omega)]; exact ih1 j hj (by omega), fun c hc => ?_⟩
    rcases Nat.lt_or_ge c b with h | h
    · rw [← ih2 c h]
      refine sumN_congr fun j hj => ?_
      by_cases e : j / B = c
      · rw [keep j hj (by omega)]
      · rw [if_neg (fun h => e h.1), if_neg (fun h => e h.1)]
    · obtain rfl : c = b := by omega
      have hz : ∀ p, inB (stepWord at_ (m * B) (c * B)) (stepWord at_ (m * B) ((c + 1) * B)) p → (madeB at_ (m * B) B ws c).getD p 0 = 0 := fun p hpp => by
        rcases Nat.lt_or_ge p (m * B) with hpl | hpl
        · obtain ⟨j, hj, rfl⟩ : ∃ j, j < m * B ∧ at_.getD j 0 = p := by
            have : p ∈ at_ := hp.mem_iff.2 (List.mem_range.2 hpl)
            obtain ⟨j, hj, rfl⟩ := List.getElem_of_mem this
            have hal : at_.length = m * B := ha.len
            exact ⟨j, by omega, by simp [List.getD_eq_getElem?_getD, hj]⟩
          exact ih1 j hj (by rw [(hin hj).1 hpp]; exact Nat.le_refl _)
        · have : (stepWord at_ (m * B) (c * B)).getD p 0 = 0 := by rw [List.getD_eq_getElem?_getD, List.getElem?_eq_none (by rw [stepWord_length]; omega)]; rfl
          rw [hpp.1] at this
          exact absurd this (by decide)
      obtain ⟨c1, c2⟩ := madeP_count (v := stepWord at_ (m * B) (c * B)) (w := stepWord at_ (m * B) ((c + 1) * B)) (y0 := madeB at_ (m * B) B ws c) (n0 := ws.getD c 0) hz (i := m * B) (by omega)
      have e1 : sumN (fun j => if j / B = c ∧ (madeB at_ (m * B) B ws (c + 1)).getD (at_.getD j 0) 0 = 1 then 1 else 0) (m * B) = sumN (fun p => if inB (stepWord at_ (m * B) (c * B)) (stepWord at_ (m * B) ((c + 1) * B)) p ∧ (madeP (stepWord at_ (m * B) (c * B)) (stepWord at_ (m * B) ((c + 1) * B)) (madeB at_ (m * B) B ws c) (ws.getD c 0) (m * B)).1.getD p 0 = 1 then 1 else 0) (m * B) := by
        symm
        rw [← sum_columns hp]
        refine sumN_congr fun j hj => ?_
        rw [madeB]
        have := hin hj
        simp only [this]
      have e2 : sumN (fun p => if inB (stepWord at_ (m * B) (c * B)) (stepWord at_ (m * B) ((c + 1) * B)) p then 1 else 0) (m * B) = B := by
        rw [← sum_columns hp (fun p => if inB (stepWord at_ (m * B) (c * B)) (stepWord at_ (m * B) ((c + 1) * B)) p then 1 else 0)]
        have : sumN (fun j => if inB (stepWord at_ (m * B) (c * B)) (stepWord at_ (m * B) ((c + 1) * B)) (at_.getD j 0) then 1 else 0) (m * B) = sumN (fun j => if j / B = c then 1 else 0) (m * B) := sumN_congr fun j hj => by simp only [hin hj]
        rw [this, block_sum B c hB]
        have h1 := Nat.mul_le_mul_right B (show c + 1 ≤ m by omega)
        have h2 : (c + 1) * B = c * B + B := by rw [Nat.add_mul, Nat.one_mul]
        omega
      have := hw c (by omega)
      rw [e1]
      omega
theorem getD_ext {a b : List Nat} (hl : a.length = b.length) (h : ∀ i, i < a.length → a.getD i 0 = b.getD i 0) : a = b := by
  refine List.ext_getElem hl fun i h1 h2 => ?_
  have := h i h1
  simpa [List.getD_eq_getElem?_getD, h1, h2] using this
/-- A copy made to some weights has them. -/
theorem made_weights {at_ : List Nat} {B m : Nat} {ws : List Nat} (ha : ArrL at_ (m * B)) (hp : at_.Perm (List.range (m * B))) (hB : 0 < B) (hl : ws.length = m) (hw : ∀ b, b < m → ws.getD b 0 ≤ B) : weightsS at_ (madeS at_ (m * B) B ws m) B m = ws := by
  refine getD_ext (by rw [weightsS, weightF_length, hl]) fun b hb => ?_
  rw [weightsS, weightF_length] at hb
  rw [weightsS, weightF_get _ _ _ _ hb, ha.len]
  exact (madeB_count ha hp hB hw (Nat.le_refl _)).2 b hb
theorem madeB_bit (at_ : List Nat) (n B : Nat) (ws : List Nat) : ∀ (b p : Nat), ((madeB at_ n B ws b).getD p 0).toNat ≤ 1
  | 0, p => by
    rw [madeB, List.getD_eq_getElem?_getD, List.getElem?_replicate]; split <;> simp
  | b + 1, p => by
    have ih := madeB_bit at_ n B ws b
    rw [madeB]
    generalize madeB at_ n B ws b = y0 at ih ⊢
    generalize stepWord at_ n (b * B) = v
    generalize stepWord at_ n ((b + 1) * B) = w
    have : ∀ i, ∀ p, ((madeP v w y0 (ws.getD b 0) i).1.getD p 0).toNat ≤ 1 := by
      intro i
      induction i with
      | zero => exact ih
      | succ i ih2 =>
        intro p
        rw [madeP]
        split
        · rw [set_getD]
          split
          · simp
          · exact ih2 p
        · exact ih2 p
    exact this n p
end Go.Proofs.YtenpkmgbaajeeaaGreat

/- Words, weights and names of steps: the law's walk. -/
namespace Go.Proofs.YtenpkmgbaajeeaaGreat
open Go.RowKit
set_option linter.unusedVariables false
set_option linter.unusedSimpArgs false

theorem it_ext {a b : List Int} (hl : a.length = b.length) (h : ∀ i, i < a.length → it a i = it b i) : a = b := by
  refine List.ext_getElem hl fun i h1 h2 => ?_
  have := h i h1
  rwa [it_in h1, it_in h2] at this
def sameI (a b : List Int) : Bool := decide (a = b)
set_option maxHeartbeats 4000000 in
set_option maxRecDepth 1000000 in
theorem SameInts_any (A : Option Addr) (c : Nat) (a : List Int) (B : Option Addr) (d : Nat) (b : List Int) (w : World) {n m : Nat} (hn : a.length = n) (hm : b.length = m) (ha : IR w A c a) (hb : IR w B d b) :
    Calls Tryz.prog 25 #[.slice A n c, .slice B m d] w fun e w' => e = .returned (.bool (sameI a b)) ∧ Below w.heap.size w w' := by
  have mixed : Tryz.prog.follows Departure.mixedOrders = true := by kernel_rfl
  have HAW : Hid (∀ W, Below w.heap.size w W → IR W A c a ∧ IR W B d b) := fun W hW => ⟨ha.below hW, hb.below hW⟩
  have hna : (n : Int) ≤ 140737488351232 := by have := ha.len; omega
  have hnb : (m : Int) ≤ 140737488351232 := by have := hb.len; omega
  have HN := Lib.hid hn
  have HM := Lib.hid hm
  by_cases e : n = m
  · subst e
    have HS : Hid ((∀ i, i < n → it a i = it b i) → sameI a b = true) := fun h => decide_eq_true (it_ext (by have := HN.out; have := HM.out; omega) (by rw [HN.out]; exact h))
    have HD : Hid (∀ i, it a i ≠ it b i → sameI a b = false) := fun i h => decide_eq_false (fun e => h (by rw [e]))
    have HIA : Hid (∀ i, i < n → ∀ W, Below w.heap.size w W → (∃ p o, A = some ⟨p, o, none⟩ ∧ W.cell? ⟨p, o + i, none⟩ = some (.int .i64 (it a i))) ∧ ∃ p o, B = some ⟨p, o, none⟩ ∧ W.cell? ⟨p, o + i, none⟩ = some (.int .i64 (it b i))) := fun i hi W hW => by
      obtain ⟨h1, h2⟩ := HAW.out W hW
      obtain ⟨p, o, e, _, hc⟩ := h1.at_ (i := i) (by have := HN.out; omega)
      obtain ⟨p2, o2, e2, _, hc2⟩ := h2.at_ (i := i) (by have := HM.out; omega)
      exact ⟨⟨p, o, e, hc⟩, ⟨p2, o2, e2, hc2⟩⟩
    generalize sameI a b = r at HS HD ⊢
    clear hn hm ha hb
    go_enter Tryz.func25, Tryz.ntmps25
    go_wp2_with fail
    go_loopw [5] (fun vi wr => ∃ i : Nat, i ≤ n ∧ vi = .int .i64 (i : Int) ∧ Hid (∀ j, j < i → it a j = it b j) ∧ Below w.heap.size w wr) (fun vi _ => n - (intOf vi).toNat)
    case atStart => exact ⟨0, by omega, rfl, fun j hj => by omega, Below.refl _ _⟩
    case round =>
      obtain ⟨i, hi, rfl, HE, hbel⟩ := hrel
      by_cases hlt : i < n
      · have hii : (i : Int) < n := by omega
        have hi0 : (0 : Int) ≤ i := by omega
        obtain ⟨⟨p, o, rfl, hc⟩, p2, o2, rfl, hc2⟩ := HIA.out i hlt wr hbel
        have hbd := hbel.drew
        have HNE := Lib.hid (HD.out i)
        have HEQ : Hid (it a i = it b i → ∀ j, j < i + 1 → it a j = it b j) := fun h j hj => by
          rcases Nat.lt_or_ge j i with h1 | h1
          · exact HE.out j h1
          · obtain rfl : j = i := by omega
            exact h
        generalize it a i = u at *
        generalize it b i = v at *
        have hcd : wr.drew.cell? ⟨p, o + i, none⟩ = some (.int .i64 u) ∧ wr.drew.cell? ⟨p2, o2 + i, none⟩ = some (.int .i64 v) := ⟨hc, hc2⟩
        by_cases huv : u = v
        · have HE2 := Lib.hid (HEQ.out huv)
          clear HIA HNE HEQ
          go_wp2_with fail
          refine wp_region_noPanic ?_
          refine wp_region_held_drew (S := fun W => W.cell? ⟨p, o + i, none⟩ = some (.int .i64 u) ∧ W.cell? ⟨p2, o2 + i, none⟩ = some (.int .i64 v)) (by kernel_rfl) hcd (fun hS => ?_)
          refine hd_take 0 (.slice (some ⟨p, o, none⟩) n c) rfl rfl (by kernel_rfl) (by kernel_rfl) (by kernel_rfl) (fun _ _ _ h => h) (fun w hw => by go_simp) hS ?_
          refine hd_take 1 (.int .i64 (i : Int)) rfl rfl (by kernel_rfl) (by kernel_rfl) (by kernel_rfl) (fun _ _ _ h => h) (fun w hw => by go_simp) hS ?_
          refine hd_take 4 (.slice (some ⟨p2, o2, none⟩) n d) rfl rfl (by kernel_rfl) (by kernel_rfl) (by kernel_rfl) (fun _ _ _ h => h) (fun w hw => by go_simp) hS ?_
          refine hd_take 5 (.int .i64 (i : Int)) rfl rfl (by kernel_rfl) (by kernel_rfl) (by kernel_rfl) (fun _ _ _ h => h) (fun w hw => by go_simp) hS ?_
          simp only [List.getElem_toArray, List.getElem_cons_succ, List.getElem_cons_zero, Act.put, List.setIfInBounds_toArray, List.set_cons_zero, List.set_cons_succ]
          refine hd_take 2 (.pointer (some ⟨p, o + i, none⟩)) rfl rfl (by kernel_rfl) (by kernel_rfl) (by kernel_rfl) (fun _ _ _ h => h) (fun w hw => by go_simp) hS ?_
          refine hd_take 6 (.pointer (some ⟨p2, o2 + i, none⟩)) rfl rfl (by kernel_rfl) (by kernel_rfl) (by kernel_rfl) (fun _ _ _ h => h) (fun w hw => by go_simp) hS ?_
          simp only [List.getElem_toArray, List.getElem_cons_succ, List.getElem_cons_zero, Act.put, List.setIfInBounds_toArray, List.set_cons_zero, List.set_cons_succ]
          refine hd_take 3 (.int .i64 u) rfl rfl (by kernel_rfl) (by kernel_rfl) (by kernel_rfl) (fun _ _ _ h => h) (fun w hw => by have hx := hw.1; simp [go_sem, hx]) hS ?_
          refine hd_take 7 (.int .i64 v) rfl rfl (by kernel_rfl) (by kernel_rfl) (by kernel_rfl) (fun _ _ _ h => h) (fun w hw => by have hx := hw.2; simp [go_sem, hx]) hS ?_
          simp only [List.getElem_toArray, List.getElem_cons_succ, List.getElem_cons_zero, Act.put, List.setIfInBounds_toArray, List.set_cons_zero, List.set_cons_succ]
          refine hd_take 8 (.bool false) rfl rfl (by kernel_rfl) (by kernel_rfl) (by kernel_rfl) (fun _ _ _ h => h) (fun w hw => by simp [go_sem, huv]) hS ?_
          refine wpAnyH_done (by kernel_rfl) (NoPanic.normal ?_) _
          simp only [List.getElem_toArray, List.getElem_cons_succ, List.getElem_cons_zero, Act.put, List.setIfInBounds_toArray, List.set_cons_zero, List.set_cons_succ]
          go_wp2_with fail
          go_roundw
          case rel => exact ⟨i + 1, by omega, by go_num, HE2.out, hbd⟩
          case measure => simp [intOf]; omega
        · have HR := Lib.hid (HNE.out huv)
          clear HIA HNE HEQ
          go_wp2_with fail
          refine wp_region_noPanic ?_
          refine wp_region_held_drew (S := fun W => W.cell? ⟨p, o + i, none⟩ = some (.int .i64 u) ∧ W.cell? ⟨p2, o2 + i, none⟩ = some (.int .i64 v)) (by kernel_rfl) hcd (fun hS => ?_)
          refine hd_take 0 (.slice (some ⟨p, o, none⟩) n c) rfl rfl (by kernel_rfl) (by kernel_rfl) (by kernel_rfl) (fun _ _ _ h => h) (fun w hw => by go_simp) hS ?_
          refine hd_take 1 (.int .i64 (i : Int)) rfl rfl (by kernel_rfl) (by kernel_rfl) (by kernel_rfl) (fun _ _ _ h => h) (fun w hw => by go_simp) hS ?_
          refine hd_take 4 (.slice (some ⟨p2, o2, none⟩) n d) rfl rfl (by kernel_rfl) (by kernel_rfl) (by kernel_rfl) (fun _ _ _ h => h) (fun w hw => by go_simp) hS ?_
          refine hd_take 5 (.int .i64 (i : Int)) rfl rfl (by kernel_rfl) (by kernel_rfl) (by kernel_rfl) (fun _ _ _ h => h) (fun w hw => by go_simp) hS ?_
          simp only [List.getElem_toArray, List.getElem_cons_succ, List.getElem_cons_zero, Act.put, List.setIfInBounds_toArray, List.set_cons_zero, List.set_cons_succ]
          refine hd_take 2 (.pointer (some ⟨p, o + i, none⟩)) rfl rfl (by kernel_rfl) (by kernel_rfl) (by kernel_rfl) (fun _ _ _ h => h) (fun w hw => by go_simp) hS ?_
          refine hd_take 6 (.pointer (some ⟨p2, o2 + i, none⟩)) rfl rfl (by kernel_rfl) (by kernel_rfl) (by kernel_rfl) (fun _ _ _ h => h) (fun w hw => by go_simp) hS ?_
          simp only [List.getElem_toArray, List.getElem_cons_succ, List.getElem_cons_zero, Act.put, List.setIfInBounds_toArray, List.set_cons_zero, List.set_cons_succ]
          refine hd_take 3 (.int .i64 u) rfl rfl (by kernel_rfl) (by kernel_rfl) (by kernel_rfl) (fun _ _ _ h => h) (fun w hw => by have hx := hw.1; simp [go_sem, hx]) hS ?_
          refine hd_take 7 (.int .i64 v) rfl rfl (by kernel_rfl) (by kernel_rfl) (by kernel_rfl) (fun _ _ _ h => h) (fun w hw => by have hx := hw.2; simp [go_sem, hx]) hS ?_
          simp only [List.getElem_toArray, List.getElem_cons_succ, List.getElem_cons_zero, Act.put, List.setIfInBounds_toArray, List.set_cons_zero, List.set_cons_succ]
          refine hd_take 8 (.bool true) rfl rfl (by kernel_rfl) (by kernel_rfl) (by kernel_rfl) (fun _ _ _ h => h) (fun w hw => by simp [go_sem, huv]) hS ?_
          refine wpAnyH_done (by kernel_rfl) (NoPanic.normal ?_) _
          simp only [List.getElem_toArray, List.getElem_cons_succ, List.getElem_cons_zero, Act.put, List.setIfInBounds_toArray, List.set_cons_zero, List.set_cons_succ]
          go_wp2_with fail
          go_ret
          exact ⟨ret_bool' HR.out.symm, hbd⟩
      · obtain rfl : i = n := by omega
        have hx : ¬ ((i : Int) < i) := by omega
        have HR := Lib.hid (HS.out HE.out)
        clear HIA
        go_wp2_with fail
        go_ret
        exact ⟨ret_bool' HR.out.symm, hbel⟩
  · have HR : Hid (sameI a b = false) := decide_eq_false (fun h => e (by rw [← hn, ← hm, h]))
    have hne : ¬ ((n : Int) = (m : Int)) := by omega
    generalize sameI a b = r at HR ⊢
    clear hn hm ha hb HAW
    go_enter Tryz.func25, Tryz.ntmps25
    go_wp2_with fail
    go_ret
    exact ⟨ret_bool' HR.out.symm, Below.refl _ _⟩

set_option maxHeartbeats 4000000 in
set_option maxRecDepth 1000000 in
theorem refCheckSteps_any (s : StV) (w : World) (h : StOK w s) :
    Calls Tryz.prog 22 #[.agg s.cs.toArray] w fun e w' => e = .returned (.int .i64 (ckSt s.ok)) ∧ Below w.heap.size w w' := by
  have hk := h.k16
  obtain ⟨W0, hW0⟩ : ∃ W : World, W = w.alloc (.cells s.cs.toArray 29) := ⟨_, rfl⟩
  have b0 : Hid (Below w.heap.size w W0) := by unfold Hid; rw [hW0]; exact alloc_below _ _
  have x0 : Hid (Blk W0 w.heap.size 29 s.cs.toArray) := by unfold Hid; rw [hW0]; exact Blk.new w _ _
  have HW0 := Lib.hid hW0
  have HIN := Lib.hid (StV.info (s := s) hk)
  have HVS : Hid (∀ W, Below w.heap.size w W → Calls Tryz.prog 43 #[.agg s.cs.toArray] W fun e w' => e = .returned (.bool s.ok) ∧ Below W.heap.size W w') := fun W hW => refValidSteps_any s W (h.below hW)
  have HR : Hid (∀ b, s.ok = b → ckSt s.ok = if b = true then 0 else 70) := fun b hb => by subst hb; rfl
  generalize s.ok = ok at *
  generalize s.cs = cs at *
  clear h hk hW0
  cases ok with
  | true =>
    have HR := HR.out true rfl
    go_enter Tryz.func22, Tryz.ntmps22
    go_wp2_with (first
      | (rw [← HW0.out])
      | (refine wpList_load_row rfl 29 (.tmp 1) rfl (w.heap.size) rfl 29 cs.toArray (0, 0) _ x0.out Tryz.underlying29 rfl HIN.out ?_)
      | (go_at_call 43; (with_reducible refine (HVS.out _ b0.out).mono ?_); rintro e w1 ⟨rfl, hb⟩; have D1 := Lib.hid (bel_on b0.out hb); clear hb))
    go_ret
    exact ⟨rfl, D1.out⟩
  | false =>
    have HR := HR.out false rfl
    go_enter Tryz.func22, Tryz.ntmps22
    go_wp2_with (first
      | (rw [← HW0.out])
      | (refine wpList_load_row rfl 29 (.tmp 1) rfl (w.heap.size) rfl 29 cs.toArray (0, 0) _ x0.out Tryz.underlying29 rfl HIN.out ?_)
      | (go_at_call 43; (with_reducible refine (HVS.out _ b0.out).mono ?_); rintro e w1 ⟨rfl, hb⟩; have D1 := Lib.hid (bel_on b0.out hb); clear hb))
    go_ret
    exact ⟨rfl, D1.out⟩

set_option maxHeartbeats 8000000 in
set_option maxRecDepth 1000000 in
theorem codeSteps_walk_ (s : StV) (x : Int) (Y : Option Addr) (c : Nat) (y : List UInt8) (w : World) (h : StOK w s) (hx1 : -9223372036854775808 ≤ x) (hx2 : x ≤ 9223372036854775807) {n : Nat} (hy : y.length = n) (hY : BR w Y c y) :
    Calls Tryz.prog 3 #[.agg s.cs.toArray, .int .i64 x, .slice Y n c] w fun e w' => e = .returned (.bool true) ∧ Below w.heap.size w w' := by
  have hk := h.k16
  have mixed : Tryz.prog.follows Departure.mixedOrders = true := by kernel_rfl
  obtain ⟨W0, hW0⟩ : ∃ W : World, W = w.alloc (.cells s.cs.toArray 29) := ⟨_, rfl⟩
  have b0 : Hid (Below w.heap.size w W0) := by unfold Hid; rw [hW0]; exact alloc_below _ _
  have x0 : Hid (Blk W0 w.heap.size 29 s.cs.toArray) := by unfold Hid; rw [hW0]; exact Blk.new w _ _
  have HW0 := Lib.hid hW0
  have HIN := Lib.hid (StV.info (s := s) hk)
  have HL20 : Hid (s.cs.length = 20) := StV.len hk
  have HYL := Lib.hid hy
  have HYW : Hid (∀ W, Below w.heap.size w W → BR W Y c y) := fun W hW => hY.below hW
  have HF1 : Hid (∀ W, Below w.heap.size w W → Calls Tryz.prog 19 #[.agg s.cs.toArray, .int .i64 x] W fun e w' => WordErr (s.wordR x) e w' ∧ Below W.heap.size W w') := fun W hW => StepWord_any s x W (h.below hW) hx1 hx2
  have HF2 : Hid (∀ W, Below w.heap.size w W → Calls Tryz.prog 20 #[.agg s.cs.toArray, .int .i64 x] W fun e w' => WordErr (s.wordR x) e w' ∧ Below W.heap.size W w') := fun W hW => refStepWord_any s x W (h.below hW) hx1 hx2
  have HK1 : Hid (∀ W, Below w.heap.size w W → Calls Tryz.prog 21 #[.agg s.cs.toArray] W fun e w' => e = .returned (.int .i64 (ckSt s.ok)) ∧ Below W.heap.size W w') := fun W hW => CheckSteps_any s W (h.below hW)
  have HK2 : Hid (∀ W, Below w.heap.size w W → Calls Tryz.prog 22 #[.agg s.cs.toArray] W fun e w' => e = .returned (.int .i64 (ckSt s.ok)) ∧ Below W.heap.size W w') := fun W hW => refCheckSteps_any s W (h.below hW)
  have HT1 : Hid (∀ A a W, Below w.heap.size w W → BR W A a y → Calls Tryz.prog 23 #[.agg s.cs.toArray, .slice A n a] W fun e w' => IntsErr (s.wtsR y) e w' ∧ Below W.heap.size W w') := fun A a W hW hB => Weights_any s A a y W (h.below hW) hy hB
  have HT2 : Hid (∀ A a W, Below w.heap.size w W → BR W A a y → Calls Tryz.prog 24 #[.agg s.cs.toArray, .slice A n a] W fun e w' => IntsErr (s.wtsR y) e w' ∧ Below W.heap.size W w') := fun A a W hW hB => refWeights_any s A a y W (h.below hW) hy hB
  have HN1 : Hid (∀ A a W, Below w.heap.size w W → BR W A a y → Calls Tryz.prog 26 #[.agg s.cs.toArray, .slice A n a] W fun e w' => IntsErr (s.nmsR y) e w' ∧ Below W.heap.size W w') := fun A a W hW hB => TraceSteps_any s A a y W (h.below hW) hy hB
  have HN2 : Hid (∀ A a W, Below w.heap.size w W → BR W A a y → Calls Tryz.prog 27 #[.agg s.cs.toArray, .slice A n a] W fun e w' => IntsErr (s.nmsR y) e w' ∧ Below W.heap.size W w') := fun A a W hW hB => refTraceSteps_any s A a y W (h.below hW) hy hB
  have HSI : Hid (∀ l A a B b W {k : Nat}, l.length = k → IR W A a l → IR W B b l → Calls Tryz.prog 25 #[.slice A k a, .slice B k b] W fun e w' => e = .returned (.bool true) ∧ Below W.heap.size W w') := fun l A a B b W k hk h1 h2 => by
    have := SameInts_any A a l B b l W hk hk h1 h2
    rwa [show sameI l l = true from decide_eq_true rfl] at this
  have HX : Hid (∀ W, Below W0.heap.size W0 W → Blk W w.heap.size 29 s.cs.toArray) := fun W hW => x0.out.below' hW
  have HXR : Hid (∀ W, Below W0.heap.size W0 W → W.rangeAt w.heap.size 0 s.cs) := fun W hW => (x0.out.below' hW).range
  obtain ⟨lw, ew, hlw⟩ : ∃ l e, s.wordR x = (l, e) := ⟨_, _, rfl⟩
  obtain ⟨lt, et, hlt⟩ : ∃ l e, s.wtsR y = (l, e) := ⟨_, _, rfl⟩
  obtain ⟨ln, en, hln⟩ : ∃ l e, s.nmsR y = (l, e) := ⟨_, _, rfl⟩
  rw [hlw] at HF1 HF2
  rw [hlt] at HT1 HT2
  rw [hln] at HN1 HN2
  obtain ⟨nw, HLW⟩ : ∃ k, Hid (lw.length = k) := ⟨_, rfl⟩
  obtain ⟨nt, HLT⟩ : ∃ k, Hid (lt.length = k) := ⟨_, rfl⟩
  obtain ⟨nn, HLN⟩ : ∃ k, Hid (ln.length = k) := ⟨_, rfl⟩
  have HWE : Hid (∀ e w', WordErr (lw, ew) e w' → ∃ A c, e = .returned (.tuple #[.slice A nw c, .int .i64 ew]) ∧ BR w' A c lw) := fun e w' ⟨A, c, he, hb⟩ => ⟨A, c, by rw [he, ← HLW.out], hb⟩
  have HTE : Hid (∀ e w', IntsErr (lt, et) e w' → ∃ A c, e = .returned (.tuple #[.slice A nt c, .int .i64 et]) ∧ IR w' A c lt) := fun e w' ⟨A, c, he, hb⟩ => ⟨A, c, by rw [he, ← HLT.out], hb⟩
  have HNE : Hid (∀ e w', IntsErr (ln, en) e w' → ∃ A c, e = .returned (.tuple #[.slice A nn c, .int .i64 en]) ∧ IR w' A c ln) := fun e w' ⟨A, c, he, hb⟩ => ⟨A, c, by rw [he, ← HLN.out], hb⟩
  generalize WordErr (lw, ew) = WE at *
  generalize IntsErr (lt, et) = TE at *
  generalize IntsErr (ln, en) = NE at *
  generalize ckSt s.ok = ck at *
  generalize s.cs = cs at *
  have hny : (n : Int) ≤ 140737488351232 := by have := hY.len; omega
  clear h hk hW0 hlw hlt hln hy hY
  go_enter Tryz.func3, Tryz.ntmps3
  go_wp2_with (first
    | (rw [← HW0.out])
    | (at_builtin; refine wpList_append_bytes _ rfl (.tmp 14) (.tmp 15) rfl W0.heap.size (some ⟨W0.heap.size, 0, none⟩) 0 0 [] rfl rfl (OB.lit0 _ _ (Nat.le_refl _)) Y n c y HYL.out rfl (((HYW.out _ b0.out).below (alloc_bel _ _)).src HYL.out) (by omega) (by simp) ?_; intro A3 c3 w3 hon3 hbl3 hg3; clear hg3; have O3 := Lib.hid (hon3.br (by simp; have := HYL.out; omega)); have D3 := Lib.hid ((alloc_bel W0 _).trans hbl3); have X3 := Lib.hid (HX.out _ D3.out); clear hon3 hbl3; simp only [Nat.zero_add])
    | (refine wpList_load_row rfl 29 (.tmp 3) rfl (w.heap.size) rfl 29 cs.toArray (0, 0) _ X3.out Tryz.underlying29 rfl HIN.out ?_)
    | (refine wpList_load_row rfl 29 (.tmp 3) rfl (w.heap.size) rfl 29 cs.toArray (0, 0) _ X4.out Tryz.underlying29 rfl HIN.out ?_)
    | (go_at_call 19; (with_reducible refine (HF1.out _ (bel_on b0.out D3.out)).mono ?_); rintro e w4 ⟨hE, hb⟩; obtain ⟨A1, c1, rfl, hB1⟩ := HWE.out _ _ hE; have D4 := Lib.hid (bel_on D3.out hb); have B4 := Lib.hid hB1; have X4 := Lib.hid (HX.out _ D4.out); have O4 := Lib.hid (O3.out.below hb); clear hE hb hB1)
    | (go_at_call 20; (with_reducible refine (HF2.out _ (bel_on b0.out D4.out)).mono ?_); rintro e w5 ⟨hE, hb⟩; obtain ⟨A2, c2, rfl, hB2⟩ := HWE.out _ _ hE; have D5 := Lib.hid (bel_on D4.out hb); have B5 := Lib.hid (B4.out.below hb); have C5 := Lib.hid hB2; have O5 := Lib.hid (O4.out.below hb); clear hE hb hB2))
  have HS4 : Hid (∀ W, Below w5.heap.size w5 W → BR W A1 c1 lw ∧ BR W A2 c2 lw ∧ W.rangeAt w.heap.size 0 cs) := fun W hW => ⟨B5.out.below hW, C5.out.below hW, HXR.out _ (bel_on D5.out hW)⟩
  have HB4 : Hid (∀ W, Below w5.heap.size w5 W → Below w.heap.size w W) := fun W hW => bel_on b0.out (bel_on D5.out hW)
  have HS : Hid (∀ W, Below w5.heap.size w5 W → BR W A1 c1 lw ∧ BR W A2 c2 lw ∧ W.rangeAt w.heap.size 0 cs) := fun W hW => HS4.out W hW
  have E0 : Below w5.heap.size w5 w5 := Below.refl _ _
  refine wp_region_noPanic ?_
  refine wp_region_held_drew (S := fun W => BR W A1 c1 lw ∧ BR W A2 c2 lw ∧ W.rangeAt w.heap.size 0 cs) (by kernel_rfl) (HS.out _ E0.drew) (fun hS => ?_)
  have E0 := E0.drew
  refine hd_take 0 (.slice A1 nw c1) rfl rfl (by kernel_rfl) (by kernel_rfl) (by kernel_rfl) (fun _ _ _ h => h) (fun w hw => by go_simp) hS ?_
  simp only [List.getElem_toArray, List.getElem_cons_succ, List.getElem_cons_zero, Act.put, List.setIfInBounds_toArray, List.set_cons_zero, List.set_cons_succ]
  refine hd_take 2 (.slice A2 nw c2) rfl rfl (by kernel_rfl) (by kernel_rfl) (by kernel_rfl) (fun _ _ _ h => h) (fun w hw => by go_simp) hS ?_
  simp only [List.getElem_toArray, List.getElem_cons_succ, List.getElem_cons_zero, Act.put, List.setIfInBounds_toArray, List.set_cons_zero, List.set_cons_succ]
  refine hd_take 1 (.string (strB lw)) rfl rfl (by kernel_rfl) (by kernel_rfl) (by kernel_rfl) (fun _ _ _ h => h) (fun w hw => by have hx := run_string_br hw.1 _ HLW.out; simp [execOp, Act.eval, Act.put, Sem.run_bind, hx]) hS ?_
  simp only [List.getElem_toArray, List.getElem_cons_succ, List.getElem_cons_zero, Act.put, List.setIfInBounds_toArray, List.set_cons_zero, List.set_cons_succ]
  refine hd_take 3 (.string (strB lw)) rfl rfl (by kernel_rfl) (by kernel_rfl) (by kernel_rfl) (fun _ _ _ h => h) (fun w hw => by have hx := run_string_br hw.2.1 _ HLW.out; simp [execOp, Act.eval, Act.put, Sem.run_bind, hx]) hS ?_
  simp only [List.getElem_toArray, List.getElem_cons_succ, List.getElem_cons_zero, Act.put, List.setIfInBounds_toArray, List.set_cons_zero, List.set_cons_succ]
  refine hd_take 4 (.bool false) rfl rfl (by kernel_rfl) (by kernel_rfl) (by kernel_rfl) (fun _ _ _ h => h) (fun w hw => by simp [go_sem]) hS ?_
  simp only [List.getElem_toArray, List.getElem_cons_succ, List.getElem_cons_zero, Act.put, List.setIfInBounds_toArray, List.set_cons_zero, List.set_cons_succ]
  refine hd_take 5 (.bool false) rfl rfl (by kernel_rfl) (by kernel_rfl) (by kernel_rfl) (fun _ _ _ h => h) (fun w hw => by go_simp) hS ?_
  simp only [List.getElem_toArray, List.getElem_cons_succ, List.getElem_cons_zero, Act.put, List.setIfInBounds_toArray, List.set_cons_zero, List.set_cons_succ]
  refine hg_take 6 (.int .i64 ew) rfl (by rfl) (by kernel_rfl) (by kernel_rfl) (by kernel_rfl) (fun _ _ _ h => h) (fun w hw => by go_simp) hS ?_
  simp only [List.getElem_toArray, List.getElem_cons_succ, List.getElem_cons_zero, Act.put, List.setIfInBounds_toArray, List.set_cons_zero, List.set_cons_succ]
  refine hg_take 7 (.int .i64 ew) rfl (by rfl) (by kernel_rfl) (by kernel_rfl) (by kernel_rfl) (fun _ _ _ h => h) (fun w hw => by go_simp) hS ?_
  simp only [List.getElem_toArray, List.getElem_cons_succ, List.getElem_cons_zero, Act.put, List.setIfInBounds_toArray, List.set_cons_zero, List.set_cons_succ]
  refine hg_take 8 (.bool false) rfl (by rfl) (by kernel_rfl) (by kernel_rfl) (by kernel_rfl) (fun _ _ _ h => h) (fun w hw => by simp [go_sem]) hS ?_
  simp only [List.getElem_toArray, List.getElem_cons_succ, List.getElem_cons_zero, Act.put, List.setIfInBounds_toArray, List.set_cons_zero, List.set_cons_succ]
  refine hd_take 9 (.bool false) rfl rfl (by kernel_rfl) (by kernel_rfl) (by kernel_rfl) (fun _ _ _ h => h) (fun w hw => by go_simp) hS ?_
  simp only [List.getElem_toArray, List.getElem_cons_succ, List.getElem_cons_zero, Act.put, List.setIfInBounds_toArray, List.set_cons_zero, List.set_cons_succ]
  refine hd_take 10 (.bool false) rfl rfl (by kernel_rfl) (by kernel_rfl) (by kernel_rfl) (fun _ _ _ h => h) (fun w hw => by go_simp) hS ?_
  simp only [List.getElem_toArray, List.getElem_cons_succ, List.getElem_cons_zero, Act.put, List.setIfInBounds_toArray, List.set_cons_zero, List.set_cons_succ]
  refine hg_load 11 (w.heap.size) (0) (cs) _ _ rfl rfl (by rfl) (by kernel_rfl) (by kernel_rfl) (by kernel_rfl) (fun _ _ _ h => h) rfl (fun w hw => hw.2.2) Tryz.underlying29 rfl (infoS HL20.out) hS ?_
  simp only [List.getElem_toArray, List.getElem_cons_succ, List.getElem_cons_zero, Act.put, List.setIfInBounds_toArray, List.set_cons_zero, List.set_cons_succ]
  refine hg_load 13 (w.heap.size) (0) (cs) _ _ rfl rfl (by rfl) (by kernel_rfl) (by kernel_rfl) (by kernel_rfl) (fun _ _ _ h => h) rfl (fun w hw => hw.2.2) Tryz.underlying29 rfl (infoS HL20.out) hS ?_
  simp only [List.getElem_toArray, List.getElem_cons_succ, List.getElem_cons_zero, Act.put, List.setIfInBounds_toArray, List.set_cons_zero, List.set_cons_succ]
  refine hg_calls 12 21 #[.agg cs.toArray] rfl (by rfl) (by kernel_rfl) (by go_simp <;> rfl) ?_
  refine (HK1.out _ (HB4.out _ E0)).mono ?_
  rintro e u1 ⟨rfl, hb⟩
  have E1_ := bel_on E0 hb
  have hS1_ := HS.out _ E1_
  clear hb
  refine ⟨_, rfl, hS1_, ?_⟩
  simp only [List.getElem_toArray, List.getElem_cons_succ, List.getElem_cons_zero, Act.put, List.setIfInBounds_toArray, List.set_cons_zero, List.set_cons_succ]
  refine hg_calls 14 22 #[.agg cs.toArray] rfl (by rfl) (by kernel_rfl) (by go_simp <;> rfl) ?_
  refine (HK2.out _ (HB4.out _ E1_)).mono ?_
  rintro e u2 ⟨rfl, hb⟩
  have E2_ := bel_on E1_ hb
  have hS2_ := HS.out _ E2_
  clear hb
  refine ⟨_, rfl, hS2_, ?_⟩
  simp only [List.getElem_toArray, List.getElem_cons_succ, List.getElem_cons_zero, Act.put, List.setIfInBounds_toArray, List.set_cons_zero, List.set_cons_succ]
  refine hg_take 15 (.bool false) rfl (by rfl) (by kernel_rfl) (by kernel_rfl) (by kernel_rfl) (fun _ _ _ h => h) (fun w hw => by simp [go_sem]) hS2_ ?_
  simp only [List.getElem_toArray, List.getElem_cons_succ, List.getElem_cons_zero, Act.put, List.setIfInBounds_toArray, List.set_cons_zero, List.set_cons_succ]
  refine hd_take 16 (.bool false) rfl rfl (by kernel_rfl) (by kernel_rfl) (by kernel_rfl) (fun _ _ _ h => h) (fun w hw => by go_simp) hS2_ ?_
  simp only [List.getElem_toArray, List.getElem_cons_succ, List.getElem_cons_zero, Act.put, List.setIfInBounds_toArray, List.set_cons_zero, List.set_cons_succ]
  refine wpAnyH_done (by kernel_rfl) (NoPanic.normal ?_) _
  have D6 := Lib.hid (HB4.out _ E2_)
  have O6 := Lib.hid (O5.out.below E2_)
  have X6 := Lib.hid (HX.out _ (bel_on D5.out E2_))
  have HX2 : Hid (∀ W, Below u2.heap.size u2 W → Blk W w.heap.size 29 cs.toArray) := fun W hW => X6.out.below' hW
  have G6 : Below u2.heap.size u2 u2 := Below.refl _ _
  clear HS4 HB4 HX HXR E0 E1_ E2_ hS hS1_ hS2_
  go_wp2_with (first
    | (refine wpList_load_row rfl 29 (.tmp 3) rfl (w.heap.size) rfl 29 cs.toArray (0, 0) _ X6.out Tryz.underlying29 rfl HIN.out ?_)
    | (refine wpList_load_row rfl 29 (.tmp 3) rfl (w.heap.size) rfl 29 cs.toArray (0, 0) _ X7.out Tryz.underlying29 rfl HIN.out ?_)
    | (refine wpList_load_row rfl 29 (.tmp 3) rfl (w.heap.size) rfl 29 cs.toArray (0, 0) _ X9.out Tryz.underlying29 rfl HIN.out ?_)
    | (refine wpList_load_row rfl 29 (.tmp 3) rfl (w.heap.size) rfl 29 cs.toArray (0, 0) _ Y7.out Tryz.underlying29 rfl HIN.out ?_)
    | (go_at_call 23; (with_reducible refine (HT1.out _ _ _ D6.out O6.out).mono ?_); rintro e w7 ⟨hE, hb⟩; obtain ⟨A7, c7, rfl, hB⟩ := HTE.out _ _ hE; have D7 := Lib.hid (bel_on D6.out hb); have G7 := Lib.hid hb; have B7 := Lib.hid hB; have O7 := Lib.hid (O6.out.below hb); have X7 := Lib.hid (HX2.out _ hb); clear hE hb hB)
    | (go_at_call 24; (with_reducible refine (HT2.out _ _ _ D7.out (HYW.out _ D7.out)).mono ?_); rintro e w8 ⟨hE, hb⟩; obtain ⟨A8, c8, rfl, hB⟩ := HTE.out _ _ hE; have D8 := Lib.hid (bel_on D7.out hb); have G8 := Lib.hid (bel_on G7.out hb); have C8 := Lib.hid hB; have B8 := Lib.hid (B7.out.below hb); have O8 := Lib.hid (O7.out.below hb); clear hE hb hB)
    | (go_at_call 25; (with_reducible refine (HSI.out _ _ _ _ _ _ HLT.out B8.out C8.out).mono ?_); rintro e w9 ⟨rfl, hb⟩; have D9 := Lib.hid (bel_on D8.out hb); have G9 := Lib.hid (bel_on G8.out hb); have O9 := Lib.hid (O8.out.below hb); have X9 := Lib.hid (HX2.out _ G9.out); clear hb)
    | (go_at_call 26; (with_reducible refine (HN1.out _ _ _ D9.out O9.out).mono ?_); rintro e v7 ⟨hE, hb⟩; obtain ⟨Z7, z7, rfl, hB⟩ := HNE.out _ _ hE; have M7 := Lib.hid (bel_on D9.out hb); have K7 := Lib.hid (bel_on G9.out hb); have N7 := Lib.hid hB; have P7 := Lib.hid (O9.out.below hb); have Y7 := Lib.hid (HX2.out _ K7.out); clear hE hb hB)
    | (go_at_call 27; (with_reducible refine (HN2.out _ _ _ M7.out (HYW.out _ M7.out)).mono ?_); rintro e v8 ⟨hE, hb⟩; obtain ⟨Z8, z8, rfl, hB⟩ := HNE.out _ _ hE; have M8 := Lib.hid (bel_on M7.out hb); have Q8 := Lib.hid hB; have N8 := Lib.hid (N7.out.below hb); have P8 := Lib.hid (P7.out.below hb); clear hE hb hB)
    | (go_at_call 25; (with_reducible refine (HSI.out _ _ _ _ _ _ HLN.out N8.out Q8.out).mono ?_); rintro e v9 ⟨rfl, hb⟩; have M9 := Lib.hid (bel_on M8.out hb); have hs1 := run_string_br (P8.out.below hb) _ HYL.out; have hs2 := run_string_br (HYW.out _ M9.out) _ HYL.out; clear hb))
  go_ret
  exact ⟨rfl, M9.out⟩
theorem codeSteps_walk (s : StV) (x : Int) (Y : Option Addr) (c : Nat) (y : List UInt8) {w : World} (h : StOK w s) (hx1 : -9223372036854775808 ≤ x) (hx2 : x ≤ 9223372036854775807) (hY : BR w Y c y) :
    Calls Tryz.prog 3 #[.agg s.cs.toArray, .int .i64 x, .slice Y y.length c] w fun e w' => e = .returned (.bool true) ∧ Below w.heap.size w w' := codeSteps_walk_ s x Y c y w h hx1 hx2 rfl hY
end Go.Proofs.YtenpkmgbaajeeaaGreat

/- Copies made to weights, and the users that are named for them: the laws' helpers. -/
namespace Go.Proofs.YtenpkmgbaajeeaaGreat
open Go.RowKit
set_option linter.unusedVariables false
set_option linter.unusedSimpArgs false

def StV.made (s : StV) (ws : List Nat) : List UInt8 := madeS s.at_ s.n s.b.toNat ws (s.u.toNat - 1)
theorem wordF_le1 (at_ : List Nat) (n lo p : Nat) : bt (stepWord at_ n lo) p ≤ 1 := wordF_bit at_ n lo n p

theorem OB.far {B : Nat} {w : World} {A : Option Addr} {c : Nat} {l : List UInt8} (h : OB B w A c l) {p : Addr} (hp : p.block < B) (u : Value) : OB B (w.setCell p u) A c l := by
  refine World.ownsRow.kept h (⟨rfl, rfl, rfl, by simp, fun k hk hne => Below.heap_setCell w p u k (by simpa using hne)⟩ : w.grownBy (w.setCell p u) (some p.block)) ?_
  cases hv : (Value.slice A l.length c).ownBlock with
  | none => exact .inl rfl
  | some k =>
    refine .inr fun e => ?_
    have h1 := (World.ownsRow.lt h k hv).1
    have h2 : k = p.block := Option.some.inj e
    omega
set_option maxHeartbeats 8000000 in
set_option maxRecDepth 1000000 in
theorem made_any (s : StV) (P : Option Addr) (c : Nat) (ws : List Nat) (w : World) (hS_ : StOK w s) (hok : s.ok = true) {mw : Nat} (hl : ws.length = mw) (hml : s.u = ((mw + 1 : Nat) : Int)) (hw : ∀ b, b < mw → ws.getD b 0 ≤ 64) (hP : IR w P c (natI ws)) :
    Calls Tryz.prog 118 #[.agg s.cs.toArray, .slice P mw c] w fun e w' => (∃ A c', e = .returned (.tuple #[.slice A s.n c', .bool true]) ∧ BR w' A c' (s.made ws)) ∧ Below w.heap.size w w' := by
  have hk := hS_.k16
  obtain ⟨d, m, hd, hu, hd1, hd2, hm1, hm2, hn⟩ := StV.nats hok
  obtain ⟨hn1, hn2, -⟩ := StV.n_le hok
  obtain rfl : mw = m := by omega
  have HMD : Hid (s.made ws = madeB s.at_ s.n d ws mw) := by unfold Hid StV.made madeS; rw [hd, hu, Int.toNat_natCast, Int.toNat_natCast, Nat.add_sub_cancel]
  have HSW : Hid (∀ b : Nat, b ≤ mw → ∀ W, Below w.heap.size w W → Calls Tryz.prog 19 #[.agg s.cs.toArray, .int .i64 (b : Int)] W fun e w' => (∃ A c, e = .returned (.tuple #[.slice A s.n c, .int .i64 0]) ∧ OB W.heap.size w' A c (stepWord s.at_ s.n (b * d))) ∧ Below W.heap.size W w') := fun b hb W hW => by
    refine (StepWord_own s (b : Int) W (hS_.below hW) (by omega) (by omega)).mono fun e w' h => ?_
    obtain ⟨⟨A, c, h1, h2⟩, h3⟩ := h
    have e1 : s.wordR (b : Int) = (stepWord s.at_ s.n (b * d), 0) := by
      unfold StV.wordR StV.word
      rw [hok, if_neg (by simp), if_neg (by omega), hd, Int.toNat_natCast, Int.toNat_natCast]
    rw [e1] at h1 h2
    dsimp only at h1 h2
    rw [stepWord_length] at h1
    exact ⟨⟨A, c, h1, h2⟩, h3⟩
  have HBT : Hid (∀ lo p, bt (stepWord s.at_ s.n lo) p ≤ 1) := fun lo p => wordF_le1 _ _ _ _
  have HWL : Hid (∀ lo, (stepWord s.at_ s.n lo).length = s.n) := fun lo => stepWord_length _ _ _
  have HMB : Hid (∀ b, (madeB s.at_ s.n d ws b).length = s.n) := fun b => madeB_length _ _ _ _ _
  have HMS : Hid (∀ b, madeB s.at_ s.n d ws (b + 1) = (madeP (stepWord s.at_ s.n (b * d)) (stepWord s.at_ s.n ((b + 1) * d)) (madeB s.at_ s.n d ws b) (ws.getD b 0) s.n).1) := fun b => rfl
  have HM0 : Hid (madeB s.at_ s.n d ws 0 = List.replicate s.n 0) := rfl
  have HPW : Hid (∀ W, Below w.heap.size w W → ∀ b, b < mw → ∃ p o, P = some ⟨p, o, none⟩ ∧ W.cell? ⟨p, o + b, none⟩ = some (.int .i64 ((ws.getD b 0 : Nat) : Int))) := fun W hW b hb => by
    obtain ⟨p, o, e, _, hc⟩ := (hP.below hW).at_ (i := b) (by simp [natI]; omega)
    refine ⟨p, o, e, ?_⟩
    rw [hc]
    congr 2
    unfold it natI
    simp [List.getD_eq_getElem?_getD, show b < ws.length by omega]
  rw [HMD.out]
  generalize s.at_ = at_ at *
  obtain ⟨W0, hW0⟩ : ∃ W : World, W = w.alloc (.cells s.cs.toArray 29) := ⟨_, rfl⟩
  have b0 : Hid (Below w.heap.size w W0) := by unfold Hid; rw [hW0]; exact alloc_bel _ _
  have x0 : Hid (Blk W0 w.heap.size 29 s.cs.toArray) := by unfold Hid; rw [hW0]; exact Blk.new w _ _
  have HW0 := Lib.hid hW0
  have HIN := Lib.hid (StV.info (s := s) hk)
  have HCL : Hid (∀ W, Below W0.heap.size W0 W → Blk W w.heap.size 29 s.cs.toArray ∧ W.cell? ⟨w.heap.size, 0, none⟩ = some (.int .i64 ((mw : Int) + 1)) ∧ W.cell? ⟨w.heap.size, 1, none⟩ = some (.int .i64 (d : Int))) := fun W hW => by
    have hB := x0.out.below' hW
    obtain ⟨g0, g1, _, _⟩ := StV.cells hk hB
    rw [hu] at g0
    rw [hd] at g1
    exact ⟨hB, by rw [g0]; norm_cast, g1⟩
  generalize s.n = n at *
  generalize s.cs.toArray = cs at *
  have hni : (n : Int) ≤ 960 := by omega
  have e1 : (mw : Int) * (d : Int) = (n : Int) := by rw [hn, Int.natCast_mul]
  have e2 : IntKind.i64.wrap ((mw : Int) * (d : Int)) = (n : Int) := by rw [e1, IntKind.wrap_i64]; omega
  have e3 : IntKind.i64.wrap ((mw : Int) + 1 - 1) = (mw : Int) := by rw [IntKind.wrap_i64]; omega
  obtain ⟨wm, hwm⟩ : ∃ W, W = W0.alloc (.cells (cellsB (List.replicate n 0)).toArray 5) := ⟨_, rfl⟩
  obtain ⟨gy, hgy⟩ : ∃ g, W0.heap.size = g := ⟨_, rfl⟩
  have hmk : (Instr.makeSlice 30 (.int .i64 (n : Int)) (.int .i64 (n : Int))).run Tryz.prog W0 = .ok (.slice (some ⟨gy, 0, none⟩) n n) wm := by
    have := run_make_row' (P := Tryz.prog) 30 5 (.int .u8 0) 1 Tryz.underlying30 (by kernel_rfl) rfl .i64 .i64 n (by omega) (by omega) W0
    rw [made_bytes] at this
    rwa [hwm, ← hgy]
  have BM : Hid (Blk wm gy 5 (cellsB (madeB at_ n d ws 0)).toArray) := by unfold Hid; rw [HM0.out, hwm, ← hgy]; exact Blk.new _ _ _
  have DM : Hid (Below gy W0 wm) := by unfold Hid; rw [hwm, ← hgy]; exact alloc_bel _ _
  rw [hgy] at HCL
  have HGY : Hid (W0.heap.size = gy) := hgy
  obtain ⟨-, c0, c1⟩ := HCL.out _ (Below.refl _ _)
  have hmi : (mw : Int) ≤ 15 := by omega
  have hm0 : (0 : Int) ≤ mw := by omega
  clear hS_ hok hk hd hu hn hl hml hP hwm hW0 hgy HMD
  go_enter Tryz.func118, Tryz.ntmps118
  go_wp2_with (rw [← HW0.out])
  clear c0 c1
  go_loopw [7] (fun vb wr => ∃ b : Nat, b ≤ mw ∧ vb = .int .i64 (b : Int) ∧ Hid (Blk wr gy 5 (cellsB (madeB at_ n d ws b)).toArray) ∧ Below gy W0 wr) (fun vb _ => mw - (intOf vb).toNat)
  case atStart => exact ⟨0, by omega, rfl, BM.out, DM.out⟩
  case round =>
    obtain ⟨b, hb, rfl, HB, hbel0⟩ := hrel
    have hbel : Below W0.heap.size W0 wr := by rw [HGY.out]; exact hbel0
    rw [← HGY.out] at HCL
    obtain ⟨hX, c0, c1⟩ := HCL.out _ hbel
    have X1 := Lib.hid hX
    obtain ⟨bw, hbw⟩ : ∃ q, wr.heap.size = q := ⟨_, rfl⟩
    have HGW : Hid (gy < bw) := by unfold Hid; rw [← hbw]; exact HB.out.lt
    have HBW : Hid (wr.heap.size = bw) := hbw
    clear hbw
    have HDW : Hid (∀ W, Below wr.heap.size wr W → Below w.heap.size w W) := fun W hW => bel_on (bel_on b0.out hbel) hW
    by_cases hlt : b < mw
    · have hbi : (b : Int) < mw := by omega
      have hb0 : (0 : Int) ≤ b := by omega
      have eb1 : IntKind.i64.wrap ((b : Int) + 1) = ((b + 1 : Nat) : Int) := by rw [IntKind.wrap_i64]; omega
      have HS1 : Hid (∀ W, Below w.heap.size w W → Calls Tryz.prog 19 #[.agg cs, .int .i64 (b : Int)] W fun e w' => (∃ A c, e = .returned (.tuple #[.slice A n c, .int .i64 0]) ∧ OB W.heap.size w' A c (stepWord at_ n (b * d))) ∧ Below W.heap.size W w') := HSW.out b (by omega)
      have HS2 : Hid (∀ W, Below w.heap.size w W → Calls Tryz.prog 19 #[.agg cs, .int .i64 ((b : Int) + 1)] W fun e w' => (∃ A c, e = .returned (.tuple #[.slice A n c, .int .i64 0]) ∧ OB W.heap.size w' A c (stepWord at_ n ((b + 1) * d))) ∧ Below W.heap.size W w') := fun W hW => HSW.out (b + 1) (by omega) W hW
      have HV1 : Hid (∀ p, bt (stepWord at_ n (b * d)) p ≤ 1) := HBT.out _
      have HV2 : Hid (∀ p, bt (stepWord at_ n ((b + 1) * d)) p ≤ 1) := HBT.out _
      have HL1 : Hid ((stepWord at_ n (b * d)).length = n) := HWL.out _
      have HL2 : Hid ((stepWord at_ n ((b + 1) * d)).length = n) := HWL.out _
      have HNX : Hid (madeB at_ n d ws (b + 1) = (madeP (stepWord at_ n (b * d)) (stepWord at_ n ((b + 1) * d)) (madeB at_ n d ws b) (ws.getD b 0) n).1) := HMS.out b
      have HYL : Hid ((madeB at_ n d ws b).length = n) := HMB.out b
      have HGB : Hid (∀ W, Below wr.heap.size wr W → ∃ p o, P = some ⟨p, o, none⟩ ∧ W.cell? ⟨p, o + b, none⟩ = some (.int .i64 ((ws.getD b 0 : Nat) : Int))) := fun W hW => HPW.out W (HDW.out W hW) b hlt
      obtain ⟨pp, po, rfl, hcp⟩ := HGB.out _ (Below.refl _ _)
      have HCP : Hid (∀ W, Below wr.heap.size wr W → W.cell? ⟨pp, po + b, none⟩ = some (.int .i64 ((ws.getD b 0 : Nat) : Int))) := fun W hW => (hW.cell (World.block_lt_of_cell? _ _ hcp)).trans hcp
      have hwb := hw b hlt
      generalize stepWord at_ n (b * d) = v at *
      generalize stepWord at_ n ((b + 1) * d) = v2 at *
      generalize madeB at_ n d ws b = y0 at *
      generalize ws.getD b 0 = n0 at *
      have hn0 : (n0 : Int) ≤ 64 := by omega
      clear hcp hlt hX HGB
      go_wp2_with (first
        | (refine wpList_load_row rfl 29 (.tmp 2) rfl w.heap.size rfl 29 cs (0, 0) _ X1.out Tryz.underlying29 rfl HIN.out ?_))
      refine (HS1.out _ (HDW.out _ (Below.refl _ _))).mono ?_
      rintro e w5 ⟨⟨V, vc, rfl, hv5⟩, hb5⟩
      have X5 := Lib.hid (X1.out.below' hb5)
      have E5 := Lib.hid hb5
      have V5 : Hid (OB bw w5 V vc v) := by unfold Hid; rw [← HBW.out]; exact hv5
      clear hb5 hv5 c0 c1
      go_wp2_with (first
        | (refine wpList_load_row rfl 29 (.tmp 2) rfl w.heap.size rfl 29 cs (0, 0) _ X5.out Tryz.underlying29 rfl HIN.out ?_))
      refine (HS2.out _ (HDW.out _ E5.out)).mono ?_
      rintro e w6 ⟨⟨V2, vc2, rfl, hv6⟩, hb6⟩
      have E6 := Lib.hid (bel_on E5.out hb6)
      have V6 := Lib.hid (V5.out.below hb6)
      have U6 : Hid (OB bw w6 V2 vc2 v2) := OB.le_ hv6 (by have := E5.out.size; have := HBW.out; omega)
      have Y6 := Lib.hid (HB.out.below' E6.out)
      have D6 : Hid (Below gy W0 w6) := hbel0.trans (E6.out.mono (by have := hbel.size; have := HGY.out; omega))
      have hcp := HCP.out _ E6.out
      have G6 : Hid (gy < w6.heap.size) := Y6.out.lt
      clear hb6 hv6
      have hnn : ¬ ((n : Int) ≠ (n : Int)) := by simp
      go_wp2_with fail
      clear hcp hnn
      go_loopw [12, 13] (fun vk vi wr => ∃ (i k : Nat), i ≤ n ∧ vi = .int .i64 (i : Int) ∧ vk = .int .i64 (k : Int) ∧ k ≤ n0 ∧ Hid ((madeP v v2 y0 n0 i).2 = k) ∧ Hid (Blk wr gy 5 (cellsB (madeP v v2 y0 n0 i).1).toArray) ∧ Hid (OB bw wr V vc v) ∧ Hid (OB bw wr V2 vc2 v2) ∧ Below gy W0 wr) (fun _ vi _ => n - (intOf vi).toNat)
      case atStart => exact ⟨0, n0, by omega, rfl, rfl, by omega, rfl, Y6.out, V6.out, U6.out, D6.out⟩
      case round =>
        clear Y6 V6 U6
        obtain ⟨i, k, hi, rfl, rfl, hkn, HK2, HBI, HVI, HUI, hbelI⟩ := hrel
        by_cases hin : i < n
        · have hii : (i : Int) < n := by omega
          have hi0 : (0 : Int) ≤ i := by omega
          have hlv := HL1.out
          have hlu := HL2.out
          obtain ⟨pv, ov, rfl, -, hcv⟩ := (HVI.out.br (by omega)).at_ (i := i) (by rw [HL1.out]; exact hin)
          obtain ⟨pu, ou, rfl, -, hcu⟩ := (HUI.out.br (by omega)).at_ (i := i) (by rw [HL2.out]; exact hin)
          clear hlv hlu
          have hx1 := HV1.out i
          have hx2 := HV2.out i
          have HYES : Hid (bt v i = 1 → bt v2 i = 0 → 0 < k → madeP v v2 y0 n0 (i + 1) = ((madeP v v2 y0 n0 i).1.set i 1, k - 1)) := fun g1 g2 g3 => by
            rw [madeP_yes (UInt8.toNat_inj.1 g1) (UInt8.toNat_inj.1 g2) (by rw [HK2.out]; exact g3), HK2.out]
          have HNO : Hid (¬ (bt v i = 1 ∧ bt v2 i = 0 ∧ 0 < k) → madeP v v2 y0 n0 (i + 1) = madeP v v2 y0 n0 i) := fun g => madeP_no (fun h => g ⟨by show (v.getD i 0).toNat = 1; rw [h.1]; rfl, by show (v2.getD i 0).toNat = 0; rw [h.2.1]; rfl, by rw [← HK2.out]; exact h.2.2⟩)
          have HLN : Hid ((madeP v v2 y0 n0 i).1.length = n) := by unfold Hid; rw [madeP_length, HYL.out]
          generalize bt v i = x1 at *
          generalize bt v2 i = x2 at *
          by_cases hyes : x1 = 1 ∧ x2 = 0 ∧ 0 < k
          · obtain ⟨rfl, rfl, hk0⟩ := hyes
            have HE := Lib.hid (HYES.out rfl rfl hk0)
            have hki : (0 : Int) < k := by omega
            obtain ⟨k', hk'⟩ : ∃ k', k - 1 = k' := ⟨_, rfl⟩
            have ek : IntKind.i64.wrap ((k : Int) - 1) = (k' : Int) := by rw [IntKind.wrap_i64]; omega
            have ek2 : (k : Int) - 1 = (k' : Int) := by omega
            have kc : wr.cell? ⟨gy, i, none⟩ = some (.int .u8 (((madeP v v2 y0 n0 i).1.getD i 0).toNat : Int)) := (HBI.out.cell i).trans (bytes_get _ i (by rw [HLN.out]; exact hin))
            have kf := HBI.out.frozen i
            have HKK := Lib.hid hk'
            have hkk : k' ≤ n0 := by omega
            have BN : Hid (Blk (wr.setCell ⟨gy, i, none⟩ (.int .u8 1)) gy 5 (cellsB (madeP v v2 y0 n0 (i + 1)).1).toArray) := by
              unfold Hid
              have := HBI.out.set_ i (.int .u8 1)
              rw [cellsB_put] at this
              rw [HE.out]
              exact this
            have K2N : Hid ((madeP v v2 y0 n0 (i + 1)).2 = k') := by unfold Hid; rw [HE.out]; exact hk'
            have VN : Hid (OB bw (wr.setCell ⟨gy, i, none⟩ (.int .u8 1)) (some ⟨pv, ov, none⟩) vc v) := HVI.out.far (p := ⟨gy, i, none⟩) HGW.out _
            have UN : Hid (OB bw (wr.setCell ⟨gy, i, none⟩ (.int .u8 1)) (some ⟨pu, ou, none⟩) vc2 v2) := HUI.out.far (p := ⟨gy, i, none⟩) HGW.out _
            have DN : Hid (Below gy W0 (wr.setCell ⟨gy, i, none⟩ (.int .u8 1))) := hbelI.setCell (p := ⟨gy, i, none⟩) (Nat.le_refl _) _
            clear hk' hin hx1 hx2
            go_wp2_with fail
            go_roundw
            case rel => exact ⟨i + 1, k', by omega, by go_num, rfl, hkk, K2N.out, BN.out, VN.out, UN.out, DN.out⟩
            case measure => simp [intOf]; omega
          · have HE := Lib.hid (HNO.out hyes)
            have K2N : Hid ((madeP v v2 y0 n0 (i + 1)).2 = k) := by unfold Hid; rw [HE.out]; exact HK2.out
            have BN : Hid (Blk wr gy 5 (cellsB (madeP v v2 y0 n0 (i + 1)).1).toArray) := by unfold Hid; rw [HE.out]; exact HBI.out
            have hx1' : x1 = 0 ∨ x1 = 1 := by omega
            have hx2' : x2 = 0 ∨ x2 = 1 := by omega
            have hways : x1 = 0 ∨ (x1 = 1 ∧ x2 = 1) ∨ (x1 = 1 ∧ x2 = 0 ∧ k = 0) := by omega
            clear hyes hx1 hx2 hx1' hx2' HYES HNO hin
            rcases hways with rfl | ⟨rfl, rfl⟩ | ⟨rfl, rfl, rfl⟩
            all_goals
              go_wp2_with fail
              go_roundw
              case rel => exact ⟨i + 1, _, by omega, by go_num, rfl, hkn, K2N.out, BN.out, HVI.out, HUI.out, hbelI⟩
              case measure => simp [intOf]; omega
        · obtain rfl : i = n := by omega
          have hx5 : ¬ ((i : Int) < (i : Int)) := by omega
          have BN : Hid (Blk wr gy 5 (cellsB (madeB at_ i d ws (b + 1))).toArray) := by unfold Hid; rw [HNX.out]; exact HBI.out
          go_wp2_with fail
          go_roundw
          case rel => exact ⟨b + 1, by omega, by go_num, BN.out, hbelI⟩
          case measure => simp [intOf]; omega
    · obtain rfl : b = mw := by omega
      have hx5 : ¬ ((b : Int) < (b : Int)) := by omega
      go_wp2_with fail
      go_ret2
      exact ⟨⟨_, _, rfl, (Blk.ob HB.out (Nat.zero_le _) (HMB.out b) rfl (by omega) : OB 0 wr (some ⟨gy, 0, none⟩) n _).br (by rw [HMB.out]; omega)⟩, bel_on b0.out hbel⟩
end Go.Proofs.YtenpkmgbaajeeaaGreat

/- Which users are named for some weights: the laws' helper. -/
namespace Go.Proofs.YtenpkmgbaajeeaaGreat
open Go.RowKit
set_option linter.unusedVariables false
set_option linter.unusedSimpArgs false

theorem StV.made_copy (s : StV) (ws : List Nat) : copyB (s.made ws) s.n = true := by
  unfold copyB
  rw [Bool.and_eq_true, decide_eq_true_eq]
  refine ⟨madeB_length _ _ _ _ _, symB_iff.2 fun i hi => ?_⟩
  have := madeB_bit s.at_ s.n s.b.toNat ws (s.u.toNat - 1) i
  show bt (s.made ws) i ≤ 2
  unfold bt StV.made madeS
  omega
theorem StV.made_wts {s : StV} (hok : s.ok = true) {ws : List Nat} {mw : Nat} (hl : ws.length = mw) (hml : s.u = ((mw + 1 : Nat) : Int)) (hw : ∀ b, b < mw → (ws.getD b 0 : Int) ≤ s.b) : s.wts (s.made ws) = ws := by
  obtain ⟨d, m, hd, hu, hd1, hd2, hm1, hm2, hn⟩ := StV.nats hok
  obtain ⟨hn1, hn2, -⟩ := StV.n_le hok
  obtain rfl : mw = m := by omega
  have ha := StV.arr (s := s) (by omega)
  have hp : s.at_.Perm (List.range s.n) := arrS_perm fun i hi => s.num_le (by omega)
  unfold StV.wts StV.made
  rw [hd, hu, Int.toNat_natCast, Int.toNat_natCast, Nat.add_sub_cancel]
  rw [hn] at ha hp ⊢
  exact made_weights ha hp (by omega) hl (fun b hb => by have := hw b hb; omega)

set_option maxHeartbeats 8000000 in
set_option maxRecDepth 1000000 in
theorem lawNames_any (s : StV) (P : Option Addr) (c : Nat) (ws : List Nat) (Q : Option Addr) (cq : Nat) (want : List Int) (w : World) (hS_ : StOK w s) (hok : s.ok = true) {mw nq : Nat} (hl : ws.length = mw) (hq : want.length = nq) (hml : s.u = ((mw + 1 : Nat) : Int)) (hw : ∀ b, b < mw → (ws.getD b 0 : Int) ≤ s.b) (hP : IR w P c (natI ws)) (hQ : IR w Q cq want) :
    Calls Tryz.prog 59 #[.agg s.cs.toArray, .slice P mw c, .slice Q nq cq] w fun e w' => e = .returned (.bool (sameI (s.nmsW ws) want)) ∧ Below w.heap.size w w' := by
  have hk := hS_.k16
  obtain ⟨⟨q1, q2, q3, q4⟩, -⟩ := StV.parts hok
  have HMD : Hid (∀ W, Below w.heap.size w W → Calls Tryz.prog 118 #[.agg s.cs.toArray, .slice P mw c] W fun e w' => (∃ A c', e = .returned (.tuple #[.slice A s.n c', .bool true]) ∧ BR w' A c' (s.made ws)) ∧ Below W.heap.size W w') := fun W hW => made_any s P c ws W (hS_.below hW) hok hl hml (fun b hb => by have := hw b hb; omega) (hP.below hW)
  have hcp := s.made_copy ws
  have hwt := StV.made_wts hok hl hml hw
  have hyl : (s.made ws).length = s.n := madeB_length _ _ _ _ _
  obtain ⟨nl, hnl⟩ : ∃ q, (s.nmsW ws).length = q := ⟨_, rfl⟩
  have HTR : Hid (∀ A c' W, Below w.heap.size w W → BR W A c' (s.made ws) → Calls Tryz.prog 26 #[.agg s.cs.toArray, .slice A s.n c'] W fun e w' => (∃ A c, e = .returned (.tuple #[.slice A nl c, .int .i64 0]) ∧ IR w' A c (s.nmsW ws)) ∧ Below W.heap.size W w') := fun A c' W hW hA => by
    refine (TraceSteps_any s A c' (s.made ws) W (hS_.below hW) hyl hA).mono fun e w' h => ?_
    have e1 : s.nmsR (s.made ws) = (s.nmsW ws, 0) := by unfold StV.nmsR StV.nms; rw [hok, hcp, hwt]; rfl
    rw [e1] at h
    obtain ⟨⟨A, c, h1, h2⟩, h3⟩ := h
    exact ⟨⟨A, c, by rw [← hnl]; exact h1, h2⟩, h3⟩
  have HWE : Hid (∀ A c' W, Below w.heap.size w W → BR W A c' (s.made ws) → Calls Tryz.prog 23 #[.agg s.cs.toArray, .slice A s.n c'] W fun e w' => (∃ A c, e = .returned (.tuple #[.slice A mw c, .int .i64 0]) ∧ IR w' A c (natI ws)) ∧ Below W.heap.size W w') := fun A c' W hW hA => by
    refine (Weights_any s A c' (s.made ws) W (hS_.below hW) hyl hA).mono fun e w' h => ?_
    have e1 : s.wtsR (s.made ws) = (natI ws, 0) := by unfold StV.wtsR; rw [hok, hcp, hwt]; rfl
    rw [e1] at h
    obtain ⟨⟨A, c, h1, h2⟩, h3⟩ := h
    have e2 : (natI ws).length = mw := by simp [natI, hl]
    exact ⟨⟨A, c, by rw [← e2]; exact h1, h2⟩, h3⟩
  have HS1 : Hid (∀ A c' W, Below w.heap.size w W → IR W A c' (s.nmsW ws) → Calls Tryz.prog 25 #[.slice A nl c', .slice Q nq cq] W fun e w' => e = .returned (.bool (sameI (s.nmsW ws) want)) ∧ Below W.heap.size W w') := fun A c' W hW hA => SameInts_any A c' _ Q cq want W hnl hq hA (hQ.below hW)
  have HS2 : Hid (∀ A c' W, Below w.heap.size w W → IR W A c' (natI ws) → Calls Tryz.prog 25 #[.slice A mw c', .slice P mw c] W fun e w' => e = .returned (.bool true) ∧ Below W.heap.size W w') := fun A c' W hW hA => by
    have h1 : (natI ws).length = mw := by simp [natI, hl]
    have := SameInts_any A c' _ P c (natI ws) W h1 h1 hA (hP.below hW)
    rwa [show sameI (natI ws) (natI ws) = true from decide_eq_true rfl] at this
  obtain ⟨W0, hW0⟩ : ∃ W : World, W = w.alloc (.cells s.cs.toArray 29) := ⟨_, rfl⟩
  have b0 : Hid (Below w.heap.size w W0) := by unfold Hid; rw [hW0]; exact alloc_bel _ _
  have x0 : Hid (Blk W0 w.heap.size 29 s.cs.toArray) := by unfold Hid; rw [hW0]; exact Blk.new w _ _
  have HW0 := Lib.hid hW0
  have HIN := Lib.hid (StV.info (s := s) hk)
  generalize s.made ws = y at *
  generalize s.n = n at *
  generalize s.cs.toArray = cs at *
  obtain ⟨r, hr⟩ : ∃ r, sameI (s.nmsW ws) want = r := ⟨_, rfl⟩
  rw [hr] at HS1 ⊢
  generalize s.nmsW ws = nm at *
  clear hW0 hS_ hok hk hl hq hml hw hP hQ hcp hwt hyl hnl q1 q2 q3 q4 hr
  cases r
  all_goals
    go_enter Tryz.func59, Tryz.ntmps59
    go_wp2_with (first
      | (rw [← HW0.out])
      | (refine wpList_load_row rfl 29 (.tmp 3) rfl w.heap.size rfl 29 cs (0, 0) _ x0.out Tryz.underlying29 rfl HIN.out ?_)
      | (go_at_call 118; (with_reducible refine (HMD.out _ b0.out).mono ?_); rintro e w1 ⟨⟨A1, c1, rfl, hy1⟩, hb⟩; have D1 := Lib.hid (bel_on b0.out hb); have X1 := Lib.hid (x0.out.below' hb); have Y1 := Lib.hid hy1; clear hb hy1)
      | (refine wpList_load_row rfl 29 (.tmp 3) rfl w.heap.size rfl 29 cs (0, 0) _ X1.out Tryz.underlying29 rfl HIN.out ?_)
      | (go_at_call 26; (with_reducible refine (HTR.out _ _ _ D1.out Y1.out).mono ?_); rintro e w2 ⟨⟨A2, c2, rfl, hn2⟩, hb⟩; have D2 := Lib.hid (bel_on D1.out hb); have X2 := Lib.hid (X1.out.below' hb); have Y2 := Lib.hid (Y1.out.below hb); have N2 := Lib.hid hn2; clear hb hn2)
      | (refine wpList_load_row rfl 29 (.tmp 3) rfl w.heap.size rfl 29 cs (0, 0) _ X2.out Tryz.underlying29 rfl HIN.out ?_)
      | (go_at_call 23; (with_reducible refine (HWE.out _ _ _ D2.out Y2.out).mono ?_); rintro e w3 ⟨⟨A3, c3, rfl, hn3⟩, hb⟩; have D3 := Lib.hid (bel_on D2.out hb); have N3 := Lib.hid (N2.out.below hb); have M3 := Lib.hid hn3; clear hb hn3)
      | (go_at_call 25; (with_reducible refine (HS1.out _ _ _ D3.out N3.out).mono ?_); rintro e w4 ⟨rfl, hb⟩; have D4 := Lib.hid (bel_on D3.out hb); have M4 := Lib.hid (M3.out.below hb); clear hb)
      | (go_at_call 25; (with_reducible refine (HS2.out _ _ _ D4.out M4.out).mono ?_); rintro e w5 ⟨rfl, hb⟩; have D5 := Lib.hid (bel_on D4.out hb); clear hb))
    go_ret
    first | exact ⟨by simp, D5.out⟩ | exact ⟨by simp, D4.out⟩
end Go.Proofs.YtenpkmgbaajeeaaGreat

/- The outright laws' small fractions. -/
namespace Go.Proofs.YtenpkmgbaajeeaaGreat
open Go.RowKit
set_option linter.unusedVariables false
set_option linter.unusedSimpArgs false

theorem refOfB_any (n : Nat) (w : World) (h : n < 2 ^ 64) :
    Calls Tryz.prog 53 #[.int .u64 (n : Int)] w fun e w' => (∃ A c, e = .returned (.slice A (digs n).length c) ∧ NR w' A c (digs n)) ∧ Below w.heap.size w w' := by
  refine (refOf_any n w h).mono fun e w' h => ?_
  obtain ⟨A', c', he, hf, hbl⟩ := h
  exact ⟨⟨A', c', he, hf.1⟩, hbl⟩
theorem sm_64 {n : Nat} (h : n < 2 ^ 64) : Sm n := Nat.le_trans (digs_len_le (k := 2) (Nat.lt_of_lt_of_le h (by decide +kernel))) (by omega)
set_option maxHeartbeats 2000000 in
set_option maxRecDepth 100000 in
theorem ratio_any (a b : Nat) (w : World) (ha : a < 2 ^ 64) (hb : b < 2 ^ 64) (h0 : b ≠ 0) :
    Calls Tryz.prog 60 #[.int .u64 (a : Int), .int .u64 (b : Int)] w fun e w' => ∃ v, e = .returned v ∧ FracNew w w' v (lowS a b) := by
  obtain ⟨la, hla⟩ : ∃ q, (digs a).length = q := ⟨_, rfl⟩
  obtain ⟨lb, hlb⟩ : ∃ q, (digs b).length = q := ⟨_, rfl⟩
  have HA : Hid (∀ W, Calls Tryz.prog 53 #[.int .u64 (a : Int)] W fun e w' => (∃ O o, e = .returned (.slice O la o) ∧ NR w' O o (digs a)) ∧ Below W.heap.size W w') := fun W => by rw [← hla]; exact refOfB_any a W ha
  have HB : Hid (∀ W, Calls Tryz.prog 53 #[.int .u64 (b : Int)] W fun e w' => (∃ O o, e = .returned (.slice O lb o) ∧ NR w' O o (digs b)) ∧ Below W.heap.size W w') := fun W => by rw [← hlb]; exact refOfB_any b W hb
  have HL : Hid (∀ R r T t W, NR W R r (digs a) → NR W T t (digs b) → Calls Tryz.prog 82 #[.slice R la r, .slice T lb t] W fun e w' => ∃ v, e = .returned v ∧ FracNew W w' v (lowS a b)) := fun R r T t W g1 g2 => lowestD_any (sm_64 ha) (sm_64 hb) h0 hla hlb g1 g2
  obtain ⟨rr, hrr⟩ : ∃ q, lowS a b = q := ⟨_, rfl⟩
  rw [hrr] at HL ⊢
  obtain ⟨r1, r2⟩ := rr
  obtain ⟨W0, hW0⟩ : ∃ W : World, W = w.alloc (.cells #[.slice none 0 0, .slice none 0 0] 27) := ⟨_, rfl⟩
  have b0 : Hid (Below w.heap.size w W0) := by unfold Hid; rw [hW0]; exact alloc_bel _ _
  have y0 : Hid (Blk W0 w.heap.size 27 #[.slice none 0 0, .slice none 0 0]) := by unfold Hid; rw [hW0]; exact Blk.new _ _ _
  have HW0 := Lib.hid hW0
  generalize digs a = da at *
  generalize digs b = db at *
  clear hrr hW0 h0 hla hlb
  obtain ⟨ia, hia⟩ : ∃ q : Int, (a : Int) = q := ⟨_, rfl⟩
  obtain ⟨ib, hib⟩ : ∃ q : Int, (b : Int) = q := ⟨_, rfl⟩
  rw [hia] at HA ⊢
  rw [hib] at HB ⊢
  clear hia hib ha hb
  go_enter Tryz.func60, Tryz.ntmps60
  go_wp2_with (rw [← HW0.out])
  refine (HA.out _).mono ?_
  rintro e w1 ⟨⟨O1, o1, rfl, h1⟩, hb1⟩
  go_wp2_with fail
  refine (HB.out _).mono ?_
  rintro e w2 ⟨⟨O2, o2, rfl, h2⟩, hb2⟩
  go_wp2_with fail
  refine (HL.out _ _ _ _ _ (h1.below hb2) h2).mono ?_
  rintro e w3 ⟨v, rfl, Xa, xc, Yf, yd, rfl, hXX, hYY, hap, hbf⟩
  have DF := bel_on (bel_on hb1 hb2) hbf
  have QF := y0.out.below' DF
  have k0 := QF.cell 0
  have k1 := QF.cell 1
  have f0 := QF.frozen 0
  have f1 := QF.frozen 1
  have HLE : Hid (w.heap.size + 1 ≤ w2.heap.size) := Nat.le_trans y0.out.lt (bel_on hb1 hb2).size
  have HFX := Lib.hid (hXX.mono HLE.out)
  have HFY := Lib.hid (hYY.mono HLE.out)
  have HAP := Lib.hid hap
  have HBF := Lib.hid (bel_on b0.out DF)
  have RB := (QF.set_ 0 (.slice Xa r1.length xc)).set_ 1 (.slice Yf r2.length yd)
  have z0 := RB.cell 0
  have z1 := RB.cell 1
  clear QF hXX hYY hap hbf DF RB h1 h2 hb1 hb2
  dsimp only at *
  go_wp2_with fail
  exact bodyPost_ret (v := .agg #[.slice Xa r1.length xc, .slice Yf r2.length yd]) (by simp [results, Tryz.f60, go_sem, z0, z1, k0, k1, f0, f1]) rfl ⟨_, rfl, fracNew_store HFX.out HFY.out HAP.out (Nat.le_refl _) HBF.out _ _⟩

/-- A call returned a fraction of small numbers. -/
def isB (p1 p2 : List Nat) (er : Int) (a b : Nat) : Bool := decide (er = 0) && (sameB p1 (lowS a b).1 && sameB p2 (lowS a b).2)
set_option maxHeartbeats 4000000 in
set_option maxRecDepth 100000 in
theorem is_any (X : Option Addr) (cx : Nat) (x : List Nat) (Z : Option Addr) (cz : Nat) (z : List Nat) (er : Int) (a b : Nat) (w : World) {lx lz : Nat} (hlx : x.length = lx) (hlz : z.length = lz) (hx : NR w X cx x) (hz : NR w Z cz z) (ha : a < 2 ^ 64) (hb : b < 2 ^ 64) (h0 : b ≠ 0) :
    Calls Tryz.prog 48 #[.agg #[.slice X lx cx, .slice Z lz cz], .int .i64 er, .int .u64 (a : Int), .int .u64 (b : Int)] w fun e w' => e = .returned (.bool (isB x z er a b)) ∧ Below w.heap.size w w' := by
  have mixed : Tryz.prog.follows Departure.mixedOrders = true := by kernel_rfl
  have HR : Hid (∀ W, Calls Tryz.prog 60 #[.int .u64 (a : Int), .int .u64 (b : Int)] W fun e w' => ∃ v, e = .returned v ∧ FracNew W w' v (lowS a b)) := fun W => ratio_any a b W ha hb h0
  have HSF : Hid (∀ W X2 x2 Z2 z2, Below w.heap.size w W → NR W X2 x2 (lowS a b).1 → NR W Z2 z2 (lowS a b).2 → Calls Tryz.prog 30 #[.agg #[.slice X lx cx, .slice Z lz cz], .agg #[.slice X2 (lowS a b).1.length x2, .slice Z2 (lowS a b).2.length z2]] W fun e w' => e = .returned (.bool (sameB x (lowS a b).1 && sameB z (lowS a b).2)) ∧ Below W.heap.size W w') := fun W X2 x2 Z2 z2 hW g1 g2 => SameFraction_any X cx x Z cz z X2 x2 _ Z2 z2 _ W hlx hlz rfl rfl (hx.below hW) (hz.below hW) g1 g2
  obtain ⟨W0, hW0⟩ : ∃ W : World, W = w.alloc (.cells #[.slice X lx cx, .slice Z lz cz] 27) := ⟨_, rfl⟩
  have b0 : Hid (Below w.heap.size w W0) := by unfold Hid; rw [hW0]; exact alloc_bel _ _
  have y0 : Hid (Blk W0 w.heap.size 27 #[.slice X lx cx, .slice Z lz cz]) := by unfold Hid; rw [hW0]; exact Blk.new _ _ _
  have HW0 := Lib.hid hW0
  have HS : Hid (∀ r, (sameB x (lowS a b).1 && sameB z (lowS a b).2) = r → isB x z er a b = (decide (er = 0) && r)) := fun r h => by unfold isB; rw [h]
  obtain ⟨q, hq⟩ : ∃ q, (sameB x (lowS a b).1 && sameB z (lowS a b).2) = q := ⟨_, rfl⟩
  have HIS := Lib.hid (HS.out q hq)
  rw [hq] at HSF
  obtain ⟨rr, hrr⟩ : ∃ q, lowS a b = q := ⟨_, rfl⟩
  rw [hrr] at HR HSF
  obtain ⟨ia, hia⟩ : ∃ q : Int, (a : Int) = q := ⟨_, rfl⟩
  obtain ⟨ib, hib⟩ : ∃ q : Int, (b : Int) = q := ⟨_, rfl⟩
  rw [hia] at HR ⊢
  rw [hib] at HR ⊢
  have HSX : Hid (∀ W, Below W0.heap.size W0 W → W.rangeAt w.heap.size 0 [.slice X lx cx, .slice Z lz cz]) := fun W hW => (y0.out.below' hW).range
  rw [HIS.out]
  clear hW0 hlx hlz hx hz ha hb h0 hq hrr HS HIS hia hib
  by_cases he : er = 0
  · subst he
    go_enter Tryz.func48, Tryz.ntmps48
    go_wp2_with (rw [← HW0.out])
    refine wp_region_noPanic ?_
    obtain ⟨v0, hv0⟩ : ∃ W, W = W0.drew := ⟨_, rfl⟩
    have k0 : Below W0.heap.size W0 v0 := by rw [hv0]; exact (Below.refl _ _).drew
    refine wp_region_held_drew (S := fun W => W.rangeAt w.heap.size 0 [.slice X lx cx, .slice Z lz cz]) (by kernel_rfl) (by rw [← hv0]; exact HSX.out _ k0) (fun hS0 => ?_)
    rw [← hv0] at hS0 ⊢
    clear hv0
    refine hd_take 0 (.int .i64 0) rfl rfl (by kernel_rfl) (by kernel_rfl) (by kernel_rfl) (fun _ _ _ h => h) (fun w hw => by go_simp) hS0 ?_
    simp only [List.getElem_toArray, List.getElem_cons_succ, List.getElem_cons_zero, Act.put, List.setIfInBounds_toArray, List.set_cons_zero, List.set_cons_succ]
    refine hd_take 1 (.bool true) rfl rfl (by kernel_rfl) (by kernel_rfl) (by kernel_rfl) (fun _ _ _ h => h) (fun w hw => by go_simp) hS0 ?_
    simp only [List.getElem_toArray, List.getElem_cons_succ, List.getElem_cons_zero, Act.put, List.setIfInBounds_toArray, List.set_cons_zero, List.set_cons_succ]
    refine hd_take 2 (.bool true) rfl rfl (by kernel_rfl) (by kernel_rfl) (by kernel_rfl) (fun _ _ _ h => h) (fun w hw => by go_simp) hS0 ?_
    simp only [List.getElem_toArray, List.getElem_cons_succ, List.getElem_cons_zero, Act.put, List.setIfInBounds_toArray, List.set_cons_zero, List.set_cons_succ]
    refine hg_load 3 w.heap.size 0 [.slice X lx cx, .slice Z lz cz] _ _ rfl rfl rfl (by kernel_rfl) (by kernel_rfl) (by kernel_rfl) (fun _ _ _ h => h) rfl (fun w hw => hw) Tryz.underlying27 rfl (by kernel_rfl) hS0 ?_
    simp only [List.getElem_toArray, List.getElem_cons_succ, List.getElem_cons_zero, Act.put, List.setIfInBounds_toArray, List.set_cons_zero, List.set_cons_succ]
    refine hg_take 4 (.int .u64 ia) rfl rfl (by kernel_rfl) (by kernel_rfl) (by kernel_rfl) (fun _ _ _ h => h) (fun w _ => by go_simp) hS0 ?_
    simp only [List.getElem_toArray, List.getElem_cons_succ, List.getElem_cons_zero, Act.put, List.setIfInBounds_toArray, List.set_cons_zero, List.set_cons_succ]
    refine hg_take 5 (.int .u64 ib) rfl rfl (by kernel_rfl) (by kernel_rfl) (by kernel_rfl) (fun _ _ _ h => h) (fun w _ => by go_simp) hS0 ?_
    simp only [List.getElem_toArray, List.getElem_cons_succ, List.getElem_cons_zero, Act.put, List.setIfInBounds_toArray, List.set_cons_zero, List.set_cons_succ]
    refine hg_calls 6 60 #[.int .u64 ia, .int .u64 ib] rfl rfl (by kernel_rfl) (by go_simp) ((HR.out _).mono ?_)
    rintro e w1 ⟨v, rfl, Xa, xc, Yf, yd, rfl, hXX, hYY, hap, hbf⟩
    have k1 := bel_on k0 hbf
    have hS1 := HSX.out _ k1
    refine ⟨_, rfl, hS1, ?_⟩
    simp only [List.getElem_toArray, List.getElem_cons_succ, List.getElem_cons_zero, Act.put, List.setIfInBounds_toArray, List.set_cons_zero, List.set_cons_succ]
    refine hg_calls 7 30 #[.agg #[.slice X lx cx, .slice Z lz cz], .agg #[.slice Xa rr.1.length xc, .slice Yf rr.2.length yd]] rfl rfl (by kernel_rfl) (by go_simp) ((HSF.out _ _ _ _ _ (bel_on b0.out k1) hXX.nr_ hYY.nr_).mono ?_)
    rintro e w2 ⟨rfl, hb2⟩
    have k2 := bel_on k1 hb2
    have hS2 := HSX.out _ k2
    refine ⟨_, rfl, hS2, ?_⟩
    simp only [List.getElem_toArray, List.getElem_cons_succ, List.getElem_cons_zero, Act.put, List.setIfInBounds_toArray, List.set_cons_zero, List.set_cons_succ]
    refine hd_take 8 (.bool q) rfl rfl (by kernel_rfl) (by kernel_rfl) (by kernel_rfl) (fun _ _ _ h => h) (fun w hw => by go_simp) hS2 ?_
    simp only [List.getElem_toArray, List.getElem_cons_succ, List.getElem_cons_zero, Act.put, List.setIfInBounds_toArray, List.set_cons_zero, List.set_cons_succ]
    refine hd_take 9 (.bool q) rfl rfl (by kernel_rfl) (by kernel_rfl) (by kernel_rfl) (fun _ _ _ h => h) (fun w hw => by go_simp) hS2 ?_
    refine wpAnyH_done (by kernel_rfl) (NoPanic.normal ?_) _
    simp only [List.getElem_toArray, List.getElem_cons_succ, List.getElem_cons_zero, Act.put, List.setIfInBounds_toArray, List.set_cons_zero, List.set_cons_succ]
    have K2 := Lib.hid (bel_on b0.out k2)
    clear k0 k1 k2 hS0 hS1 hS2 hb2 hXX hYY hap hbf
    go_wp2_with fail
    go_ret
    exact ⟨by simp, K2.out⟩
  · have hd : decide (er = 0) = false := decide_eq_false he
    have he2 : (er == 0) = false := by simpa using he
    have HD := Lib.hid hd
    clear hd
    go_enter Tryz.func48, Tryz.ntmps48
    go_wp2_with (rw [← HW0.out])
    refine wp_region_noPanic ?_
    obtain ⟨v0, hv0⟩ : ∃ W, W = W0.drew := ⟨_, rfl⟩
    have k0 : Below W0.heap.size W0 v0 := by rw [hv0]; exact (Below.refl _ _).drew
    refine wp_region_held_drew (S := fun W => W.rangeAt w.heap.size 0 [.slice X lx cx, .slice Z lz cz]) (by kernel_rfl) (by rw [← hv0]; exact HSX.out _ k0) (fun hS0 => ?_)
    rw [← hv0] at hS0 ⊢
    clear hv0
    refine hd_take 0 (.int .i64 er) rfl rfl (by kernel_rfl) (by kernel_rfl) (by kernel_rfl) (fun _ _ _ h => h) (fun w hw => by go_simp) hS0 ?_
    simp only [List.getElem_toArray, List.getElem_cons_succ, List.getElem_cons_zero, Act.put, List.setIfInBounds_toArray, List.set_cons_zero, List.set_cons_succ]
    refine hd_take 1 (.bool false) rfl rfl (by kernel_rfl) (by kernel_rfl) (by kernel_rfl) (fun _ _ _ h => h) (fun w hw => by simp [go_sem, he]) hS0 ?_
    simp only [List.getElem_toArray, List.getElem_cons_succ, List.getElem_cons_zero, Act.put, List.setIfInBounds_toArray, List.set_cons_zero, List.set_cons_succ]
    refine hd_take 2 (.bool false) rfl rfl (by kernel_rfl) (by kernel_rfl) (by kernel_rfl) (fun _ _ _ h => h) (fun w hw => by go_simp) hS0 ?_
    simp only [List.getElem_toArray, List.getElem_cons_succ, List.getElem_cons_zero, Act.put, List.setIfInBounds_toArray, List.set_cons_zero, List.set_cons_succ]
    refine hg_skip 3 rfl rfl (by kernel_rfl) (by kernel_rfl) (by kernel_rfl) (fun _ _ _ h => h) hS0 ?_
    simp only [List.getElem_toArray, List.getElem_cons_succ, List.getElem_cons_zero, Act.put, List.setIfInBounds_toArray, List.set_cons_zero, List.set_cons_succ]
    refine hg_skip 4 rfl rfl (by kernel_rfl) (by kernel_rfl) (by kernel_rfl) (fun _ _ _ h => h) hS0 ?_
    simp only [List.getElem_toArray, List.getElem_cons_succ, List.getElem_cons_zero, Act.put, List.setIfInBounds_toArray, List.set_cons_zero, List.set_cons_succ]
    refine hg_skip 5 rfl rfl (by kernel_rfl) (by kernel_rfl) (by kernel_rfl) (fun _ _ _ h => h) hS0 ?_
    simp only [List.getElem_toArray, List.getElem_cons_succ, List.getElem_cons_zero, Act.put, List.setIfInBounds_toArray, List.set_cons_zero, List.set_cons_succ]
    refine hg_skip 6 rfl rfl (by kernel_rfl) (by kernel_rfl) (by kernel_rfl) (fun _ _ _ h => h) hS0 ?_
    simp only [List.getElem_toArray, List.getElem_cons_succ, List.getElem_cons_zero, Act.put, List.setIfInBounds_toArray, List.set_cons_zero, List.set_cons_succ]
    refine hg_skip 7 rfl rfl (by kernel_rfl) (by kernel_rfl) (by kernel_rfl) (fun _ _ _ h => h) hS0 ?_
    simp only [List.getElem_toArray, List.getElem_cons_succ, List.getElem_cons_zero, Act.put, List.setIfInBounds_toArray, List.set_cons_zero, List.set_cons_succ]
    refine hd_take 8 (.bool false) rfl rfl (by kernel_rfl) (by kernel_rfl) (by kernel_rfl) (fun _ _ _ h => h) (fun w hw => by go_simp) hS0 ?_
    simp only [List.getElem_toArray, List.getElem_cons_succ, List.getElem_cons_zero, Act.put, List.setIfInBounds_toArray, List.set_cons_zero, List.set_cons_succ]
    refine hd_take 9 (.bool false) rfl rfl (by kernel_rfl) (by kernel_rfl) (by kernel_rfl) (fun _ _ _ h => h) (fun w hw => by go_simp) hS0 ?_
    refine wpAnyH_done (by kernel_rfl) (NoPanic.normal ?_) _
    simp only [List.getElem_toArray, List.getElem_cons_succ, List.getElem_cons_zero, Act.put, List.setIfInBounds_toArray, List.set_cons_zero, List.set_cons_succ]
    have K2 := Lib.hid (bel_on b0.out k0)
    clear k0 hS0
    go_wp2_with fail
    go_ret
    exact ⟨by rw [HD.out]; rfl, K2.out⟩
end Go.Proofs.YtenpkmgbaajeeaaGreat

/- The chapter's two codes. -/
namespace Go.Proofs.YtenpkmgbaajeeaaGreat
open Go.RowKit
set_option linter.unusedVariables false
set_option linter.unusedSimpArgs false

theorem one19 (a b : Int) (A : Option Addr) (n c : Nat) : ((#[.int .i64 a, .int .i64 b, .slice A n c, .int .u8 0, .int .u8 0, .int .u8 0, .int .u8 0, .int .u8 0, .int .u8 0, .int .u8 0, .int .u8 0, .int .u8 0, .int .u8 0, .int .u8 0, .int .u8 0, .int .u8 0, .int .u8 0, .int .u8 0, .int .u8 0] : Array Value).all (·.oneCell')) = true := by simp [Value.oneCell']
theorem one20 (a b : Int) (A : Option Addr) (n c : Nat) (B : Option Addr) (m d : Nat) : ((#[.int .i64 a, .int .i64 b, .int .u8 0, .int .u8 0, .int .u8 0, .int .u8 0, .int .u8 0, .int .u8 0, .int .u8 0, .int .u8 0, .int .u8 0, .int .u8 0, .int .u8 0, .int .u8 0, .int .u8 0, .int .u8 0, .int .u8 0, .int .u8 0, .slice A n c, .slice B m d] : Array Value).all (·.oneCell')) = true := by simp [Value.oneCell']
theorem grown_setRow (w : World) (g : Nat) (cs : Array Value) (hs : (w.setRow g cs).heap.size = w.heap.size) : w.grownBy (w.setRow g cs) (some g) := ⟨rfl, rfl, rfl, by rw [hs]; exact Nat.le_refl _, fun k hk hne => setRow_other w g k cs (by simpa using hne)⟩
set_option maxHeartbeats 4000000 in
set_option maxRecDepth 100000 in
theorem four_any (w : World) : Calls Tryz.prog 62 #[] w fun e w' => (∃ A c, e = .returned (.agg (scC 2 4 A 2 c zeroK).toArray) ∧ IR w' A c [1, 2]) ∧ Below w.heap.size w w' := by
  obtain ⟨W0, hW0⟩ : ∃ W : World, W = w.alloc (.cells #[.int .i64 0, .int .i64 0, .slice none 0 0, .int .u8 0, .int .u8 0, .int .u8 0, .int .u8 0, .int .u8 0, .int .u8 0, .int .u8 0, .int .u8 0, .int .u8 0, .int .u8 0, .int .u8 0, .int .u8 0, .int .u8 0, .int .u8 0, .int .u8 0, .int .u8 0] 46) := ⟨_, rfl⟩
  have b0 : Hid (Below w.heap.size w W0) := by unfold Hid; rw [hW0]; exact alloc_bel _ _
  have y0 : Hid (Blk W0 w.heap.size 46 #[.int .i64 0, .int .i64 0, .slice none 0 0, .int .u8 0, .int .u8 0, .int .u8 0, .int .u8 0, .int .u8 0, .int .u8 0, .int .u8 0, .int .u8 0, .int .u8 0, .int .u8 0, .int .u8 0, .int .u8 0, .int .u8 0, .int .u8 0, .int .u8 0, .int .u8 0]) := by unfold Hid; rw [hW0]; exact Blk.new _ _ _
  have hz0 : W0.heap.size = w.heap.size + 1 := by rw [hW0]; simp
  have HW0 := Lib.hid hW0
  obtain ⟨W1, hW1⟩ : ∃ W : World, W = W0.alloc (.cells #[.int .i64 1, .int .i64 2] 3) := ⟨_, rfl⟩
  have b1 : Hid (Below W0.heap.size W0 W1) := by unfold Hid; rw [hW1]; exact alloc_bel _ _
  have y1 : Hid (Blk W1 w.heap.size 46 #[.int .i64 0, .int .i64 0, .slice none 0 0, .int .u8 0, .int .u8 0, .int .u8 0, .int .u8 0, .int .u8 0, .int .u8 0, .int .u8 0, .int .u8 0, .int .u8 0, .int .u8 0, .int .u8 0, .int .u8 0, .int .u8 0, .int .u8 0, .int .u8 0, .int .u8 0]) := y0.out.below' b1.out
  have r1 : Hid (OI (w.heap.size + 1) W1 (some ⟨w.heap.size + 1, 0, none⟩) 2 [1, 2]) := by unfold Hid; rw [hW1, ← hz0]; exact OI.lit _ W0 [1, 2] (Nat.le_refl _) (by simp) rfl
  have HW1 := Lib.hid hW1
  have HZ := Lib.hid hz0
  clear hW0 hW1
  go_enter Tryz.func62, Tryz.ntmps62
  go_wp2_with (first
    | (rw [← HW0.out])
    | (rw [← HW1.out])
    | (refine wpList_store_row rfl 46 (.tmp 0) (.tmp 2) rfl w.heap.size #[.int .i64 2, .int .i64 4, .slice (some ⟨w.heap.size + 1, 0, none⟩) 2 2, .int .u8 0, .int .u8 0, .int .u8 0, .int .u8 0, .int .u8 0, .int .u8 0, .int .u8 0, .int .u8 0, .int .u8 0, .int .u8 0, .int .u8 0, .int .u8 0, .int .u8 0, .int .u8 0, .int .u8 0, .int .u8 0] rfl rfl 46 #[.int .i64 0, .int .i64 0, .slice none 0 0, .int .u8 0, .int .u8 0, .int .u8 0, .int .u8 0, .int .u8 0, .int .u8 0, .int .u8 0, .int .u8 0, .int .u8 0, .int .u8 0, .int .u8 0, .int .u8 0, .int .u8 0, .int .u8 0, .int .u8 0, .int .u8 0] y1.out (by kernel_rfl) rfl (one19 _ _ _ _ _) ?_; obtain ⟨W2, hV⟩ : ∃ W, W = W1.setRow w.heap.size #[.int .i64 2, .int .i64 4, .slice (some ⟨w.heap.size + 1, 0, none⟩) 2 2, .int .u8 0, .int .u8 0, .int .u8 0, .int .u8 0, .int .u8 0, .int .u8 0, .int .u8 0, .int .u8 0, .int .u8 0, .int .u8 0, .int .u8 0, .int .u8 0, .int .u8 0, .int .u8 0, .int .u8 0, .int .u8 0] := ⟨_, rfl⟩; rw [← hV]; have HV := Lib.hid hV; clear hV))
  have RB : Blk W2 w.heap.size 46 #[.int .i64 2, .int .i64 4, .slice (some ⟨w.heap.size + 1, 0, none⟩) 2 2, .int .u8 0, .int .u8 0, .int .u8 0, .int .u8 0, .int .u8 0, .int .u8 0, .int .u8 0, .int .u8 0, .int .u8 0, .int .u8 0, .int .u8 0, .int .u8 0, .int .u8 0, .int .u8 0, .int .u8 0, .int .u8 0] := by rw [HV.out]; exact y1.out.setRow _
  have DF : Below w.heap.size w W2 := by rw [HV.out]; exact below_setRow (bel_on b0.out b1.out) (Nat.le_refl _) _
  have RI : OI (w.heap.size + 1) W2 (some ⟨w.heap.size + 1, 0, none⟩) 2 [1, 2] := by
    rw [HV.out]
    have hs : (W1.setRow w.heap.size #[]).heap.size = W1.heap.size := by simp [World.setRow]
    refine World.ownsRow.kept r1.out (grown_setRow W1 w.heap.size _ (by simp [World.setRow])) ?_
    refine .inr fun e => ?_
    have h1 : w.heap.size + 1 = w.heap.size := Option.some.inj e
    omega
  exact bodyPost_ret (results_cell_row rfl _ _ w.heap.size _ _ (0, 0) _ rfl RB Tryz.underlying46 rfl (by kernel_rfl)) rfl ⟨⟨_, _, rfl, RI.ir (by simp) (by simp)⟩, DF⟩
/-- The chapter's code of steps. -/
def threeV (A : Option Addr) (ca : Nat) (Bd : Option Addr) (cb : Nat) : StV := ⟨3, 2, zeroK, A, ca, (lowS 1 6).1, Bd, cb, (lowS 1 6).2⟩
theorem NF.setRow_ {B : Nat} {w : World} {A : Option Addr} {c : Nat} {l : List Nat} (h : NF B w A c l) {g : Nat} (hg : g < B) (cs : Array Value) : NR (w.setRow g cs) A c l :=
  h.1.grown_ (fun hl b off e er => by
    have h1 := (h.fromB (Nat.le_refl _)) hl b off e
    have h2 : g = b := Option.some.inj er
    omega) (grown_setRow w g cs (by simp [World.setRow]))
set_option maxHeartbeats 4000000 in
set_option maxRecDepth 100000 in
theorem three_any (w : World) : Calls Tryz.prog 58 #[] w fun e w' => (∃ A ca Bd cb, e = .returned (.agg (threeV A ca Bd cb).cs.toArray) ∧ StOK w' (threeV A ca Bd cb)) ∧ Below w.heap.size w w' := by
  have HR : Hid (∀ W, Calls Tryz.prog 60 #[.int .u64 1, .int .u64 6] W fun e w' => ∃ v, e = .returned v ∧ FracNew W w' v (lowS 1 6)) := fun W => ratio_any 1 6 W (by omega) (by omega) (by omega)
  obtain ⟨W0, hW0⟩ : ∃ W : World, W = w.alloc (.cells #[.int .i64 0, .int .i64 0, .int .u8 0, .int .u8 0, .int .u8 0, .int .u8 0, .int .u8 0, .int .u8 0, .int .u8 0, .int .u8 0, .int .u8 0, .int .u8 0, .int .u8 0, .int .u8 0, .int .u8 0, .int .u8 0, .int .u8 0, .int .u8 0, .slice none 0 0, .slice none 0 0] 29) := ⟨_, rfl⟩
  have b0 : Hid (Below w.heap.size w W0) := by unfold Hid; rw [hW0]; exact alloc_bel _ _
  have y0 : Hid (Blk W0 w.heap.size 29 #[.int .i64 0, .int .i64 0, .int .u8 0, .int .u8 0, .int .u8 0, .int .u8 0, .int .u8 0, .int .u8 0, .int .u8 0, .int .u8 0, .int .u8 0, .int .u8 0, .int .u8 0, .int .u8 0, .int .u8 0, .int .u8 0, .int .u8 0, .int .u8 0, .slice none 0 0, .slice none 0 0]) := by unfold Hid; rw [hW0]; exact Blk.new _ _ _
  have HW0 := Lib.hid hW0
  unfold threeV
  generalize lowS 1 6 = rr at *
  obtain ⟨q1, q2⟩ := rr
  dsimp only at *
  obtain ⟨l1, hl1⟩ : ∃ q, q1.length = q := ⟨_, rfl⟩
  obtain ⟨l6, hl6⟩ : ∃ q, q2.length = q := ⟨_, rfl⟩
  have HL1 := Lib.hid hl1
  have HL6 := Lib.hid hl6
  clear hW0
  go_enter Tryz.func58, Tryz.ntmps58
  go_wp2_with (rw [← HW0.out])
  refine (HR.out _).mono ?_
  rintro e w3 ⟨v, rfl, Xa, xc, Yf, yd, rfl, hXX, hYY, hap, hbf⟩
  have y3 := Lib.hid (y0.out.below' hbf)
  have HB := Lib.hid hbf
  have HX := Lib.hid hXX
  have HY := Lib.hid hYY
  dsimp only
  rw [hl1, hl6]
  clear hbf hXX hYY hap hl1 hl6
  go_wp2_with (first
    | (refine wpList_store_row rfl 29 (.tmp 0) (.tmp 2) rfl w.heap.size #[.int .i64 3, .int .i64 2, .int .u8 0, .int .u8 0, .int .u8 0, .int .u8 0, .int .u8 0, .int .u8 0, .int .u8 0, .int .u8 0, .int .u8 0, .int .u8 0, .int .u8 0, .int .u8 0, .int .u8 0, .int .u8 0, .int .u8 0, .int .u8 0, .slice Xa l1 xc, .slice Yf l6 yd] rfl rfl 29 #[.int .i64 0, .int .i64 0, .int .u8 0, .int .u8 0, .int .u8 0, .int .u8 0, .int .u8 0, .int .u8 0, .int .u8 0, .int .u8 0, .int .u8 0, .int .u8 0, .int .u8 0, .int .u8 0, .int .u8 0, .int .u8 0, .int .u8 0, .int .u8 0, .slice none 0 0, .slice none 0 0] y3.out (by kernel_rfl) rfl (one20 _ _ _ _ _ _ _ _) ?_; obtain ⟨W2, hV⟩ : ∃ W, W = w3.setRow w.heap.size #[.int .i64 3, .int .i64 2, .int .u8 0, .int .u8 0, .int .u8 0, .int .u8 0, .int .u8 0, .int .u8 0, .int .u8 0, .int .u8 0, .int .u8 0, .int .u8 0, .int .u8 0, .int .u8 0, .int .u8 0, .int .u8 0, .int .u8 0, .int .u8 0, .slice Xa l1 xc, .slice Yf l6 yd] := ⟨_, rfl⟩; rw [← hV]; have HV := Lib.hid hV; clear hV))
  have RB : Blk W2 w.heap.size 29 #[.int .i64 3, .int .i64 2, .int .u8 0, .int .u8 0, .int .u8 0, .int .u8 0, .int .u8 0, .int .u8 0, .int .u8 0, .int .u8 0, .int .u8 0, .int .u8 0, .int .u8 0, .int .u8 0, .int .u8 0, .int .u8 0, .int .u8 0, .int .u8 0, .slice Xa l1 xc, .slice Yf l6 yd] := by rw [HV.out]; exact y3.out.setRow _
  have DF : Below w.heap.size w W2 := by rw [HV.out]; exact below_setRow (bel_on b0.out HB.out) (Nat.le_refl _) _
  have N1 : NR W2 Xa xc q1 := by rw [HV.out]; exact HX.out.setRow_ y0.out.lt _
  have N2 : NR W2 Yf yd q2 := by rw [HV.out]; exact HY.out.setRow_ y0.out.lt _
  exact bodyPost_ret (results_cell_row rfl _ _ w.heap.size _ _ (0, 0) _ rfl RB Tryz.underlying29 rfl (by kernel_rfl)) rfl ⟨⟨Xa, xc, Yf, yd, by rw [← HL1.out, ← HL6.out]; rfl, rfl, N1, N2⟩, DF⟩
end Go.Proofs.YtenpkmgbaajeeaaGreat

/- Whether a copy is feasible: the plain words; the program. -/
namespace Go.Proofs.YtenpkmgbaajeeaaGreat
open Go.RowKit Go.Shelf
set_option linter.unusedVariables false

def hd (ls : List (List UInt8)) : List UInt8 := ls.getD 0 []
def okWords (ls : List (List UInt8)) : Bool := decide (1 ≤ ls.length) && (decide (ls.length ≤ 64) && (decide ((hd ls).length ≤ 1024) && !anyI ls.length (fun i => !wordB (ls.getD i []) (hd ls).length)))
/-- In the place i not all words have the first word's symbol. -/
def oddB (ls : List (List UInt8)) (i : Nat) : Bool := anyI ls.length (fun j => bt (ls.getD j []) i != bt (hd ls) i)
def isFeas (ls : List (List UInt8)) (y : List UInt8) : Bool := !anyI y.length (fun i => bt y i != bt (hd ls) i && !oddB ls i)
def feasS (ls : List (List UInt8)) (y : List UInt8) : Bool × Int := if okWords ls = true then (if copyB y (hd ls).length = true then (isFeas ls y, 0) else (false, 71)) else (false, 2)
theorem okWords_parts {ls : List (List UInt8)} (h : okWords ls = true) : 1 ≤ ls.length ∧ ls.length ≤ 64 ∧ (hd ls).length ≤ 1024 ∧ ∀ i, i < ls.length → wordB (ls.getD i []) (hd ls).length = true := by
  simp only [okWords, Bool.and_eq_true, decide_eq_true_eq, Bool.not_eq_true'] at h
  obtain ⟨h1, h2, h3, h4⟩ := h
  refine ⟨h1, h2, h3, fun i hi => ?_⟩
  cases hw : wordB (ls.getD i []) (hd ls).length
  · have : anyI ls.length (fun i => !wordB (ls.getD i []) (hd ls).length) = true := anyI_iff.2 ⟨i, hi, by rw [hw]; rfl⟩
    rw [this] at h4; cases h4
  · rfl
theorem wordB_len {l : List UInt8} {n : Nat} (h : wordB l n = true) : l.length = n := by
  simp only [wordB, Bool.and_eq_true, decide_eq_true_eq] at h
  exact h.1
theorem row_l {rs : List BRow} {i : Nat} {r : BRow} (h : rs[i]? = some r) : (rs.map BRow.l).getD i [] = r.l := by simp [List.getD, h]
theorem RR.at_ {w : World} {A : Option Addr} {c : Nat} {rs : List BRow} (h : RR w A c rs) {i : Nat} (hi : i < rs.length) :
    ∃ b off r, A = some ⟨b, off, none⟩ ∧ b < w.heap.size ∧ rs[i]? = some r ∧ w.cell? ⟨b, off + i, none⟩ = some (.slice r.A r.l.length r.c) ∧ BR w r.A r.c r.l := by
  obtain ⟨b, off, e, hb, v, hv, hc⟩ := Rd.at1 h.1 hi
  have hr : rs[i]? = some rs[i] := List.getElem?_eq_getElem hi
  rw [List.getElem?_map, hr] at hv
  injection hv with hv
  subst hv
  exact ⟨b, off, rs[i], e, hb, hr, hc, h.2 _ (List.getElem_mem hi)⟩
theorem RR.below {w w' : World} {A : Option Addr} {c : Nat} {rs : List BRow} (h : RR w A c rs) (hb : Below w.heap.size w w') : RR w' A c rs := ⟨h.1.below hb, fun r hr => (h.2 r hr).below hb⟩

set_option maxHeartbeats 400000 in
theorem Feasible1_any (r : BRow) (n0 g : Nat) (w : World) (h : BR w r.A r.c r.l) (hn : n0 ≤ 140737488351232) (hg : w.cell? ⟨g, 0, none⟩ = some (.int .i64 (n0 : Int))) :
    Calls Tryz.prog 96 #[r.v, .pointer (some ⟨g, 0, none⟩)] w fun e w' => e = .returned (.bool (!wordB r.l n0)) ∧ Below w.heap.size w w' := by
  have H := Lib.hid h
  obtain ⟨A, c, l⟩ := r
  have HW := Lib.hid (isWord_any A c l n0 w rfl H.out hn)
  clear h
  show Calls Tryz.prog 96 #[.slice A l.length c, .pointer (some ⟨g, 0, none⟩)] w _
  go_enter Tryz.func96, Tryz.ntmps96
  go_wp2_with (go_at_call 97; refine HW.out.mono ?_; rintro e w1 ⟨rfl, hb1⟩)
  go_ret
  exact ⟨rfl, hb1⟩
set_option maxHeartbeats 400000 in
theorem Feasible2_any (A : Option Addr) (c : Nat) (rs : List BRow) (r : BRow) (k g g' : Nat) (w : World) {n : Nat} (hn : rs.length = n) (h : RR w A c rs) (hr : BR w r.A r.c r.l) (hk : k < r.l.length) (hk0 : k < (hd (rs.map BRow.l)).length) (h0 : 0 < rs.length)
    (hg : w.cell? ⟨g, 0, none⟩ = some (.int .i64 (k : Int))) (hg' : w.cell? ⟨g', 0, none⟩ = some (.slice A n c)) :
    Calls Tryz.prog 98 #[r.v, .pointer (some ⟨g, 0, none⟩), .pointer (some ⟨g', 0, none⟩)] w fun e w' => e = .returned (.bool (bt r.l k != bt (hd (rs.map BRow.l)) k)) ∧ Below w.heap.size w w' := by
  obtain ⟨b, off, r0, rfl, hb, hr0, hc0, hR0⟩ := h.at_ h0
  have e0 : hd (rs.map BRow.l) = r0.l := row_l hr0
  rw [e0] at hk0 ⊢
  obtain ⟨b1, o1, e1, hb1, hc1⟩ := hr.at_ hk
  obtain ⟨b2, o2, e2, hb2, hc2⟩ := hR0.at_ hk0
  obtain ⟨A1, c1, l⟩ := r
  obtain ⟨A2, c2, l0⟩ := r0
  dsimp only at e1 e2 hc1 hc2 hk hk0 hc0 ⊢
  subst e1 e2 hn
  rw [Nat.add_zero] at hc0
  have hl1 : (l.length : Int) ≤ 140737488351232 := by have := hr.len; simp only at this; omega
  have hl2 : (l0.length : Int) ≤ 140737488351232 := by have := hR0.len; simp only at this; omega
  have k1 : (k : Int) < l.length := by omega
  have k2 : (k : Int) < l0.length := by omega
  have k0 : (0 : Int) ≤ k := by omega
  have h00 : (0 : Int) < rs.length := by omega
  have x1 := bt_le l k
  have x2 := bt_le l0 k
  generalize bt l k = x at *
  generalize bt l0 k = y at *
  clear h hr hr0 hR0 e0
  show Calls Tryz.prog 98 #[.slice (some ⟨b1, o1, none⟩) l.length c1, .pointer (some ⟨g, 0, none⟩), .pointer (some ⟨g', 0, none⟩)] w _
  go_enter Tryz.func98, Tryz.ntmps98
  go_wp2_with fail
  go_quiet (fail)
  go_wp2_with fail
  go_ret
  exact ⟨ret_bool' (by rw [Bool.eq_iff_iff]; simp; omega), below_drewN (Below.refl _ _) _⟩

theorem okWords_no {ls : List (List UInt8)} {y : List UInt8} (h : okWords ls = false) : feasS ls y = (false, 2) := by rw [feasS, h]; rfl
theorem feasS_copy {ls : List (List UInt8)} {y : List UInt8} (h : okWords ls = true) (h2 : copyB y (hd ls).length = false) : feasS ls y = (false, 71) := by rw [feasS, h, h2]; rfl
theorem feasS_yes {ls : List (List UInt8)} {y : List UInt8} (h : okWords ls = true) (h2 : copyB y (hd ls).length = true) : feasS ls y = (isFeas ls y, 0) := by rw [feasS, h, h2]; rfl
theorem copyB_len {l : List UInt8} {n : Nat} (h : copyB l n = true) : l.length = n := by
  simp only [copyB, Bool.and_eq_true, decide_eq_true_eq] at h
  exact h.1
theorem isFeas_no {ls : List (List UInt8)} {y : List UInt8} {k : Nat} (hk : k < y.length) (h1 : bt y k ≠ bt (hd ls) k) (h2 : oddB ls k = false) : isFeas ls y = false := by
  have : anyI y.length (fun i => bt y i != bt (hd ls) i && !oddB ls i) = true := anyI_iff.2 ⟨k, hk, by rw [h2]; simpa using h1⟩
  rw [isFeas, this]; rfl
theorem isFeas_yes {ls : List (List UInt8)} {y : List UInt8} (h : ∀ k, k < y.length → bt y k = bt (hd ls) k ∨ oddB ls k = true) : isFeas ls y = true := by
  have : anyI y.length (fun i => bt y i != bt (hd ls) i && !oddB ls i) = false := by
    cases ha : anyI y.length (fun i => bt y i != bt (hd ls) i && !oddB ls i)
    · rfl
    · obtain ⟨i, hi, hp⟩ := anyI_iff.1 ha
      rcases h i hi with h1 | h1
      · rw [h1] at hp; simp at hp
      · rw [h1] at hp; simp at hp
  rw [isFeas, this]; rfl

set_option maxHeartbeats 2000000 in
set_option maxRecDepth 100000 in
theorem Feasible_any (A : Option Addr) (c : Nat) (rs : List BRow) (Y : Option Addr) (d : Nat) (y : List UInt8) (w : World) {n m : Nat} (hn : rs.length = n) (hm : y.length = m) (h : RR w A c rs) (hy : BR w Y d y) :
    Calls Tryz.prog 45 #[.slice A n c, .slice Y m d] w fun e w' => e = .returned (.tuple #[.bool (feasS (rs.map BRow.l) y).1, .int .i64 (feasS (rs.map BRow.l) y).2]) ∧ Below w.heap.size w w' := by
  have hlen : (n : Int) ≤ 140737488351232 := by have := h.1.len; omega
  have HN := Lib.hid hn
  have HM := Lib.hid hm
  have H := Lib.hid h
  have HY := Lib.hid hy
  obtain ⟨W1, hW1⟩ : ∃ W : World, W = w.alloc (.cells #[.slice A n c] 75) := ⟨_, rfl⟩
  have b1 : Below w.heap.size w W1 := by rw [hW1]; exact alloc_bel _ _
  have HZ1 : Hid (W1.heap.size = w.heap.size + 1) := by unfold Hid; rw [hW1]; simp
  have HW1 := Lib.hid hW1
  by_cases h0 : n = 0
  · have HS : Hid (feasS (rs.map BRow.l) y = (false, 2)) := okWords_no (by
      have : rs = [] := List.eq_nil_of_length_eq_zero (by omega)
      rw [this]; rfl)
    rw [HS.out]
    subst h0
    clear hn hm h hy hW1
    go_enter Tryz.func45, Tryz.ntmps45
    go_wp2_with fail
    go_ret2
    exact ⟨rfl, alloc_bel _ _⟩
  · have t0 : decide ((n : Int) < 1) = false := by simp; omega
    have t0' : decide (n < 1) = false := by simp; omega
    by_cases h64 : 64 < n
    · have t1 : decide ((64 : Int) < n) = true := by simp; omega
      have t1' : decide (64 < n) = true := by simp; omega
      have HS : Hid (feasS (rs.map BRow.l) y = (false, 2)) := okWords_no (by simp [okWords, hn]; omega)
      rw [HS.out]
      clear hn hm h hy hW1 h0 h64
      go_enter Tryz.func45, Tryz.ntmps45
      go_wp2_with fail
      go_ret2
      exact ⟨rfl, alloc_bel _ _⟩
    · have t1 : decide ((64 : Int) < n) = false := by simp; omega
      have t1' : decide (64 < n) = false := by simp; omega
      have hn0 : (0 : Int) < n := by omega
      have hn0' : 0 < n := by omega
      obtain ⟨b, off, r0, rfl, hb, hr0, hc0, hR0⟩ := h.at_ (i := 0) (by omega)
      rw [Nat.add_zero] at hc0
      have e0 : Hid (hd (rs.map BRow.l) = r0.l) := row_l hr0
      have hl0 : (r0.l.length : Int) ≤ 140737488351232 := by have := hR0.len; omega
      have c1 : W1.cell? ⟨b, off, none⟩ = some (.slice r0.A r0.l.length r0.c) := (b1.cell (p := ⟨b, off, none⟩) hb).trans hc0
      have p1 : W1.cell? ⟨w.heap.size, 0, none⟩ = some (.slice (some ⟨b, off, none⟩) n c) := by rw [hW1]; simp
      obtain ⟨l0, hl⟩ : ∃ l0, r0.l.length = l0 := ⟨_, rfl⟩
      have HL := Lib.hid hl
      rw [hl] at hc0 hl0 c1
      by_cases hbig : 1024 < l0
      · have t2 : decide ((1024 : Int) < l0) = true := by simp; omega
        have t2' : decide (1024 < l0) = true := by simp; omega
        have HS : Hid (feasS (rs.map BRow.l) y = (false, 2)) := okWords_no (by simp [okWords, hn, e0.out, hl]; omega)
        rw [HS.out]
        clear hn hm h hy hW1 h0 h64 hbig hr0 hl c1 p1
        go_enter Tryz.func45, Tryz.ntmps45
        go_wp2_with fail
        go_ret2
        exact ⟨rfl, alloc_bel _ _⟩
      · have t2 : decide ((1024 : Int) < l0) = false := by simp; omega
        have t2' : decide (1024 < l0) = false := by simp; omega
        -- the second box
        obtain ⟨W2, hW2⟩ : ∃ W : World, W = W1.alloc (.cells #[.int .i64 (l0 : Int)] 3) := ⟨_, rfl⟩
        have b2 : Below W1.heap.size W1 W2 := by rw [hW2]; exact alloc_bel _ _
        have HW2 := Lib.hid hW2
        have q2 : W2.cell? ⟨W1.heap.size, 0, none⟩ = some (.int .i64 (l0 : Int)) := by rw [hW2]; simp
        have p2 : W2.cell? ⟨w.heap.size, 0, none⟩ = some (.slice (some ⟨b, off, none⟩) n c) := (b2.cell (p := ⟨w.heap.size, 0, none⟩) (by simp [HZ1.out])).trans p1
        have z2 : W2.heap.size = W1.heap.size + 1 := by rw [hW2]; simp
        have HZ2 := Lib.hid z2
        have b02 := b1.trans (b2.mono b1.size)
        have R2 := Lib.hid (h.below b02)
        have Y2 := Lib.hid (hy.below b02)
        have HCF := Lib.hid (ContainsRows_any (some ⟨b, off, none⟩) c rs 96 #[.pointer (some ⟨W1.heap.size, 0, none⟩)] (fun i => !wordB ((rs.map BRow.l).getD i []) l0) W2
          (enters_of Tryz.func96 (by kernel_rfl) rfl) hn R2.out.1 (by
            intro i r W hr hbW
            rw [row_l hr]
            exact Feasible1_any r l0 W1.heap.size W ((R2.out.2 r (List.mem_of_getElem? hr)).below hbW) (by omega) ((hbW.cell (p := ⟨W1.heap.size, 0, none⟩) (by simp [z2])).trans q2)))
        have hok : okWords (rs.map BRow.l) = !anyI n (fun i => !wordB ((rs.map BRow.l).getD i []) l0) := by
          simp only [okWords, List.length_map, hn, e0.out, hl]
          simp only [show decide (1 ≤ n) = true from by simp; omega, show decide (n ≤ 64) = true from by simp; omega, show decide (l0 ≤ 1024) = true from by simp; omega, Bool.true_and]
        clear h64 hbig h hy q2 p1
        cases hany : anyI n (fun i => !wordB ((rs.map BRow.l).getD i []) l0) with
        | true =>
          rw [hany] at hok HCF
          have HS : Hid (feasS (rs.map BRow.l) y = (false, 2)) := okWords_no hok
          rw [HS.out]
          clear hn hm hW1 h0 hr0 hl hok hany hW2 z2 c1
          go_enter Tryz.func45, Tryz.ntmps45
          go_wp2_with fail
          rw [← HW1.out, ← HZ1.out, ← HW2.out]
          refine HCF.out.mono ?_
          rintro e w3 ⟨rfl, hb3⟩
          go_wp2_with fail
          go_ret2
          exact ⟨rfl, b02.trans (hb3.mono b02.size)⟩
        | false =>
          rw [hany] at hok HCF
          have HOK := Lib.hid hok
          have HR0 := Lib.hid hr0
          cases hcp : copyB y l0 with
          | false =>
            have HS : Hid (feasS (rs.map BRow.l) y = (false, 71)) := feasS_copy hok (by rw [e0.out, hl]; exact hcp)
            have HCP := Lib.hid hcp
            rw [HS.out]
            clear hn hm hW1 h0 hr0 hl hok hany hW2 z2 c1 hcp
            go_enter Tryz.func45, Tryz.ntmps45
            go_wp2_with fail
            rw [← HW1.out, ← HZ1.out, ← HW2.out]
            refine HCF.out.mono ?_
            rintro e w3 ⟨rfl, hb3⟩
            have q3 : w3.cell? ⟨W1.heap.size, 0, none⟩ = some (.int .i64 (l0 : Int)) := (hb3.cell (p := ⟨W1.heap.size, 0, none⟩) (by simp [HZ2.out])).trans (by rw [HW2.out]; simp)
            go_wp2_with (go_at_call 93; refine (isCopy_any Y d y l0 _ HM.out (Y2.out.below hb3) (by omega)).mono ?_; rintro e w4 ⟨rfl, hb4⟩; rw [HCP.out])
            go_ret2
            exact ⟨rfl, b02.trans ((hb3.trans (hb4.mono hb3.size)).mono b02.size)⟩
          | true =>
            have HS : Hid (feasS (rs.map BRow.l) y = (isFeas (rs.map BRow.l) y, 0)) := feasS_yes hok (by rw [e0.out, hl]; exact hcp)
            have HCP := Lib.hid hcp
            have hyl : y.length = l0 := copyB_len hcp
            have HYL : Hid (m = l0) := by unfold Hid; omega
            have HWL : Hid (∀ (i : Nat) (r : BRow), rs[i]? = some r → r.l.length = l0) := fun i r hr => by
              have hi : i < rs.length := by
                rcases Nat.lt_or_ge i rs.length with h' | h'
                · exact h'
                · rw [List.getElem?_eq_none h'] at hr; cases hr
              have := (okWords_parts hok).2.2.2 i (by simpa using hi)
              rw [row_l hr, e0.out] at this
              have := wordB_len this
              omega
            rw [HS.out]
            clear hn hm hW1 h0 hr0 hl hok hany hW2 z2 c1 hcp hyl
            go_enter Tryz.func45, Tryz.ntmps45
            go_wp2_with fail
            rw [← HW1.out, ← HZ1.out, ← HW2.out]
            refine HCF.out.mono ?_
            rintro e w3 ⟨rfl, hb3⟩
            have q3 : w3.cell? ⟨W1.heap.size, 0, none⟩ = some (.int .i64 (l0 : Int)) := (hb3.cell (p := ⟨W1.heap.size, 0, none⟩) (by simp [HZ2.out])).trans (by rw [HW2.out]; simp)
            go_wp2_with (go_at_call 93; refine (isCopy_any Y d y l0 _ HM.out (Y2.out.below hb3) (by omega)).mono ?_; rintro e w4 ⟨rfl, hb4⟩; rw [HCP.out])
            have hb34 := hb3.trans (hb4.mono hb3.size)
            have hb24 : Below W2.heap.size W2 w4 := hb34
            have hb04 := b02.trans (hb24.mono b02.size)
            have p4 : Hid (w4.cell? ⟨w.heap.size, 0, none⟩ = some (.slice (some ⟨b, off, none⟩) n c)) := (hb24.cell (p := ⟨w.heap.size, 0, none⟩) (by simp [HZ1.out, HZ2.out]; omega)).trans p2
            have z4 : Hid (w.heap.size + 2 ≤ w4.heap.size) := by have := hb24.size; have := HZ1.out; have := HZ2.out; unfold Hid; omega
            clear q3 p2
            go_loopw [38] (fun vk wr => ∃ k : Nat, k ≤ m ∧ vk = .int .i64 k ∧ Hid (∀ j, j < k → bt y j = bt (hd (rs.map BRow.l)) j ∨ oddB (rs.map BRow.l) j = true) ∧ Below w4.heap.size w4 wr) (fun vk _ => m - (intOf vk).toNat)
            case atStart => exact ⟨0, by omega, rfl, fun j hj => absurd hj (by omega), Below.refl _ _⟩
            case round =>
              obtain ⟨k, hk, rfl, HK, hbel⟩ := hrel
              have hb0r := hb04.trans (hbel.mono hb04.size)
              by_cases hkm : k < m
              · obtain ⟨yb, yo, rfl, hyb, hyc⟩ := (HY.out.below hb0r).at_ (i := k) (by have := HM.out; omega)
                have hml : (m : Int) ≤ 140737488351232 := by have := HY.out.len; have := HM.out; omega
                have hx := bt_le y k
                obtain ⟨W4, hW4⟩ : ∃ W : World, W = wr.alloc (.cells #[.int .i64 (k : Int)] 3) := ⟨_, rfl⟩
                have b4 : Below wr.heap.size wr W4 := by rw [hW4]; exact alloc_bel _ _
                have HW4 := Lib.hid hW4
                have b44 := hbel.trans (b4.mono hbel.size)
                have b04 := hb04.trans (b44.mono hb04.size)
                have RW := Lib.hid (H.out.below b04)
                have d1 : W4.cell? ⟨wr.heap.size, 0, none⟩ = some (.int .i64 (k : Int)) := by rw [hW4]; simp
                have d2 : W4.cell? ⟨w.heap.size, 0, none⟩ = some (.slice (some ⟨b, off, none⟩) n c) := (b44.cell (p := ⟨w.heap.size, 0, none⟩) (by have := z4.out; simp; omega)).trans p4.out
                have d3 : W4.cell? ⟨b, off, none⟩ = some (.slice r0.A l0 r0.c) := (b04.cell (p := ⟨b, off, none⟩) hb).trans hc0
                have hz4 : wr.heap.size < W4.heap.size := by rw [hW4]; simp
                have hzw : w.heap.size < W4.heap.size := by have := z4.out; have := b44.size; omega
                obtain ⟨fb, fo, e1, hfb, hfc⟩ := (hR0.below b04).at_ (i := k) (by have := HL.out; have := HYL.out; omega)
                have hx0 := bt_le r0.l k
                have hkl : (k : Int) < l0 := by have := HYL.out; omega
                have hki : (k : Int) < m := by omega
                have HY1 : Hid (bt (hd (rs.map BRow.l)) k = bt r0.l k) := by unfold Hid; rw [e0.out]
                obtain ⟨A0, cc0, l0'⟩ := r0
                dsimp only at e1 hfc hx0 HY1 d3 HL hc0
                subst e1
                rw [← HYL.out] at d3 hkl
                by_cases heq : bt y k = bt l0' k
                · have HK2 : Hid (∀ j, j < k + 1 → bt y j = bt (hd (rs.map BRow.l)) j ∨ oddB (rs.map BRow.l) j = true) := fun j hj => by
                    rcases Nat.lt_or_ge j k with h' | h'
                    · exact HK.out j h'
                    · rw [show j = k from by omega, HY1.out]; exact .inl heq
                  rw [← heq] at hfc
                  generalize bt y k = x at *
                  clear hR0 hW4 hc0 heq
                  go_wp2_with fail
                  rw [← HW4.out]
                  go_quiet (fail)
                  go_wp2_with fail
                  go_roundw
                  case rel => exact ⟨k + 1, by omega, by go_num, HK2, below_drewN b44 _⟩
                  case measure => simp [intOf]; omega
                · have HNE := Lib.hid heq
                  have g1 : ((bt y k : Int) != (bt l0' k : Int)) = true := by rw [bne_iff_ne]; omega
                  have g1' : (bt y k != bt l0' k) = true := by rw [bne_iff_ne]; exact heq
                  have HOD : Hid (anyI n (fun j => bt ((rs.map BRow.l).getD j []) k != bt (hd (rs.map BRow.l)) k) = oddB (rs.map BRow.l) k) := by unfold Hid oddB; rw [List.length_map, HN.out]
                  have HCO0 := fun (x : Wd W4) => ContainsRows_any (some ⟨b, off, none⟩) c rs 98 #[.pointer (some ⟨wr.heap.size, 0, none⟩), .pointer (some ⟨w.heap.size, 0, none⟩)] (fun j => bt ((rs.map BRow.l).getD j []) k != bt (hd (rs.map BRow.l)) k) x.w
                    (enters_of Tryz.func98 (by kernel_rfl) rfl) HN.out (RW.out.below x.h).1 (by
                      intro i r W hr hbW
                      have hbW' := x.h.trans (hbW.mono x.h.size)
                      rw [row_l hr]
                      have hrl := HWL.out i r hr
                      have hyl := HYL.out
                      exact Feasible2_any (some ⟨b, off, none⟩) c rs r k wr.heap.size w.heap.size W HN.out (RW.out.below hbW') ((RW.out.2 r (List.mem_of_getElem? hr)).below hbW') (by omega) (by have := e0.out; have := HWL.out 0 _ HR0.out; rw [e0.out]; omega) (by have := HN.out; omega)
                        ((hbW'.cell (p := ⟨wr.heap.size, 0, none⟩) hz4).trans d1) ((hbW'.cell (p := ⟨w.heap.size, 0, none⟩) hzw).trans d2))
                  rw [HOD.out] at HCO0
                  have HCO := Lib.hid HCO0
                  have f1 : ∀ x : Wd W4, x.w.cell? ⟨wr.heap.size, 0, none⟩ = some (.int .i64 (k : Int)) := fun x => (x.h.cell (p := ⟨wr.heap.size, 0, none⟩) hz4).trans d1
                  have f2 : ∀ x : Wd W4, x.w.cell? ⟨w.heap.size, 0, none⟩ = some (.slice (some ⟨b, off, none⟩) n c) := fun x => (x.h.cell (p := ⟨w.heap.size, 0, none⟩) hzw).trans d2
                  have f3 : ∀ x : Wd W4, x.w.cell? ⟨b, off, none⟩ = some (.slice (some ⟨fb, fo, none⟩) m cc0) := fun x => (x.h.cell (p := ⟨b, off, none⟩) (Nat.lt_of_lt_of_le hb b04.size)).trans d3
                  have f4 : ∀ x : Wd W4, x.w.cell? ⟨fb, fo + k, none⟩ = some (.int .u8 (bt l0' k : Int)) := fun x => (x.h.cell (p := ⟨fb, fo + k, none⟩) hfb).trans hfc
                  cases hodd : oddB (rs.map BRow.l) k with
                  | true =>
                    rw [hodd] at HCO
                    have HK2 : Hid (∀ j, j < k + 1 → bt y j = bt (hd (rs.map BRow.l)) j ∨ oddB (rs.map BRow.l) j = true) := fun j hj => by
                      rcases Nat.lt_or_ge j k with h' | h'
                      · exact HK.out j h'
                      · rw [show j = k from by omega]; exact .inr hodd
                    generalize bt y k = x at *
                    generalize bt l0' k = x' at *
                    clear hR0 hW4 hc0 heq HCO0 hodd
                    go_wp2_with fail
                    rw [← HW4.out]
                    refine wp_region_wd (by kernel_rfl) (by kernel_rfl) ?_
                    repeat (go_big_quiet_step ((go_at_call 95; exact Wd.call _ (HCO.out _))))
                    refine wpQuiet_nil ?_
                    intro _ hw'
                    obtain ⟨xx, hw''⟩ := hw'
                    subst hw''
                    go_wp2_with fail
                    go_roundw
                    case rel => exact ⟨k + 1, by omega, by go_num, HK2, b44.trans (xx.h.mono b44.size)⟩
                    case measure => simp [intOf]; omega
                  | false =>
                    rw [hodd] at HCO
                    have HF : Hid (isFeas (rs.map BRow.l) y = false) := isFeas_no (k := k) (by have := HM.out; omega) (by rw [HY1.out]; exact heq) hodd
                    generalize bt y k = x at *
                    generalize bt l0' k = x' at *
                    clear hR0 hW4 hc0 heq HCO0 hodd
                    go_wp2_with fail
                    rw [← HW4.out]
                    refine wp_region_wd (by kernel_rfl) (by kernel_rfl) ?_
                    repeat (go_big_quiet_step ((go_at_call 95; exact Wd.call _ (HCO.out _))))
                    refine wpQuiet_nil ?_
                    intro _ hw'
                    obtain ⟨xx, hw''⟩ := hw'
                    subst hw''
                    go_wp2_with fail
                    go_ret2
                    exact ⟨by rw [HF.out]; rfl, b04.trans (xx.h.mono b04.size)⟩
              · have HT : Hid (isFeas (rs.map BRow.l) y = true) := isFeas_yes fun j hj => HK.out j (by have := HM.out; omega)
                go_wp2_with fail
                go_ret2
                exact ⟨by rw [HT.out]; rfl, hb0r⟩
end Go.Proofs.YtenpkmgbaajeeaaGreat

/- The chapter's examples in plain words. -/
namespace Go.Proofs.YtenpkmgbaajeeaaGreat
open Go.RowKit
set_option linter.unusedVariables false
set_option linter.unusedSimpArgs false

theorem val_feas1 : feasS [[0, 1, 1], [0, 0, 1]] [0, 2, 1] = (true, 0) := by kernel_rfl
theorem val_feas2 : feasS [[0, 1, 1], [0, 0, 1]] [1, 0, 1] = (false, 0) := by kernel_rfl
theorem val_tail : tailS 2 2 1 = (lowS 5 6, 0) := by kernel_rfl
theorem val_thr (A : Option Addr) (ca : Nat) (B : Option Addr) (cb : Nat) : thrS (threeV A ca B cb) 4 = (1, 0) := by kernel_rfl
theorem val_ok (A : Option Addr) (ca : Nat) (B : Option Addr) (cb : Nat) : (threeV A ca B cb).ok = true := by kernel_rfl
theorem val_nm (A : Option Addr) (ca : Nat) (B : Option Addr) (cb : Nat) : sameI ((threeV A ca B cb).nmsW [0, 2]) [1] = true := by kernel_rfl
theorem val_score : scS 2 4 [1, 2] [1, 0] [1, 1] = (1, 0) := by kernel_rfl
theorem val_chance : chanceS 2 4 [1, 2] [1, 1] 1 = (lowS 5 8, 0) := by kernel_rfl
theorem val_bound : boundS 2 4 [1, 2] [1, 1] (lowS 1 8).1 (lowS 1 8).2 = (2, 0) := by kernel_rfl
theorem val_is1 : isB (lowS 5 6).1 (lowS 5 6).2 0 5 6 = true := by kernel_rfl
theorem val_is2 : isB (lowS 5 8).1 (lowS 5 8).2 0 5 8 = true := by kernel_rfl

/-- The chapter's words, laid out. -/
theorem words_lit (w : World) (y : List UInt8) {n : Nat} (hy : y.length = n) (hn : n ≤ 1000) {W1 W2 W4 : World} (h1 : W1 = w.alloc (.cells (cellsB [0, 1, 1]).toArray 5)) (h2 : W2 = W1.alloc (.cells (cellsB [0, 0, 1]).toArray 5))
    (h4 : W4 = (W2.alloc (.cells #[.slice (some ⟨w.heap.size, 0, none⟩) 3 3, .slice (some ⟨W1.heap.size, 0, none⟩) 3 3] 30)).alloc (.cells (cellsB y).toArray 5)) :
    RR W4 (some ⟨W2.heap.size, 0, none⟩) 2 [⟨some ⟨w.heap.size, 0, none⟩, 3, [0, 1, 1]⟩, ⟨some ⟨W1.heap.size, 0, none⟩, 3, [0, 0, 1]⟩] ∧ BR W4 (some ⟨W2.heap.size + 1, 0, none⟩) n y ∧ Below w.heap.size w W4 := by
  have d1 : Below w.heap.size w W1 := by rw [h1]; exact alloc_bel _ _
  have d2 : Below W1.heap.size W1 W2 := by rw [h2]; exact alloc_bel _ _
  have d24 : Below W2.heap.size W2 W4 := by rw [h4]; exact alloc2_bel _ _ _
  have d14 := bel_on d2 d24
  have r1 : BR W4 (some ⟨w.heap.size, 0, none⟩) 3 [0, 1, 1] := ((Blk.ob (B := 0) (n := 3) (by rw [h1]; exact Blk.new _ _ _) (Nat.zero_le _) rfl rfl (by omega) : OB 0 W1 (some ⟨w.heap.size, 0, none⟩) 3 [0, 1, 1]).br (by simp)).below d14
  have r2 : BR W4 (some ⟨W1.heap.size, 0, none⟩) 3 [0, 0, 1] := ((Blk.ob (B := 0) (n := 3) (by rw [h2]; exact Blk.new _ _ _) (Nat.zero_le _) rfl rfl (by omega) : OB 0 W2 (some ⟨W1.heap.size, 0, none⟩) 3 [0, 0, 1]).br (by simp)).below d24
  have r4 : BR W4 (some ⟨W2.heap.size + 1, 0, none⟩) n y := (Blk.ob (B := 0) (n := n) (by rw [h4]; exact blk_b1 _ _ _ _) (Nat.zero_le _) hy rfl (by omega) : OB 0 W4 (some ⟨W2.heap.size + 1, 0, none⟩) n y).br (by omega)
  have b3 : Blk W4 W2.heap.size 30 #[.slice (some ⟨w.heap.size, 0, none⟩) 3 3, .slice (some ⟨W1.heap.size, 0, none⟩) 3 3] := by rw [h4]; exact blk_b0 _ _ _ _
  refine ⟨⟨⟨⟨by simp, by simp, by simp, by simp⟩, fun _ => ⟨_, _, rfl, b3.lt, fun j u hu => ?_⟩⟩, fun r hr => ?_⟩, r4, bel_on d1 d14⟩
  · rw [Nat.zero_add, b3.cell j]
    simpa [BRow.v] using hu
  · simp only [List.mem_cons, List.not_mem_nil, or_false] at hr
    rcases hr with rfl | rfl
    · exact r1
    · exact r2
end Go.Proofs.YtenpkmgbaajeeaaGreat
