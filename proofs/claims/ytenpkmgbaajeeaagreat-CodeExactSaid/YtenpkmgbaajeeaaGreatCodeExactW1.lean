/-
  Lemmas and contracts, joined.
-/
import Derived.Lib.SmallJoins
import Derived.Test.YtenpkmgbaajeeaaGreatCw1
import Derived.Test.YtenpkmgbaajeeaaGreatCp1
import Derived.Test.YtenpkmgbaajeeaaGreatCc1
import Derived.Test.YtenpkmgbaajeeaaGreatCa2
set_option linter.unusedSimpArgs false
set_option linter.unusedVariables false
set_option linter.unnecessarySimpa false
/- What the frames of the laws share: a code of scores among the arguments, opened. -/
namespace Go.Proofs.YtenpkmgbaajeeaaGreat
open Go.ChangeShapes Go.WideShapes Go.ChangeAt Go.RowKit Go.Deep
set_option linter.unusedVariables false

theorem cells_key : Tryz.prog.cellsOf 23 = 16 := by kernel_rfl
theorem cells_scores : Tryz.prog.cellsOf 46 = 19 := by kernel_rfl
theorem cells_ints : Tryz.prog.cellsOf 38 = 1 := by kernel_rfl

/-- A code of scores, among cells. -/
theorem scores_of_trod {H : Type} {enc : TypeId × Value → H} {W : World} {fuel : Nat} {cs : List Value} {x : DataW H × List MemPlace} (h : DataW.trod enc Tryz.prog W 0 (fun _ => true) true fuel 46 cs = some x)
    (hw : ∀ n ∈ x.1.weights Tryz.prog 46, n ≤ reachBytes) : ∃ u b A c l k, cs = scC u b A (List.length l) c k ∧ IR W A c l ∧ k.length = 16 ∧ (-9223372036854775808 ≤ u ∧ u ≤ 9223372036854775807) ∧ (-9223372036854775808 ≤ b ∧ b ≤ 9223372036854775807) := by
  obtain ⟨y0, y1, y2, y3, n, rfl, hl, h0, h1, h2, h3⟩ := Go.Joins.trod_struct4 Tryz.underlying46 h
  have hw' : ∀ n ∈ DataW.weightsEach Tryz.prog [3, 3, 38, 23] [y0.1, y1.1, y2.1, y3.1], n ≤ reachBytes := by simpa [DataW.weights, Tryz.underlying46] using hw
  dsimp only at h0 h1 h2 h3
  rw [cells_int] at h0 h1
  rw [cells_ints] at h2
  rw [cells_key] at h3
  rw [cells_scores] at hl
  obtain ⟨u, e0, hu⟩ := int_of_trod h0
  obtain ⟨b, e1, hb⟩ := int_of_trod h1
  obtain ⟨A, c, l, e2, hI, _⟩ := ints_of_trod Tryz.underlying38 h2 (fun m hm => hw' m (DataW.weights_mem_each (j := 2) rfl rfl m hm))
  obtain ⟨k, hk, e3⟩ := key_of_trod h3
  refine ⟨u, b, A, c, l, k, ?_, hI, hk, hu, hb⟩
  match cs, hl with
  | c0 :: c1 :: c2 :: r, hl =>
    simp at e0 e1 e2
    have hr : r.length = 16 := by simpa using hl
    rw [show List.drop 3 (c0 :: c1 :: c2 :: r) = r from rfl, List.take_of_length_le (by omega)] at e3
    rw [e0, e1, e2, e3]
    rfl
set_option maxRecDepth 100000 in
theorem open_scores {H : Type} {enc : TypeId × Value → H} {W : World} {b0 : Nat} {v : Value} {d : DataW H} {ps : List MemPlace} (hval : Value.okWide Tryz.prog W .any b0 46 v) (hd : DataW.Trod enc Tryz.prog W 0 (fun _ => true) true 46 v d ps)
    (hw : ∀ n ∈ d.weights Tryz.prog 46, n ≤ reachBytes) : ∃ u b A c l k, v = .agg (scC u b A (List.length l) c k).toArray ∧ IR W A c l ∧ k.length = 16 ∧ (-9223372036854775808 ≤ u ∧ u ≤ 9223372036854775807) ∧ (-9223372036854775808 ≤ b ∧ b ≤ 9223372036854775807) := by
  obtain ⟨cs, rfl, hsz⟩ := okWide_struct Tryz.underlying46 hval
  obtain ⟨fuel, hf⟩ := hd
  obtain ⟨u, b, A, c, l, k, e, h1, h2, h3, h4⟩ := scores_of_trod hf hw
  refine ⟨u, b, A, c, l, k, ?_, h1, h2, h3, h4⟩
  rw [← e]
  simp [Value.cells]
end Go.Proofs.YtenpkmgbaajeeaaGreat

/- Whether a code of steps is complete: the reference's, and both for any code. -/
namespace Go.Proofs.YtenpkmgbaajeeaaGreat
open Go.RowKit
set_option linter.unusedVariables false
set_option linter.unusedSimpArgs false

def thL (t : Nat → Int) (n : Nat) : List Int := (List.range n).map t
theorem thL_length (t : Nat → Int) (n : Nat) : (thL t n).length = n := by simp [thL]
theorem thL_succ (t : Nat → Int) (n : Nat) : thL t (n + 1) = thL t n ++ [t n] := by simp [thL, List.range_succ]
theorem thL_it {t : Nat → Int} {n i : Nat} (h : i < n) : it (thL t n) i = t i := by rw [it_in (by rw [thL_length]; exact h)]; simp [thL]
theorem mayS_or {d : Nat} {t : Nat → Int} {j v x : Nat} : (decide (∃ u, u < v ∧ mayS d t j u = true ∧ t (u + x) < (u : Int)) || (mayS d t j v && decide (t (v + x) < (v : Int)))) = decide (∃ u, u < v + 1 ∧ mayS d t j u = true ∧ t (u + x) < (u : Int)) := by
  rw [Bool.eq_iff_iff, Bool.or_eq_true, Bool.and_eq_true, decide_eq_true_eq, decide_eq_true_eq, decide_eq_true_eq]
  constructor
  · rintro (⟨u, h1, h2, h3⟩ | ⟨h1, h2⟩)
    · exact ⟨u, by omega, h2, h3⟩
    · exact ⟨v, by omega, h1, h2⟩
  · rintro ⟨u, h1, h2, h3⟩
    by_cases e : u = v
    · subst e; exact .inr ⟨h2, h3⟩
    · exact .inl ⟨u, by omega, h2, h3⟩
theorem mayS_fin {d : Nat} {t : Nat → Int} {j x : Nat} : decide (∃ u, u < d + 1 ∧ mayS d t j u = true ∧ t (u + x) < (u : Int)) = mayS d t (j + 1) x := by
  rw [mayS, decide_eq_decide]
  constructor
  · rintro ⟨v, hv, h1, h3⟩; exact ⟨v, by omega, h1, h3⟩
  · rintro ⟨v, hv, h1, h3⟩; exact ⟨v, by omega, h1, h3⟩
/-- What the next block may weigh, the first v weights of this one looked at. -/
def nextQ (d : Nat) (t : Nat → Int) (j v x : Nat) : Bool := decide (∃ u, u < v ∧ mayS d t j u = true ∧ t (u + x) < (u : Int))
end Go.Proofs.YtenpkmgbaajeeaaGreat

/- The law CodeTails: the walk. -/
namespace Go.Proofs.YtenpkmgbaajeeaaGreat
open Go.RowKit
set_option linter.unusedVariables false
set_option linter.unusedSimpArgs false

theorem frac2_open_ {W w' : World} {e : Ending} {r : (List Nat × List Nat) × Int} (h : Frac2 W w' e r) : ∃ X x Z z, e = .returned (.tuple #[.agg #[.slice X r.1.1.length x, .slice Z r.1.2.length z], .int .i64 r.2]) ∧ NR w' X x r.1.1 ∧ NR w' Z z r.1.2 ∧ Below W.heap.size W w' := by
  obtain ⟨v, rfl, X, x, Z, z, rfl, h1, h2, _, hb⟩ := h
  exact ⟨X, x, Z, z, rfl, h1.nr_, h2.nr_, hb⟩
set_option maxHeartbeats 8000000 in
set_option maxRecDepth 100000 in
theorem Complete_any (s : StV) (w : World) (h : StOK w s) :
    Calls Tryz.prog 61 #[.agg s.cs.toArray] w fun e w' => e = .returned (.tuple #[.bool (cmpSt s).1, .int .i64 (cmpSt s).2]) ∧ Below w.heap.size w w' := by
  cases hok : s.ok with
  | true =>
    have := complete_good s w h hok
    unfold cmpSt
    rw [hok]
    exact this
  | false =>
    have HCK : Hid (∀ W, Below w.heap.size w W → Calls Tryz.prog 21 #[.agg s.cs.toArray] W fun e w' => e = .returned (.int .i64 (ckSt s.ok)) ∧ Below W.heap.size W w') := fun W hW => CheckSteps_any s W (h.below hW)
    have hks := h.k16
    obtain ⟨W0, hW0⟩ : ∃ W : World, W = w.alloc (.cells s.cs.toArray 29) := ⟨_, rfl⟩
    have b0 : Hid (Below w.heap.size w W0) := by unfold Hid; rw [hW0]; exact alloc_below _ _
    have x0 : Hid (Blk W0 w.heap.size 29 s.cs.toArray) := by unfold Hid; rw [hW0]; exact Blk.new w _ _
    have HW0 := Lib.hid hW0
    have HIN := Lib.hid (StV.info (s := s) hks)
    have HS : Hid (cmpSt s = (false, 70)) := by unfold Hid cmpSt; rw [hok]; rfl
    rw [hok] at HCK
    rw [HS.out]
    generalize s.cs.toArray = cs at *
    clear hW0 h hks hok
    go_enter Tryz.func61, Tryz.ntmps61
    go_wp2_with (first
      | (rw [← HW0.out])
      | (refine wpList_load_row rfl 29 (.tmp 1) rfl (w.heap.size) rfl 29 cs (0, 0) _ x0.out Tryz.underlying29 rfl HIN.out ?_)
      | (go_at_call 21; (with_reducible refine (HCK.out _ b0.out).mono ?_); rintro e w1 ⟨rfl, hb⟩; have D1 := Lib.hid (bel_on b0.out hb); clear hb; simp only [ckSt]))
    go_ret2
    exact ⟨rfl, D1.out⟩
end Go.Proofs.YtenpkmgbaajeeaaGreat

/- The law CodeExact: the walk. -/
namespace Go.Proofs.YtenpkmgbaajeeaaGreat
open Go.RowKit
set_option linter.unusedVariables false
set_option linter.unusedSimpArgs false

theorem bits_and_one_ {q : Nat} (hq : q < 1024) : bits BinOp.and IntKind.i64 (q : Int) 1 = ((q % 2 : Nat) : Int) := by
  have h : ∀ q : Fin 1024, bits BinOp.and IntKind.i64 (q.1 : Int) 1 = ((q.1 % 2 : Nat) : Int) := by decide +kernel
  exact h ⟨q, hq⟩
/-- The bits of a number below i, as a word. -/
def wordM (m n i : Nat) : List UInt8 := (List.range n).map fun j => if j < i ∧ m.testBit j = true then 1 else 0
theorem wordM_len (m n i : Nat) : (wordM m n i).length = n := by simp [wordM]
theorem wordM_get (m n i j : Nat) (hj : j < n) : bt (wordM m n i) j = if j < i ∧ m.testBit j = true then 1 else 0 := by
  unfold bt wordM
  rw [List.getD_eq_getElem?_getD, List.getElem?_map, List.getElem?_range hj]
  simp only [Option.map_some, Option.getD_some]
  split <;> rfl
theorem wordM_zero (m n : Nat) : wordM m n 0 = List.replicate n 0 := by
  refine List.ext_getElem (by simp [wordM]) fun j h1 h2 => ?_
  simp [wordM]
theorem wordM_set (m n i : Nat) (hi : i < n) : (wordM m n i).set i (if m.testBit i = true then 1 else 0) = wordM m n (i + 1) := by
  refine List.ext_getElem (by simp [wordM]) fun j h1 h2 => ?_
  simp only [wordM, List.getElem_set, List.getElem_map, List.getElem_range]
  by_cases e : i = j
  · subst e; simp
  · rw [if_neg e]
    have : (j < i) ↔ (j < i + 1) := by omega
    simp [this]
theorem wordM_ok (m n : Nat) : wordB (wordM m n n) n = true := by
  unfold wordB
  rw [Bool.and_eq_true, decide_eq_true_eq]
  refine ⟨wordM_len _ _ _, symB_iff.2 fun i hi => ?_⟩
  rw [wordM_len] at hi
  have := wordM_get m n n i hi
  rw [this]
  split <;> omega
theorem score_word (b : Int) (l : List Int) (y : List UInt8) (m n : Nat) : ∀ k, k ≤ n → sumS b l (wordM m n n) y k = scoreW (gA b l y) (gB b l y) k m
  | 0, _ => rfl
  | k + 1, h => by
    rw [sumS_succ, scoreW, score_word b l y m n k (by omega), wordM_get m n n k (by omega)]
    by_cases e : m.testBit k = true
    · rw [if_pos ⟨by omega, e⟩, if_pos e]; rfl
    · rw [if_neg (fun g => e g.2), if_neg e]; rfl
theorem weightW_le {b : Int} {l : List Int} (hb : 2 ≤ b ∧ b ≤ 32) (hl : ∀ j, j < l.length → 1 ≤ it l j ∧ it l j < b) (m : Nat) : ∀ i, i ≤ l.length → weightW (cA b l) (cB l) i m ≤ 32 ^ i
  | 0, _ => by simp [weightW]
  | i + 1, h => by
    have ih := weightW_le hb hl m i (by omega)
    have h2 := hl i (by omega)
    rw [weightW, Nat.pow_succ]
    refine Nat.mul_le_mul ih ?_
    split
    · unfold cB; omega
    · unfold cA; omega
/-- The sum over the first words. -/
def exN (b : Int) (l : List Int) (y : List UInt8) (n : Nat) (z : Int) (m : Nat) : Nat := sumN (fun h => if z ≤ scoreW (gA b l y) (gB b l y) n h then weightW (cA b l) (cB l) n h else 0) m
theorem exN_end (b : Int) (l : List Int) (y : List UInt8) (n : Nat) (z : Int) : exN b l y n z (2 ^ n) = srch b l y n z := reach_words _ _ _ _ n z
theorem exN_le {b : Int} {l : List Int} {y : List UInt8} {n : Nat} {z : Int} {m : Nat} (h : m ≤ 2 ^ n) : exN b l y n z m ≤ sall b l n := by
  refine Nat.le_trans (sumN_mono _ h) ?_
  show exN b l y n z (2 ^ n) ≤ _
  rw [exN_end]
  exact reach_all _ _ _ _ n z
set_option maxHeartbeats 16000000 in
set_option maxRecDepth 100000 in
theorem codeExact_walk0 (u b : Int) (A : Option Addr) (c : Nat) (l : List Int) (k : List UInt8) (Y : Option Addr) (d : Nat) (y : List UInt8) (z : Int) (w0 : World) (h0 : IR w0 A c l) (hk : k.length = 16) (hy0 : BR w0 Y d y) (hz1 : -9223372036854775808 ≤ z) (hz2 : z ≤ 9223372036854775807) :
    Calls Tryz.prog 7 #[.agg (scC u b A l.length c k).toArray, .slice Y y.length d, .int .i64 z] w0 fun e w' => e = .returned (.bool true) ∧ Below w0.heap.size w0 w' := by
  obtain ⟨n, hn⟩ : ∃ n, l.length = n := ⟨_, rfl⟩
  obtain ⟨ny, hyl⟩ : ∃ n, y.length = n := ⟨_, rfl⟩
  rw [hn, hyl]
  have hlen : (n : Int) ≤ 140737488351232 := by have := h0.len; omega
  obtain ⟨w, hW0⟩ : ∃ W : World, W = w0.alloc (.cells (scC u b A n c k).toArray 46) := ⟨_, rfl⟩
  have b0 : Hid (Below w0.heap.size w0 w) := by unfold Hid; rw [hW0]; exact alloc_bel _ _
  have HXS : Hid (∀ W, Below w.heap.size w W → Blk W w0.heap.size 46 (scC u b A n c k).toArray) := fun W hW => Blk.below' (by rw [hW0]; exact Blk.new w0 _ _) hW
  have HW0 := Lib.hid hW0
  have HIN : Hid ((Tryz.prog.info? 46).map (·.size) = some (scC u b A n c k).toArray.size) := scC_info u b A n c k hk
  have h := h0.below b0.out
  have hy := hy0.below b0.out
  have K0 : Hid (Below w.heap.size w w) := Below.refl _ _
  have HVS : Hid (∀ W, Below w.heap.size w W → Calls Tryz.prog 46 #[.agg (scC u b A n c k).toArray] W fun e w' => e = .returned (.bool (scoresB u b l)) ∧ Below W.heap.size W w') := fun W hW => refValidScores_any u b A c l k W hn (h.below hW)
  have HCP : Hid (∀ W, Below w.heap.size w W → Calls Tryz.prog 44 #[.slice Y ny d, .int .i64 (n : Int)] W fun e w' => e = .returned (.bool (copyB y n)) ∧ W = w') := fun W hW => refIsCopy_any Y d y n W hyl (hy.below hW) (by omega)
  cases hv : scoresB u b l
  · rw [hv] at HVS
    clear hn hyl h hy h0 hy0 hk hW0
    go_enter Tryz.func7, Tryz.ntmps7
    go_wp2_with (rw [← HW0.out])
    refine (alive_any _).mono ?_
    rintro e w1 ⟨rfl, hb1⟩
    have K1 : Hid (Below w.heap.size w w1) := bel_on K0.out hb1
    have c2 : w1.cell? ⟨w0.heap.size, 2, none⟩ = some (.slice A n c) := (HXS.out _ K1.out).cell 2
    clear hb1
    go_wp2_with (refine wpList_load_row rfl 46 (.tmp 3) rfl w0.heap.size rfl 46 (scC u b A n c k).toArray (0, 0) _ (HXS.out _ K1.out) Tryz.underlying46 rfl HIN.out ?_)
    refine (HVS.out _ K1.out).mono ?_
    rintro e w2 ⟨rfl, hb2⟩
    have K2 : Hid (Below w.heap.size w w2) := bel_on K1.out hb2
    clear hb2 c2
    go_wp2_with fail
    go_ret
    exact ⟨by simp, bel_on b0.out K2.out⟩
  · rw [hv] at HVS
    by_cases hn8 : 8 < n
    · have hn8i : (8 : Int) < n := by omega
      clear hn hyl h hy h0 hy0 hk hW0 hn8
      go_enter Tryz.func7, Tryz.ntmps7
      go_wp2_with (rw [← HW0.out])
      refine (alive_any _).mono ?_
      rintro e w1 ⟨rfl, hb1⟩
      have K1 : Hid (Below w.heap.size w w1) := bel_on K0.out hb1
      have c2 : w1.cell? ⟨w0.heap.size, 2, none⟩ = some (.slice A n c) := (HXS.out _ K1.out).cell 2
      clear hb1
      go_wp2_with (refine wpList_load_row rfl 46 (.tmp 3) rfl w0.heap.size rfl 46 (scC u b A n c k).toArray (0, 0) _ (HXS.out _ K1.out) Tryz.underlying46 rfl HIN.out ?_)
      refine (HVS.out _ K1.out).mono ?_
      rintro e w2 ⟨rfl, hb2⟩
      have K2 : Hid (Below w.heap.size w w2) := bel_on K1.out hb2
      clear hb2 c2
      go_wp2_with fail
      go_ret
      exact ⟨by simp, bel_on b0.out K2.out⟩
    · have hn8i : (n : Int) ≤ 8 := by omega
      cases hc : copyB y n
      · rw [hc] at HCP
        clear hn hyl h hy h0 hy0 hk hW0 hn8
        go_enter Tryz.func7, Tryz.ntmps7
        go_wp2_with (rw [← HW0.out])
        refine (alive_any _).mono ?_
        rintro e w1 ⟨rfl, hb1⟩
        have K1 : Hid (Below w.heap.size w w1) := bel_on K0.out hb1
        have c2 : w1.cell? ⟨w0.heap.size, 2, none⟩ = some (.slice A n c) := (HXS.out _ K1.out).cell 2
        clear hb1
        go_wp2_with (refine wpList_load_row rfl 46 (.tmp 3) rfl w0.heap.size rfl 46 (scC u b A n c k).toArray (0, 0) _ (HXS.out _ K1.out) Tryz.underlying46 rfl HIN.out ?_)
        refine (HVS.out _ K1.out).mono ?_
        rintro e w2 ⟨rfl, hb2⟩
        have K2 : Hid (Below w.heap.size w w2) := bel_on K1.out hb2
        clear hb2 c2
        go_wp2_with fail
        refine (HCP.out _ K2.out).mono ?_
        rintro e w4 ⟨rfl, rfl⟩
        go_wp2_with fail
        go_ret
        exact ⟨by simp, bel_on b0.out K2.out⟩
      · rw [hc] at HCP
        obtain ⟨hyn, hcy⟩ := copyB_sym hc
        obtain rfl : ny = n := by omega
        obtain ⟨⟨o1, o2, o3, o4, o5, o6⟩, o7⟩ := scoresB_parts hv
        have he : ckSC u b l y = 0 := ckSC_ok hv (by rw [hn]; exact hc)
        have HB := Lib.hid (sall_pos ⟨o3, o4⟩ o7 (Nat.le_of_eq hn.symm))
        have HSS : Hid (∀ i, i < ny → sall b l i * b.toNat = sall b l (i + 1)) := fun i hi => sall_succ ⟨o3, o4⟩ o7 (by omega)
        have HSA : Hid (∀ i, i ≤ ny → sall b l i ≤ 32 ^ 8) := fun i hi => by rw [sall_pow ⟨o3, o4⟩ o7 (by omega)]; exact Nat.le_trans (Nat.pow_le_pow_left (show b.toNat ≤ 32 by omega) i) (Nat.pow_le_pow_right (by omega) (by omega))
        have HWL : Hid (∀ m i, i ≤ ny → weightW (cA b l) (cB l) i m ≤ 32 ^ 8) := fun m i hi => Nat.le_trans (weightW_le ⟨o3, o4⟩ o7 m i (by omega)) (Nat.pow_le_pow_right (by omega) (by omega))
        have HCG : Hid (∀ i, i < ny → ∀ W, Below w.heap.size w W → ∃ p o, A = some ⟨p, o, none⟩ ∧ W.cell? ⟨p, o + i, none⟩ = some (.int .i64 (it l i)) ∧ p < w.heap.size) := fun i hi W hW => by
          obtain ⟨p, o, e, hp, _⟩ := h.at_ (i := i) (by omega)
          obtain ⟨p', o', e', _, hc⟩ := (h.below hW).at_ (i := i) (by omega)
          rw [e] at e'
          injection e' with e'
          injection e' with e1 e2
          subst e1 e2
          exact ⟨p, o, e, hc, hp⟩
        have HIT : Hid (∀ i, i < ny → 1 ≤ it l i ∧ it l i < b) := fun i hi => o7 i (by omega)
        have HSC : Hid (∀ m V cv W, Below w.heap.size w W → BR W V cv (wordM m ny ny) → Calls Tryz.prog 47 #[.agg (scC u b A ny c k).toArray, .slice V ny cv, .slice Y ny d] W fun e w' => e = .returned (.tuple #[.int .i64 (scoreW (gA b l y) (gB b l y) ny m), .int .i64 0]) ∧ Below W.heap.size W w') := fun m V cv W hW hV => by
          have := Score_any u b A c l k V cv (wordM m ny ny) Y d y W hn (wordM_len _ _ _) hyl (h.below hW) hV (hy.below hW) hk
          rw [scS_yes hv (by rw [hn]; exact wordM_ok _ _) (by rw [hn]; exact hc), hn, score_word b l y m ny ny (Nat.le_refl _)] at this
          exact this
        have HCH : Hid (∀ W, Below w.heap.size w W → Calls Tryz.prog 28 #[.agg (scC u b A ny c k).toArray, .slice Y ny d, .int .i64 z] W fun e w' => ∃ X x' Z z', e = .returned (.tuple #[.agg #[.slice X (lowS (srch b l y ny z) (sall b l ny)).1.length x', .slice Z (lowS (srch b l y ny z) (sall b l ny)).2.length z'], .int .i64 0]) ∧ NR w' X x' (lowS (srch b l y ny z) (sall b l ny)).1 ∧ NR w' Z z' (lowS (srch b l y ny z) (sall b l ny)).2 ∧ Below W.heap.size W w') := fun W hW => (Chance_any u b A c l k Y d y z W hn hyl (h.below hW) (hy.below hW) hk).mono fun e w' hq => by
          have e1 : chanceS u b l y z = (lowS (srch b l y l.length z) (sall b l l.length), 0) := by unfold chanceS; rw [if_pos he]
          rw [e1, hn] at hq
          exact frac2_open_ hq
        have HIS : Hid (∀ X cx Z cz W, NR W X cx (lowS (srch b l y ny z) (sall b l ny)).1 → NR W Z cz (lowS (srch b l y ny z) (sall b l ny)).2 → Calls Tryz.prog 48 #[.agg #[.slice X (lowS (srch b l y ny z) (sall b l ny)).1.length cx, .slice Z (lowS (srch b l y ny z) (sall b l ny)).2.length cz], .int .i64 0, .int .u64 (srch b l y ny z : Int), .int .u64 (sall b l ny : Int)] W fun e w' => e = .returned (.bool true) ∧ Below W.heap.size W w') := fun X cx Z cz W g1 g2 => by
          have g3 := HSA.out ny (Nat.le_refl _)
          have g4 : srch b l y ny z ≤ sall b l ny := reach_all _ _ _ _ ny z
          have g5 : (32 : Nat) ^ 8 < 2 ^ 64 := by decide +kernel
          have := is_any X cx _ Z cz _ 0 (srch b l y ny z) (sall b l ny) W rfl rfl g1 g2 (by omega) (by omega) (by have := HB.out; omega)
          rw [show isB (lowS (srch b l y ny z) (sall b l ny)).1 (lowS (srch b l y ny z) (sall b l ny)).2 0 (srch b l y ny z) (sall b l ny) = true from by unfold isB; rw [sameB_self, sameB_self]; rfl] at this
          exact this
        have HEE : Hid (exN b l y ny z (2 ^ ny) = srch b l y ny z) := exN_end _ _ _ _ _
        have HEL : Hid (∀ m, m ≤ 2 ^ ny → exN b l y ny z m ≤ 32 ^ 8) := fun m hm => Nat.le_trans (exN_le hm) (HSA.out ny (Nat.le_refl _))
        obtain ⟨N, hN⟩ : ∃ N, 2 ^ ny = N := ⟨_, rfl⟩
        have hN1 : (N : Int) ≤ 256 := by
          have : 2 ^ ny ≤ 2 ^ 8 := Nat.pow_le_pow_right (by omega) (by omega)
          omega
        have hsh0 : (2 : Int) ^ ny = (N : Int) := by rw [← hN]; simp
        have hsh : wrap64 ((2 : Int) ^ ny) = (N : Int) := by rw [hsh0]; unfold wrap64; omega
        have ewb : IntKind.u64.wrap b = b := by rw [IntKind.wrap_u64]; omega
        rw [hN] at HEE HEL
        have HHN := Lib.hid hN
        clear hn hyl h hy h0 hy0 hk hW0 hn8 hyn hcy o1 o2 o5 o6 o7 he hv hc hN hsh0
        go_enter Tryz.func7, Tryz.ntmps7
        go_wp2_with (rw [← HW0.out])
        refine (alive_any _).mono ?_
        rintro e w1 ⟨rfl, hb1⟩
        have K1 : Hid (Below w.heap.size w w1) := bel_on K0.out hb1
        have c2 : w1.cell? ⟨w0.heap.size, 2, none⟩ = some (.slice A ny c) := (HXS.out _ K1.out).cell 2
        clear hb1
        go_wp2_with (refine wpList_load_row rfl 46 (.tmp 3) rfl w0.heap.size rfl 46 (scC u b A ny c k).toArray (0, 0) _ (HXS.out _ K1.out) Tryz.underlying46 rfl HIN.out ?_)
        refine (HVS.out _ K1.out).mono ?_
        rintro e w2 ⟨rfl, hb2⟩
        have K2 : Hid (Below w.heap.size w w2) := bel_on K1.out hb2
        clear hb2 c2
        go_wp2_with fail
        refine (HCP.out _ K2.out).mono ?_
        rintro e w4 ⟨rfl, rfl⟩
        go_wp2_with fail
        go_loopw [10, 11] (fun va vi wr => ∃ i : Nat, i ≤ ny ∧ vi = .int .i64 (i : Int) ∧ va = .int .u64 (sall b l i : Int) ∧ Below w.heap.size w wr) (fun _ vi _ => ny - (intOf vi).toNat)
        case atStart => exact ⟨0, by omega, rfl, rfl, K2.out⟩
        case round =>
          obtain ⟨i, hi, rfl, rfl, hbel⟩ := hrel
          by_cases hin : i < ny
          · have hii : (i : Int) < ny := by omega
            have cb : wr.cell? ⟨w0.heap.size, 1, none⟩ = some (.int .i64 b) := (HXS.out _ hbel).cell 1
            obtain ⟨s1, hs1⟩ : ∃ q, sall b l i = q := ⟨_, rfl⟩
            obtain ⟨s2, hs2⟩ : ∃ q, sall b l (i + 1) = q := ⟨_, rfl⟩
            have g1 := HSS.out i hin
            have g2 := HSA.out (i + 1) hin
            rw [hs1, hs2] at g1
            rw [hs2] at g2
            have g3 : (s1 : Int) * b = (s2 : Int) := by rw [← g1, Int.natCast_mul]; congr 1; omega
            have g4 : (32 : Nat) ^ 8 = 1099511627776 := by decide +kernel
            have e1 : IntKind.u64.wrap ((s1 : Int) * b) = (s2 : Int) := by rw [g3, IntKind.wrap_u64]; omega
            have HS2 := Lib.hid hs2
            rw [hs1]
            clear hs1 hs2 g1 g2 g3 g4
            go_wp2_with fail
            go_roundw
            case rel => exact ⟨i + 1, by omega, by go_num, by rw [HS2.out], hbel⟩
            case measure => simp [intOf]; omega
          · obtain rfl : i = ny := by omega
            have hx5 : ¬ ((i : Int) < (i : Int)) := by omega
            obtain ⟨al, hal⟩ : ∃ q : Int, (sall b l i : Int) = q := ⟨_, rfl⟩
            have HALL := Lib.hid hal
            rw [hal]
            clear hal
            go_wp2_with fail
            go_loopw [9, 12] (fun vs vm wr => ∃ m : Nat, m ≤ N ∧ vm = .int .i64 (m : Int) ∧ vs = .int .u64 (exN b l y i z m : Int) ∧ Below w.heap.size w wr) (fun _ vm _ => N - (intOf vm).toNat)
            case atStart => exact ⟨0, by omega, rfl, rfl, hbel⟩
            case round =>
              obtain ⟨m, hm, rfl, rfl, hbel2⟩ := hrel
              by_cases hmn : m < N
              · have hmi : (m : Int) < N := by omega
                have hm0 : (0 : Int) ≤ m := by omega
                obtain ⟨gw, hgw⟩ : ∃ g, wr.heap.size = g := ⟨_, rfl⟩
                obtain ⟨wm, hwm⟩ : ∃ W, W = wr.alloc (.cells (cellsB (wordM m i 0)).toArray 5) := ⟨_, rfl⟩
                have hmk : (Instr.makeSlice 30 (.int .i64 (i : Int)) (.int .i64 (i : Int))).run Tryz.prog wr = .ok (.slice (some ⟨gw, 0, none⟩) i i) wm := by
                  have := run_make_row' (P := Tryz.prog) 30 5 (.int .u8 0) 1 Tryz.underlying30 (by kernel_rfl) rfl .i64 .i64 i (by omega) (by omega) wr
                  rw [made_bytes, ← wordM_zero m] at this
                  rwa [hwm, ← hgw]
                have BM : Hid (Blk wm gw 5 (cellsB (wordM m i 0)).toArray) := by unfold Hid; rw [hwm, ← hgw]; exact Blk.new _ _ _
                have DM : Hid (Below w.heap.size w wm) := by unfold Hid; rw [hwm]; exact bel_on hbel2 (alloc_bel _ _)
                have HGW : Hid (w.heap.size ≤ gw) := by unfold Hid; rw [← hgw]; exact hbel2.size
                obtain ⟨sn, hsn⟩ : ∃ q : Nat, exN b l y i z m = q := ⟨_, rfl⟩
                have HSN := Lib.hid hsn
                rw [hsn]
                clear hwm hgw hsn
                go_wp2_with fail
                clear hmk
                go_loopw [14, 15] (fun vc vj wr => ∃ j : Nat, j ≤ i ∧ vj = .int .i64 (j : Int) ∧ vc = .int .u64 (weightW (cA b l) (cB l) j m : Int) ∧ Hid (Blk wr gw 5 (cellsB (wordM m i j)).toArray) ∧ Below w.heap.size w wr) (fun _ vj _ => i - (intOf vj).toNat)
                case atStart => exact ⟨0, by omega, rfl, rfl, BM.out, DM.out⟩
                case round =>
                  obtain ⟨j, hj, rfl, rfl, HBJ, hbel3⟩ := hrel
                  by_cases hjn : j < i
                  · have hji : (j : Int) < i := by omega
                    have hj0 : (0 : Int) ≤ j := by omega
                    obtain ⟨p, o, rfl, hcg, -⟩ := HCG.out j hjn _ hbel3
                    have HCJ : Hid (∀ W, Below w.heap.size w W → W.cell? ⟨p, o + j, none⟩ = some (.int .i64 (it l j))) := fun W hW => by
                      obtain ⟨p', o', e', hc, -⟩ := HCG.out j hjn W hW
                      injection e' with e'
                      injection e' with e1 e2
                      subst e1 e2
                      exact hc
                    obtain ⟨ht1, ht2⟩ := HIT.out j hjn
                    obtain ⟨q, hq⟩ : ∃ q, m / 2 ^ j = q := ⟨_, rfl⟩
                    obtain ⟨bb, hbb⟩ : ∃ bb, q % 2 = bb := ⟨_, rfl⟩
                    have hb2 : bb < 2 := by rw [← hbb]; exact Nat.mod_lt _ (by omega)
                    have hq1 : q < 1024 := by rw [← hq]; exact Nat.lt_of_le_of_lt (Nat.div_le_self _ _) (by omega)
                    have hshr : (m : Int) / (2 : Int) ^ j = (q : Int) := by rw [← hq, Int.natCast_ediv]; simp
                    have hand : bits BinOp.and IntKind.i64 (q : Int) 1 = (bb : Int) := by rw [← hbb]; exact bits_and_one_ hq1
                    have hcv : IntKind.u8.wrap (bb : Int) = (bb : Int) := by rw [IntKind.wrap_u8]; omega
                    have htb : m.testBit j = decide (bb = 1) := by rw [Nat.testBit_eq_decide_div_mod_eq, hq, hbb]
                    have kc : wr.cell? ⟨gw, j, none⟩ = some (.int .u8 (((wordM m i j).getD j 0).toNat : Int)) := (HBJ.out.cell j).trans (bytes_get _ j (by rw [wordM_len]; exact hjn))
                    have kf := HBJ.out.frozen j
                    obtain ⟨V, hV⟩ : ∃ V, V = wr.setCell ⟨gw, j, none⟩ (.int .u8 (bb : Int)) := ⟨_, rfl⟩
                    have BV0 := HBJ.out.set_ j (.int .u8 (bb : Int))
                    have BV : Hid (Blk V gw 5 (cellsB (wordM m i (j + 1))).toArray) := by
                      unfold Hid
                      rw [hV, ← wordM_set m i j hjn, ← bytes_set]
                      rw [show ((((if m.testBit j = true then (1 : UInt8) else 0)).toNat : Nat) : Int) = (bb : Int) from by
                        rw [htb]
                        have hb01 : bb = 0 ∨ bb = 1 := by omega
                        rcases hb01 with rfl | rfl <;> rfl]
                      exact BV0
                    have kv : V.cell? ⟨gw, j, none⟩ = some (.int .u8 (bb : Int)) := by
                      have h1 := BV0.cell j
                      rw [← hV] at h1
                      rw [h1]
                      simp [cellsB_length, wordM_len, hjn]
                    have DV : Hid (Below w.heap.size w V) := by unfold Hid; rw [hV]; exact hbel3.setCell (p := ⟨gw, j, none⟩) HGW.out _
                    have cb : V.cell? ⟨w0.heap.size, 1, none⟩ = some (.int .i64 b) := (HXS.out _ DV.out).cell 1
                    have cs : V.cell? ⟨w0.heap.size, 2, none⟩ = some (.slice (some ⟨p, o, none⟩) i c) := (HXS.out _ DV.out).cell 2
                    have cg := HCJ.out _ DV.out
                    have HWJ := HWL.out m (j + 1) hjn
                    have g4 : (32 : Nat) ^ 8 = 1099511627776 := by decide +kernel
                    obtain ⟨c1, hc1⟩ : ∃ q, weightW (cA b l) (cB l) j m = q := ⟨_, rfl⟩
                    obtain ⟨c2, hc2⟩ : ∃ q, weightW (cA b l) (cB l) (j + 1) m = q := ⟨_, rfl⟩
                    have HSTP : c2 = c1 * (if bb = 1 then (it l j).toNat else (b - it l j).toNat) := by
                      rw [← hc2, weightW, hc1, htb]
                      simp only [decide_eq_true_eq]
                      rfl
                    rw [hc1]
                    rw [hc2] at HWJ
                    have HC2 := Lib.hid hc2
                    have HV := Lib.hid hV
                    obtain ⟨a, hal2⟩ : ∃ a, it l j = a := ⟨_, rfl⟩
                    rw [hal2] at cg ht1 ht2 HSTP
                    clear hcg hq hbb htb hc1 hc2 BV0 hV hal2 hjn HCJ
                    have hb01 : bb = 0 ∨ bb = 1 := by omega
                    rcases hb01 with rfl | rfl
                    · have g3 : (c1 : Int) * (b - a) = (c2 : Int) := by rw [HSTP, if_neg (by omega), Int.natCast_mul]; congr 1; omega
                      have e1 : IntKind.u64.wrap ((c1 : Int) * (b - a)) = (c2 : Int) := by rw [g3, IntKind.wrap_u64]; omega
                      have e2 : IntKind.u64.wrap (b - a) = b - a := by rw [IntKind.wrap_u64]; omega
                      have e3 : IntKind.i64.wrap (b - a) = b - a := by rw [IntKind.wrap_i64]; omega
                      have HV' : Hid (V = wr.setCell ⟨gw, j, none⟩ (.int .u8 0)) := HV
                      have kv' : V.cell? ⟨gw, j, none⟩ = some (.int .u8 0) := kv
                      have hand' : bits BinOp.and IntKind.i64 (q : Int) 1 = 0 := hand
                      clear HSTP HWJ g4 g3 HV kv hcv hand
                      go_wp2_with (rw [← HV'.out])
                      go_region
                      go_wp2_with fail
                      go_roundw
                      case rel => exact ⟨j + 1, by omega, by go_num, by rw [HC2.out], BV.out.drew, DV.out.drew⟩
                      case measure => simp [intOf]; omega
                    · have g3 : (c1 : Int) * a = (c2 : Int) := by rw [HSTP, if_pos rfl, Int.natCast_mul]; congr 1; omega
                      have e1 : IntKind.u64.wrap ((c1 : Int) * a) = (c2 : Int) := by rw [g3, IntKind.wrap_u64]; omega
                      have e2 : IntKind.u64.wrap a = a := by rw [IntKind.wrap_u64]; omega
                      have HV' : Hid (V = wr.setCell ⟨gw, j, none⟩ (.int .u8 1)) := HV
                      have kv' : V.cell? ⟨gw, j, none⟩ = some (.int .u8 1) := kv
                      have hand' : bits BinOp.and IntKind.i64 (q : Int) 1 = 1 := hand
                      clear HSTP HWJ g4 g3 HV kv hcv hand
                      go_wp2_with (rw [← HV'.out])
                      go_roundw
                      case rel => exact ⟨j + 1, by omega, by go_num, by rw [HC2.out], BV.out, DV.out⟩
                      case measure => simp [intOf]; omega
                  · obtain rfl : j = i := by omega
                    have hx6 : ¬ ((j : Int) < (j : Int)) := by omega
                    have VB : Hid (BR wr (some ⟨gw, 0, none⟩) j (wordM m j j)) := (Blk.ob HBJ.out (Nat.zero_le _) (wordM_len _ _ _) rfl (by omega) : OB 0 wr (some ⟨gw, 0, none⟩) j _).br (by rw [wordM_len]; omega)
                    obtain ⟨wt, hwt⟩ : ∃ q : Nat, weightW (cA b l) (cB l) j m = q := ⟨_, rfl⟩
                    obtain ⟨sc, hsc⟩ : ∃ q : Int, scoreW (gA b l y) (gB b l y) j m = q := ⟨_, rfl⟩
                    have HE1 : Hid (exN b l y j z (m + 1) = sn + if z ≤ sc then wt else 0) := by unfold Hid; rw [← HSN.out, ← hwt, ← hsc]; rfl
                    have HE2 := HEL.out (m + 1) (by omega)
                    have g4 : (32 : Nat) ^ 8 = 1099511627776 := by decide +kernel
                    rw [HE1.out] at HE2
                    have HSM : Hid (∀ W, Below w.heap.size w W → BR W (some ⟨gw, 0, none⟩) j (wordM m j j) → Calls Tryz.prog 47 #[.agg (scC u b A j c k).toArray, .slice (some ⟨gw, 0, none⟩) j j, .slice Y j d] W fun e w' => e = .returned (.tuple #[.int .i64 sc, .int .i64 0]) ∧ Below W.heap.size W w') := fun W hW hV => by rw [← hsc]; exact HSC.out m _ _ W hW hV
                    rw [hwt]
                    clear hwt hsc
                    have DX : Hid (Below w.heap.size w wr) := hbel3
                    go_wp2_with (refine wpList_load_row rfl 46 (.tmp 3) rfl w0.heap.size rfl 46 (scC u b A j c k).toArray (0, 0) _ (HXS.out _ DX.out) Tryz.underlying46 rfl HIN.out ?_)
                    refine (HSM.out _ hbel3 VB.out).mono ?_
                    rintro e w8 ⟨rfl, hb8⟩
                    have K8 : Hid (Below w.heap.size w w8) := bel_on hbel3 hb8
                    clear hb8
                    by_cases hz : z ≤ sc
                    · rw [if_pos hz] at HE1 HE2
                      obtain ⟨s9, hs9⟩ : ∃ q, sn + wt = q := ⟨_, rfl⟩
                      have e1 : IntKind.u64.wrap ((sn : Int) + (wt : Int)) = (s9 : Int) := by rw [IntKind.wrap_u64]; omega
                      rw [hs9] at HE1
                      clear hs9 HE2 g4
                      go_wp2_with fail
                      go_roundw
                      case rel => exact ⟨m + 1, by omega, by go_num, by rw [HE1.out], K8.out⟩
                      case measure => simp [intOf]; omega
                    · rw [if_neg hz] at HE1 HE2
                      clear HE2 g4
                      go_wp2_with fail
                      go_roundw
                      case rel => exact ⟨m + 1, by omega, by go_num, by rw [HE1.out]; rfl, K8.out⟩
                      case measure => simp [intOf]; omega
              · obtain rfl : m = N := by omega
                have hx7 : ¬ ((m : Int) < (m : Int)) := by omega
                rw [HEE.out]
                rw [HALL.out] at HIS
                obtain ⟨sr, hsr⟩ : ∃ q : Int, (srch b l y i z : Int) = q := ⟨_, rfl⟩
                rw [hsr] at HIS
                rw [hsr]
                generalize lowS (srch b l y i z) (sall b l i) = l1 at *
                obtain ⟨l1a, l1b⟩ := l1
                dsimp only at *
                generalize l1a.length = n1a at *
                generalize l1b.length = n1b at *
                have KX : Hid (Below w.heap.size w wr) := hbel2
                clear hsr
                go_wp2_with (refine wpList_load_row rfl 46 (.tmp 3) rfl w0.heap.size rfl 46 (scC u b A i c k).toArray (0, 0) _ (HXS.out _ KX.out) Tryz.underlying46 rfl HIN.out ?_)
                refine (HCH.out _ KX.out).mono ?_
                rintro e w9 ⟨X9, x9, Z9, z9, rfl, gx9, gz9, hb9⟩
                obtain ⟨w9b, hw9⟩ : ∃ W, W = w9.alloc (.cells #[.slice X9 n1a x9, .slice Z9 n1b z9] 27) := ⟨_, rfl⟩
                have d9 : Below w9.heap.size w9 w9b := by rw [hw9]; exact alloc_bel _ _
                have hbb9 := bel_on hb9 d9
                have K9 : Hid (Below w.heap.size w w9b) := bel_on KX.out hbb9
                have T9 : Hid (Blk w9b w9.heap.size 27 #[.slice X9 n1a x9, .slice Z9 n1b z9]) := by unfold Hid; rw [hw9]; exact Blk.new _ _ _
                have GX9 := Lib.hid (gx9.below d9)
                have GZ9 := Lib.hid (gz9.below d9)
                have HW9 := Lib.hid hw9
                clear hw9 d9 hbb9 hb9 gx9 gz9
                have q0 := T9.out.cell 0
                have q1 := T9.out.cell 1
                go_wp2_with (rw [← HW9.out])
                refine (HIS.out _ _ _ _ _ GX9.out GZ9.out).mono ?_
                rintro e w10 ⟨rfl, hb10⟩
                have K10 : Hid (Below w.heap.size w w10) := bel_on K9.out hb10
                clear hb10 q0 q1
                go_wp2_with fail
                go_ret
                exact ⟨by simp, bel_on b0.out K10.out⟩
theorem codeExact_walk (u b : Int) (A : Option Addr) (c : Nat) (l : List Int) (k : List UInt8) (Y : Option Addr) (d : Nat) (y : List UInt8) (z : Int) (w : World) (h : IR w A c l) (hk : k.length = 16) (hy : BR w Y d y) (h1 : -9223372036854775808 ≤ z) (h2 : z ≤ 9223372036854775807) :
    Calls Tryz.prog 7 #[.agg (scC u b A l.length c k).toArray, .slice Y y.length d, .int .i64 z] w fun e w' => e = .returned (.bool true) ∧ Below w.heap.size w w' := codeExact_walk0 u b A c l k Y d y z w h hk hy h1 h2
end Go.Proofs.YtenpkmgbaajeeaaGreat
