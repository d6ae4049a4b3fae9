/-
  Lemmas and contracts, joined.
-/
import Derived.Lib.SmallJoins
import Derived.Deep.QuietTactic
import Derived.BigQuiet
import Derived.Test.YtenpkmgbaajeeaaGreatCw1
import Derived.Test.YtenpkmgbaajeeaaGreatCp1
import Derived.Test.YtenpkmgbaajeeaaGreatCc1
import Derived.Test.YtenpkmgbaajeeaaGreatCc2
import Derived.Test.YtenpkmgbaajeeaaGreatCs1
import Derived.Test.YtenpkmgbaajeeaaGreatCt1
import Derived.Test.YtenpkmgbaajeeaaGreatCa2
set_option linter.unusedSimpArgs false
set_option linter.unusedVariables false
set_option linter.unnecessarySimpa false
/- What the frames of the laws share: a code of scores among the arguments, opened. -/
namespace Go.Proofs.YtenpkmgbaajeeaaGreat
open Go.ChangeShapes Go.WideShapes Go.ChangeAt Go.RowKit Go.Deep
set_option linter.unusedVariables false

theorem cells_key : Tryz.prog.cellsOf 23 = 16 := by kernel_rfl
theorem cells_scores : Tryz.prog.cellsOf 46 = 19 := by kernel_rfl
theorem cells_ints : Tryz.prog.cellsOf 38 = 1 := by kernel_rfl

/-- A code of scores, among cells. -/
theorem scores_of_trod {H : Type} {enc : TypeId × Value → H} {W : World} {fuel : Nat} {cs : List Value} {x : DataW H × List MemPlace} (h : DataW.trod enc Tryz.prog W 0 (fun _ => true) true fuel 46 cs = some x)
    (hw : ∀ n ∈ x.1.weights Tryz.prog 46, n ≤ reachBytes) : ∃ u b A c l k, cs = scC u b A (List.length l) c k ∧ IR W A c l ∧ k.length = 16 ∧ (-9223372036854775808 ≤ u ∧ u ≤ 9223372036854775807) ∧ (-9223372036854775808 ≤ b ∧ b ≤ 9223372036854775807) := by
  obtain ⟨y0, y1, y2, y3, n, rfl, hl, h0, h1, h2, h3⟩ := Go.Joins.trod_struct4 Tryz.underlying46 h
  have hw' : ∀ n ∈ DataW.weightsEach Tryz.prog [3, 3, 38, 23] [y0.1, y1.1, y2.1, y3.1], n ≤ reachBytes := by simpa [DataW.weights, Tryz.underlying46] using hw
  dsimp only at h0 h1 h2 h3
  rw [cells_int] at h0 h1
  rw [cells_ints] at h2
  rw [cells_key] at h3
  rw [cells_scores] at hl
  obtain ⟨u, e0, hu⟩ := int_of_trod h0
  obtain ⟨b, e1, hb⟩ := int_of_trod h1
  obtain ⟨A, c, l, e2, hI, _⟩ := ints_of_trod Tryz.underlying38 h2 (fun m hm => hw' m (DataW.weights_mem_each (j := 2) rfl rfl m hm))
  obtain ⟨k, hk, e3⟩ := key_of_trod h3
  refine ⟨u, b, A, c, l, k, ?_, hI, hk, hu, hb⟩
  match cs, hl with
  | c0 :: c1 :: c2 :: r, hl =>
    simp at e0 e1 e2
    have hr : r.length = 16 := by simpa using hl
    rw [show List.drop 3 (c0 :: c1 :: c2 :: r) = r from rfl, List.take_of_length_le (by omega)] at e3
    rw [e0, e1, e2, e3]
    rfl
set_option maxRecDepth 100000 in
theorem open_scores {H : Type} {enc : TypeId × Value → H} {W : World} {b0 : Nat} {v : Value} {d : DataW H} {ps : List MemPlace} (hval : Value.okWide Tryz.prog W .any b0 46 v) (hd : DataW.Trod enc Tryz.prog W 0 (fun _ => true) true 46 v d ps)
    (hw : ∀ n ∈ d.weights Tryz.prog 46, n ≤ reachBytes) : ∃ u b A c l k, v = .agg (scC u b A (List.length l) c k).toArray ∧ IR W A c l ∧ k.length = 16 ∧ (-9223372036854775808 ≤ u ∧ u ≤ 9223372036854775807) ∧ (-9223372036854775808 ≤ b ∧ b ≤ 9223372036854775807) := by
  obtain ⟨cs, rfl, hsz⟩ := okWide_struct Tryz.underlying46 hval
  obtain ⟨fuel, hf⟩ := hd
  obtain ⟨u, b, A, c, l, k, e, h1, h2, h3, h4⟩ := scores_of_trod hf hw
  refine ⟨u, b, A, c, l, k, ?_, h1, h2, h3, h4⟩
  rw [← e]
  simp [Value.cells]
end Go.Proofs.YtenpkmgbaajeeaaGreat

/- Whether a code of steps is complete: the reference's, and both for any code. -/
namespace Go.Proofs.YtenpkmgbaajeeaaGreat
open Go.RowKit
set_option linter.unusedVariables false
set_option linter.unusedSimpArgs false

def thL (t : Nat → Int) (n : Nat) : List Int := (List.range n).map t
theorem thL_length (t : Nat → Int) (n : Nat) : (thL t n).length = n := by simp [thL]
theorem thL_succ (t : Nat → Int) (n : Nat) : thL t (n + 1) = thL t n ++ [t n] := by simp [thL, List.range_succ]
theorem thL_it {t : Nat → Int} {n i : Nat} (h : i < n) : it (thL t n) i = t i := by rw [it_in (by rw [thL_length]; exact h)]; simp [thL]
theorem mayS_or {d : Nat} {t : Nat → Int} {j v x : Nat} : (decide (∃ u, u < v ∧ mayS d t j u = true ∧ t (u + x) < (u : Int)) || (mayS d t j v && decide (t (v + x) < (v : Int)))) = decide (∃ u, u < v + 1 ∧ mayS d t j u = true ∧ t (u + x) < (u : Int)) := by
  rw [Bool.eq_iff_iff, Bool.or_eq_true, Bool.and_eq_true, decide_eq_true_eq, decide_eq_true_eq, decide_eq_true_eq]
  constructor
  · rintro (⟨u, h1, h2, h3⟩ | ⟨h1, h2⟩)
    · exact ⟨u, by omega, h2, h3⟩
    · exact ⟨v, by omega, h1, h2⟩
  · rintro ⟨u, h1, h2, h3⟩
    by_cases e : u = v
    · subst e; exact .inr ⟨h2, h3⟩
    · exact .inl ⟨u, by omega, h2, h3⟩
theorem mayS_fin {d : Nat} {t : Nat → Int} {j x : Nat} : decide (∃ u, u < d + 1 ∧ mayS d t j u = true ∧ t (u + x) < (u : Int)) = mayS d t (j + 1) x := by
  rw [mayS, decide_eq_decide]
  constructor
  · rintro ⟨v, hv, h1, h3⟩; exact ⟨v, by omega, h1, h3⟩
  · rintro ⟨v, hv, h1, h3⟩; exact ⟨v, by omega, h1, h3⟩
/-- What the next block may weigh, the first v weights of this one looked at. -/
def nextQ (d : Nat) (t : Nat → Int) (j v x : Nat) : Bool := decide (∃ u, u < v ∧ mayS d t j u = true ∧ t (u + x) < (u : Int))
end Go.Proofs.YtenpkmgbaajeeaaGreat

/- The law CodeTails: the walk. -/
namespace Go.Proofs.YtenpkmgbaajeeaaGreat
open Go.RowKit
set_option linter.unusedVariables false
set_option linter.unusedSimpArgs false

theorem frac2_open_ {W w' : World} {e : Ending} {r : (List Nat × List Nat) × Int} (h : Frac2 W w' e r) : ∃ X x Z z, e = .returned (.tuple #[.agg #[.slice X r.1.1.length x, .slice Z r.1.2.length z], .int .i64 r.2]) ∧ NR w' X x r.1.1 ∧ NR w' Z z r.1.2 ∧ Below W.heap.size W w' := by
  obtain ⟨v, rfl, X, x, Z, z, rfl, h1, h2, _, hb⟩ := h
  exact ⟨X, x, Z, z, rfl, h1.nr_, h2.nr_, hb⟩
set_option maxHeartbeats 8000000 in
set_option maxRecDepth 100000 in
theorem Complete_any (s : StV) (w : World) (h : StOK w s) :
    Calls Tryz.prog 61 #[.agg s.cs.toArray] w fun e w' => e = .returned (.tuple #[.bool (cmpSt s).1, .int .i64 (cmpSt s).2]) ∧ Below w.heap.size w w' := by
  cases hok : s.ok with
  | true =>
    have := complete_good s w h hok
    unfold cmpSt
    rw [hok]
    exact this
  | false =>
    have HCK : Hid (∀ W, Below w.heap.size w W → Calls Tryz.prog 21 #[.agg s.cs.toArray] W fun e w' => e = .returned (.int .i64 (ckSt s.ok)) ∧ Below W.heap.size W w') := fun W hW => CheckSteps_any s W (h.below hW)
    have hks := h.k16
    obtain ⟨W0, hW0⟩ : ∃ W : World, W = w.alloc (.cells s.cs.toArray 29) := ⟨_, rfl⟩
    have b0 : Hid (Below w.heap.size w W0) := by unfold Hid; rw [hW0]; exact alloc_below _ _
    have x0 : Hid (Blk W0 w.heap.size 29 s.cs.toArray) := by unfold Hid; rw [hW0]; exact Blk.new w _ _
    have HW0 := Lib.hid hW0
    have HIN := Lib.hid (StV.info (s := s) hks)
    have HS : Hid (cmpSt s = (false, 70)) := by unfold Hid cmpSt; rw [hok]; rfl
    rw [hok] at HCK
    rw [HS.out]
    generalize s.cs.toArray = cs at *
    clear hW0 h hks hok
    go_enter Tryz.func61, Tryz.ntmps61
    go_wp2_with (first
      | (rw [← HW0.out])
      | (refine wpList_load_row rfl 29 (.tmp 1) rfl (w.heap.size) rfl 29 cs (0, 0) _ x0.out Tryz.underlying29 rfl HIN.out ?_)
      | (go_at_call 21; (with_reducible refine (HCK.out _ b0.out).mono ?_); rintro e w1 ⟨rfl, hb⟩; have D1 := Lib.hid (bel_on b0.out hb); clear hb; simp only [ckSt]))
    go_ret2
    exact ⟨rfl, D1.out⟩
end Go.Proofs.YtenpkmgbaajeeaaGreat

/- The copy itself has the greatest score: in plain words. -/
namespace Go.Proofs.YtenpkmgbaajeeaaGreat
open Go.RowKit
set_option linter.unusedVariables false

/-- The copy with the unreadable places, below i, taken from a word. -/
def bestW (w y : List UInt8) (n i : Nat) : List UInt8 := (List.range n).map fun j => if j < i ∧ bt y j = 2 then w.getD j 0 else y.getD j 0
/-- The opposite of a word, below i. -/
def othW (w : List UInt8) (n i : Nat) : List UInt8 := (List.range n).map fun j => if j < i then UInt8.ofNat (1 - bt w j) else w.getD j 0
/-- Whether a word is the copy at all readable places below i. -/
def sameW (w y : List UInt8) : Nat → Bool
  | 0 => true
  | i + 1 => sameW w y i && (decide (bt y i = 2) || decide (bt w i = bt y i))
/-- Each place once as a match and once as a mismatch. -/
def bothS (b : Int) (l : List Int) (y : List UInt8) : Nat → Int
  | 0 => 0
  | i + 1 => bothS b l y i + (if bt y i = 2 then 0 else if bt y i = 1 then b - 2 * it l i else 2 * it l i - b)

theorem bestW_len (w y : List UInt8) (n i : Nat) : (bestW w y n i).length = n := by simp [bestW]
theorem othW_len (w : List UInt8) (n i : Nat) : (othW w n i).length = n := by simp [othW]
theorem bestW_zero (w : List UInt8) {y : List UInt8} {n : Nat} (h : y.length = n) : bestW w y n 0 = y := by
  refine List.ext_getElem (by simp [bestW, h]) fun j h1 h2 => ?_
  simp [bestW, List.getD_eq_getElem?_getD, List.getElem?_eq_getElem h2]
theorem othW_zero {w : List UInt8} {n : Nat} (h : w.length = n) : othW w n 0 = w := by
  refine List.ext_getElem (by simp [othW, h]) fun j h1 h2 => ?_
  simp [othW, List.getD_eq_getElem?_getD, List.getElem?_eq_getElem h2]
theorem bestW_get (w y : List UInt8) (n i j : Nat) (hj : j < n) : bt (bestW w y n i) j = if j < i ∧ bt y j = 2 then bt w j else bt y j := by
  unfold bestW bt
  rw [List.getD_eq_getElem?_getD, List.getElem?_map, List.getElem?_range hj]
  simp only [Option.map_some, Option.getD_some]
  split <;> rfl
theorem othW_get (w : List UInt8) (n i j : Nat) (hj : j < n) (h : bt w j ≤ 1) : bt (othW w n i) j = if j < i then 1 - bt w j else bt w j := by
  unfold othW
  unfold bt at h ⊢
  rw [List.getD_eq_getElem?_getD, List.getElem?_map, List.getElem?_range hj]
  simp only [Option.map_some, Option.getD_some]
  split
  · rw [UInt8.toNat_ofNat']; exact Nat.mod_eq_of_lt (by omega)
  · rfl
theorem bestW_set (w y : List UInt8) (n i : Nat) (hi : i < n) (h2 : bt y i = 2) : (bestW w y n i).set i (w.getD i 0) = bestW w y n (i + 1) := by
  refine List.ext_getElem (by simp [bestW]) fun j h1 h2' => ?_
  simp only [bestW, List.getElem_set, List.getElem_map, List.getElem_range]
  by_cases e : i = j
  · subst e; simp [h2]
  · rw [if_neg e]
    have : (j < i) ↔ (j < i + 1) := by omega
    simp [this]
theorem bestW_keep (w y : List UInt8) (n i : Nat) (h2 : bt y i ≠ 2) : bestW w y n i = bestW w y n (i + 1) := by
  refine List.map_congr_left fun j _ => ?_
  by_cases e : j = i
  · subst e; simp [h2]
  · have : (j < i) ↔ (j < i + 1) := by omega
    simp [this]
theorem othW_set (w : List UInt8) (n i : Nat) (hi : i < n) : (othW w n i).set i (UInt8.ofNat (1 - bt w i)) = othW w n (i + 1) := by
  refine List.ext_getElem (by simp [othW]) fun j h1 h2' => ?_
  simp only [othW, List.getElem_set, List.getElem_map, List.getElem_range]
  by_cases e : i = j
  · subst e; simp
  · rw [if_neg e]
    have : (j < i) ↔ (j < i + 1) := by omega
    simp [this]
theorem bestW_ok {w y : List UInt8} {n : Nat} (hw : ∀ i, i < n → bt w i ≤ 1) (hy : ∀ i, i < n → bt y i ≤ 2) : wordB (bestW w y n n) n = true := by
  unfold wordB
  rw [Bool.and_eq_true, decide_eq_true_eq]
  refine ⟨bestW_len _ _ _ _, symB_iff.2 fun i hi => ?_⟩
  rw [bestW_len] at hi
  rw [bestW_get w y n n i hi]
  have := hw i hi
  have := hy i hi
  split
  · omega
  · rename_i h; have : bt y i ≠ 2 := fun e => h ⟨hi, e⟩; omega
theorem othW_ok {w : List UInt8} {n : Nat} (hw : ∀ i, i < n → bt w i ≤ 1) : wordB (othW w n n) n = true := by
  unfold wordB
  rw [Bool.and_eq_true, decide_eq_true_eq]
  refine ⟨othW_len _ _ _, symB_iff.2 fun i hi => ?_⟩
  rw [othW_len] at hi
  rw [othW_get w n n i hi (hw i hi), if_pos hi]
  omega
/-- No word has a higher score than the copy itself, and one that differs from it in a readable place has a lower one. -/
theorem score_best {b : Int} {l : List Int} {w y : List UInt8} {n : Nat} (hb : 2 ≤ b ∧ b ≤ 32) (hw : ∀ i, i < n → bt w i ≤ 1) (hy : ∀ i, i < n → bt y i ≤ 2) : ∀ k, k ≤ n →
    sumS b l w y k ≤ sumS b l (bestW w y n n) y k ∧ (sumS b l w y k = sumS b l (bestW w y n n) y k ↔ sameW w y k = true)
  | 0, _ => ⟨Int.le_refl _, by simp [sumS, sameW]⟩
  | k + 1, h => by
    obtain ⟨ih1, ih2⟩ := score_best (l := l) hb hw hy k (by omega)
    have h1 := hw k (by omega)
    have h2 := hy k (by omega)
    rw [sumS_succ, sumS_succ, bestW_get w y n n k (by omega), sameW, Bool.and_eq_true, ← ih2, Bool.or_eq_true, decide_eq_true_eq, decide_eq_true_eq]
    have hz : bt y k = 0 ∨ bt y k = 1 ∨ bt y k = 2 := by omega
    have hv : bt w k = 0 ∨ bt w k = 1 := by omega
    rcases hz with e | e | e <;> rcases hv with f | f <;> rw [e, f] <;> simp [partS_0, partS_1, partS_2] <;> omega
/-- A word and its opposite. -/
theorem score_both {b : Int} {l : List Int} {w y : List UInt8} {n : Nat} (hw : ∀ i, i < n → bt w i ≤ 1) (hy : ∀ i, i < n → bt y i ≤ 2) : ∀ k, k ≤ n →
    sumS b l w y k + sumS b l (othW w n n) y k = bothS b l y k
  | 0, _ => rfl
  | k + 1, h => by
    have ih := score_both (b := b) (l := l) hw hy k (by omega)
    have h1 := hw k (by omega)
    have h2 := hy k (by omega)
    rw [sumS_succ, sumS_succ, othW_get w n n k (by omega) h1, if_pos (by omega), bothS]
    have hz : bt y k = 0 ∨ bt y k = 1 ∨ bt y k = 2 := by omega
    have hv : bt w k = 0 ∨ bt w k = 1 := by omega
    rcases hz with e | e | e <;> rcases hv with f | f <;> rw [e, f] <;> simp [partS_0, partS_1, partS_2] <;> omega
theorem bothS_bd {b : Int} {l : List Int} {y : List UInt8} (hb : 2 ≤ b ∧ b ≤ 32) (hl : ∀ i, i < l.length → 1 ≤ it l i ∧ it l i < b) : ∀ k, k ≤ l.length → -(64 * (k : Int)) ≤ bothS b l y k ∧ bothS b l y k ≤ 64 * (k : Int)
  | 0, _ => by simp [bothS]
  | k + 1, h => by
    obtain ⟨h1, h2⟩ := bothS_bd (y := y) hb hl k (by omega)
    have h3 := hl k (by omega)
    rw [bothS]
    split
    · omega
    · split <;> omega
end Go.Proofs.YtenpkmgbaajeeaaGreat

/- Rows of bytes of one's own: stores. -/
namespace Go.Proofs.YtenpkmgbaajeeaaGreat
open Go.RowKit
set_option linter.unusedVariables false

theorem OB.room {B : Nat} {w : World} {A : Option Addr} {c : Nat} {l : List UInt8} (h : OB B w A c l) {i : Nat} (hi : i < l.length) : ∃ g, A = some ⟨g, 0, none⟩ ∧ B ≤ g ∧ g < w.heap.size ∧ w.cell? ⟨g, i, none⟩ = some (.int .u8 (bt l i : Int)) ∧ w.frozen? ⟨g, i, none⟩ = false ∧
    ∀ v : UInt8, OB B (w.setCell ⟨g, i, none⟩ (.int .u8 (v.toNat : Int))) A c (l.set i v) := by
  rcases h.2 with ⟨_, h0⟩ | ⟨g, cap, cur, hv, hB, hh, hnc, hm, hs, ht⟩
  · exact absurd h0 (by omega)
  · injection hv with h1 _ h3
    subst h1 h3
    have hb : Blk w g 5 cur := hh
    have hle : l.length ≤ cur.size := by rw [hs]; omega
    have hcur : cur[i]? = (cellsB l)[i]? := by
      rw [← ht, List.getElem?_take, if_pos (by omega)]; simp
    refine ⟨g, rfl, hB, hb.lt, ?_, hb.frozen i, fun v => ⟨by simp [cellsB], .inr ⟨g, _, cur.setIfInBounds i (.int .u8 (v.toNat : Int)), by rw [List.length_set], hB, hb.set_ i _, by rw [List.length_set]; exact hnc, hm, by rw [Array.size_setIfInBounds]; exact hs, ?_⟩⟩⟩
    · rw [hb.cell i, hcur, cellsB_get l i hi]
      simp [bt, List.getD, List.getElem?_eq_getElem hi]
    · rw [List.length_set, cellsB_set, ← ht, Array.toList_setIfInBounds, List.take_set]
/-- A store into another block leaves the row. -/
theorem OB.other {B : Nat} {w : World} {g c : Nat} {l : List UInt8} (h : OB B w (some ⟨g, 0, none⟩) c l) {p : Addr} (hp : g ≠ p.block) (u : Value) : OB B (w.setCell p u) (some ⟨g, 0, none⟩) c l := by
  refine World.ownsRow.kept h (⟨rfl, rfl, rfl, by simp, fun k hk hne => Below.heap_setCell w p u k (by simpa using hne)⟩ : w.grownBy (w.setCell p u) (some p.block)) ?_
  by_cases hv : (Value.slice (some ⟨g, 0, none⟩) l.length c).ownBlock = none
  · exact .inl hv
  · refine .inr fun e => hp ?_
    simp [Value.ownBlock] at e
    omega
theorem OB.dr {B : Nat} {w : World} {A : Option Addr} {c : Nat} {l : List UInt8} (h : OB B w A c l) : OB B w.drew A c l := h
theorem OB.drN {B : Nat} {w : World} {A : Option Addr} {c : Nat} {l : List UInt8} (h : OB B w A c l) (m : Nat) : OB B (w.drewN m) A c l := h
end Go.Proofs.YtenpkmgbaajeeaaGreat

/- The law CodeBest: the walk. -/
namespace Go.Proofs.YtenpkmgbaajeeaaGreat
open Go.RowKit
set_option linter.unusedVariables false
set_option linter.unusedSimpArgs false

set_option maxHeartbeats 16000000 in
set_option maxRecDepth 100000 in
theorem codeBest_walk0 (u b : Int) (A : Option Addr) (c : Nat) (l : List Int) (k : List UInt8) (V : Option Addr) (e : Nat) (v : List UInt8) (Y : Option Addr) (d : Nat) (y : List UInt8) (w0 : World) (h0 : IR w0 A c l) (hk : k.length = 16) (hv0 : BR w0 V e v) (hy0 : BR w0 Y d y) :
    Calls Tryz.prog 8 #[.agg (scC u b A l.length c k).toArray, .slice V v.length e, .slice Y y.length d] w0 fun e w' => e = .returned (.bool true) ∧ Below w0.heap.size w0 w' := by
  obtain ⟨n, hn⟩ : ∃ n, l.length = n := ⟨_, rfl⟩
  obtain ⟨nv, hvl⟩ : ∃ n, v.length = n := ⟨_, rfl⟩
  obtain ⟨ny, hyl⟩ : ∃ n, y.length = n := ⟨_, rfl⟩
  rw [hn, hvl, hyl]
  have hlen : (n : Int) ≤ 140737488351232 := by have := h0.len; omega
  obtain ⟨w, hW0⟩ : ∃ W : World, W = w0.alloc (.cells (scC u b A n c k).toArray 46) := ⟨_, rfl⟩
  have b0 : Hid (Below w0.heap.size w0 w) := by unfold Hid; rw [hW0]; exact alloc_bel _ _
  have HXS : Hid (∀ W, Below w.heap.size w W → Blk W w0.heap.size 46 (scC u b A n c k).toArray) := fun W hW => Blk.below' (by rw [hW0]; exact Blk.new w0 _ _) hW
  have HW0 := Lib.hid hW0
  have HIN : Hid ((Tryz.prog.info? 46).map (·.size) = some (scC u b A n c k).toArray.size) := scC_info u b A n c k hk
  have h := h0.below b0.out
  have hv := hv0.below b0.out
  have hy := hy0.below b0.out
  have K0 : Hid (Below w.heap.size w w) := Below.refl _ _
  have HVS : Hid (∀ W, Below w.heap.size w W → Calls Tryz.prog 46 #[.agg (scC u b A n c k).toArray] W fun e w' => e = .returned (.bool (scoresB u b l)) ∧ Below W.heap.size W w') := fun W hW => refValidScores_any u b A c l k W hn (h.below hW)
  have HWD : Hid (∀ W, Below w.heap.size w W → Calls Tryz.prog 49 #[.slice V nv e, .int .i64 (n : Int)] W fun e w' => e = .returned (.bool (wordB v n)) ∧ W = w') := fun W hW => refIsWord_any V e v n W hvl (hv.below hW) (by omega)
  have HCP : Hid (∀ W, Below w.heap.size w W → Calls Tryz.prog 44 #[.slice Y ny d, .int .i64 (n : Int)] W fun e w' => e = .returned (.bool (copyB y n)) ∧ W = w') := fun W hW => refIsCopy_any Y d y n W hyl (hy.below hW) (by omega)
  have HSC0 : Hid (∀ W, Below w.heap.size w W → Calls Tryz.prog 47 #[.agg (scC u b A n c k).toArray, .slice V nv e, .slice Y ny d] W fun e w' => e = .returned (.tuple #[.int .i64 (scS u b l v y).1, .int .i64 (scS u b l v y).2]) ∧ Below W.heap.size W w') := fun W hW => Score_any u b A c l k V e v Y d y W hn hvl hyl (h.below hW) (hv.below hW) (hy.below hW) hk
  cases hok : scoresB u b l
  · rw [hok] at HVS
    rw [scS_no hok] at HSC0
    clear hn hvl hyl h hv hy h0 hv0 hy0 hk hW0
    go_enter Tryz.func8, Tryz.ntmps8
    go_wp2_with (rw [← HW0.out])
    refine (alive_any _).mono ?_
    rintro e w1 ⟨rfl, hb1⟩
    have K1 : Hid (Below w.heap.size w w1) := bel_on K0.out hb1
    have c2 : w1.cell? ⟨w0.heap.size, 2, none⟩ = some (.slice A n c) := (HXS.out _ K1.out).cell 2
    clear hb1
    go_wp2_with (refine wpList_load_row rfl 46 (.tmp 3) rfl w0.heap.size rfl 46 (scC u b A n c k).toArray (0, 0) _ (HXS.out _ K1.out) Tryz.underlying46 rfl HIN.out ?_)
    refine (HVS.out _ K1.out).mono ?_
    rintro e w2 ⟨rfl, hb2⟩
    have K2 : Hid (Below w.heap.size w w2) := bel_on K1.out hb2
    clear hb2 c2
    go_wp2_with (refine wpList_load_row rfl 46 (.tmp 3) rfl w0.heap.size rfl 46 (scC u b A n c k).toArray (0, 0) _ (HXS.out _ K2.out) Tryz.underlying46 rfl HIN.out ?_)
    refine (HSC0.out _ K2.out).mono ?_
    rintro e w5 ⟨rfl, hb5⟩
    have K5 := bel_on K2.out hb5
    clear hb5
    go_wp2_with fail
    go_ret
    exact ⟨by simp, bel_on b0.out K5⟩
  cases hw : wordB v n
  · rw [hok] at HVS
    rw [hw] at HWD
    rw [scS_w hok (by rw [hn]; exact hw)] at HSC0
    clear hn hvl hyl h hv hy h0 hv0 hy0 hk hW0
    go_enter Tryz.func8, Tryz.ntmps8
    go_wp2_with (rw [← HW0.out])
    refine (alive_any _).mono ?_
    rintro e w1 ⟨rfl, hb1⟩
    have K1 : Hid (Below w.heap.size w w1) := bel_on K0.out hb1
    have c2 : w1.cell? ⟨w0.heap.size, 2, none⟩ = some (.slice A n c) := (HXS.out _ K1.out).cell 2
    clear hb1
    go_wp2_with (refine wpList_load_row rfl 46 (.tmp 3) rfl w0.heap.size rfl 46 (scC u b A n c k).toArray (0, 0) _ (HXS.out _ K1.out) Tryz.underlying46 rfl HIN.out ?_)
    refine (HVS.out _ K1.out).mono ?_
    rintro e w2 ⟨rfl, hb2⟩
    have K2 : Hid (Below w.heap.size w w2) := bel_on K1.out hb2
    clear hb2 c2
    go_wp2_with fail
    refine (HWD.out _ K2.out).mono ?_
    rintro e w3 ⟨rfl, rfl⟩
    go_wp2_with (refine wpList_load_row rfl 46 (.tmp 3) rfl w0.heap.size rfl 46 (scC u b A n c k).toArray (0, 0) _ (HXS.out _ K2.out) Tryz.underlying46 rfl HIN.out ?_)
    refine (HSC0.out _ K2.out).mono ?_
    rintro e w5 ⟨rfl, hb5⟩
    have K5 := bel_on K2.out hb5
    clear hb5
    go_wp2_with fail
    go_ret
    exact ⟨by simp, bel_on b0.out K5⟩
  cases hc : copyB y n
  · rw [hok] at HVS
    rw [hw] at HWD
    rw [hc] at HCP
    rw [scS_y hok (by rw [hn]; exact hc)] at HSC0
    clear hn hvl hyl h hv hy h0 hv0 hy0 hk hW0
    go_enter Tryz.func8, Tryz.ntmps8
    go_wp2_with (rw [← HW0.out])
    refine (alive_any _).mono ?_
    rintro e w1 ⟨rfl, hb1⟩
    have K1 : Hid (Below w.heap.size w w1) := bel_on K0.out hb1
    have c2 : w1.cell? ⟨w0.heap.size, 2, none⟩ = some (.slice A n c) := (HXS.out _ K1.out).cell 2
    clear hb1
    go_wp2_with (refine wpList_load_row rfl 46 (.tmp 3) rfl w0.heap.size rfl 46 (scC u b A n c k).toArray (0, 0) _ (HXS.out _ K1.out) Tryz.underlying46 rfl HIN.out ?_)
    refine (HVS.out _ K1.out).mono ?_
    rintro e w2 ⟨rfl, hb2⟩
    have K2 : Hid (Below w.heap.size w w2) := bel_on K1.out hb2
    clear hb2 c2
    go_wp2_with fail
    refine (HWD.out _ K2.out).mono ?_
    rintro e w3 ⟨rfl, rfl⟩
    go_wp2_with fail
    refine (HCP.out _ K2.out).mono ?_
    rintro e w4 ⟨rfl, rfl⟩
    go_wp2_with (refine wpList_load_row rfl 46 (.tmp 3) rfl w0.heap.size rfl 46 (scC u b A n c k).toArray (0, 0) _ (HXS.out _ K2.out) Tryz.underlying46 rfl HIN.out ?_)
    refine (HSC0.out _ K2.out).mono ?_
    rintro e w5 ⟨rfl, hb5⟩
    have K5 := bel_on K2.out hb5
    clear hb5
    go_wp2_with fail
    go_ret
    exact ⟨by simp, bel_on b0.out K5⟩
  rw [hok] at HVS
  rw [hw] at HWD
  rw [hc] at HCP
  obtain ⟨hvn, hvb⟩ := wordB_sym hw
  obtain ⟨hyn, hyb⟩ := copyB_sym hc
  obtain rfl : n = nv := by omega
  obtain rfl : n = ny := by omega
  obtain ⟨⟨o1, o2, o3, o4, o5, o6⟩, o7⟩ := scoresB_parts hok
  have HSC : Hid (∀ W AV cV (ws : List UInt8), ws.length = n → wordB ws n = true → Below w.heap.size w W → BR W AV cV ws → Calls Tryz.prog 47 #[.agg (scC u b A n c k).toArray, .slice AV n cV, .slice Y n d] W fun e w' => e = .returned (.tuple #[.int .i64 (sumS b l ws y n), .int .i64 0]) ∧ Below W.heap.size W w') := fun W AV cV ws hl1 hl2 hW hV => by
    have := Score_any u b A c l k AV cV ws Y d y W hn hl1 hyl (h.below hW) hV (hy.below hW) hk
    rw [scS_yes hok (by rw [hn]; exact hl2) (by rw [hn]; exact hc), hn] at this
    exact this
  obtain ⟨s1, s2⟩ := score_best (b := b) (l := l) ⟨o3, o4⟩ hvb hyb n (Nat.le_refl _)
  have s3 := score_both (b := b) (l := l) hvb hyb n (Nat.le_refl _)
  have s4 := sumS_bd (w := v) (y := y) ⟨o3, o4⟩ o7 n (by omega)
  have s5 := sumS_bd (w := othW v n n) (y := y) ⟨o3, o4⟩ o7 n (by omega)
  have HBB : Hid (∀ i, i ≤ n → -4096 ≤ bothS b l y i ∧ bothS b l y i ≤ 4096) := fun i hi => by have := bothS_bd (y := y) ⟨o3, o4⟩ o7 i (by omega); omega
  have HOKB := Lib.hid (bestW_ok hvb hyb)
  have HOKO := Lib.hid (othW_ok hvb)
  have HBZ := Lib.hid (bestW_zero v hyl)
  have HOZ := Lib.hid (othW_zero hvl)
  have HVW := Lib.hid hw
  have HVL := Lib.hid hvl
  have HYL := Lib.hid hyl
  have H_V := Lib.hid hv
  have H_Y := Lib.hid hy
  have HVB := Lib.hid hvb
  have HYB := Lib.hid hyb
  have HIT : Hid (∀ i, i < n → 1 ≤ it l i ∧ it l i < b) := fun i hi => o7 i (by omega)
  have HPA : Hid (∀ i, i < n → ∃ p o, A = some ⟨p, o, none⟩ ∧ ∀ W, Below w.heap.size w W → W.cell? ⟨p, o + i, none⟩ = some (.int .i64 (it l i))) := fun i hi => by
    obtain ⟨p, o, e, hp, hc⟩ := h.at_ (i := i) (by omega)
    exact ⟨p, o, e, fun W hW => (hW.cell (World.block_lt_of_cell? _ _ hc)).trans hc⟩
  have HPV : Hid (∀ i, i < n → ∃ p o, V = some ⟨p, o, none⟩ ∧ ∀ W, Below w.heap.size w W → W.cell? ⟨p, o + i, none⟩ = some (.int .u8 (bt v i : Int))) := fun i hi => by
    obtain ⟨p, o, e, hp, hc⟩ := hv.at_ (i := i) (by omega)
    exact ⟨p, o, e, fun W hW => (hW.cell (World.block_lt_of_cell? _ _ hc)).trans hc⟩
  have HPY : Hid (∀ i, i < n → ∃ p o, Y = some ⟨p, o, none⟩ ∧ ∀ W, Below w.heap.size w W → W.cell? ⟨p, o + i, none⟩ = some (.int .u8 (bt y i : Int))) := fun i hi => by
    obtain ⟨p, o, e, hp, hc⟩ := hy.at_ (i := i) (by omega)
    exact ⟨p, o, e, fun W hW => (hW.cell (World.block_lt_of_cell? _ _ hc)).trans hc⟩
  have hni : (n : Int) ≤ 64 := by omega
  have hn1 : Hid (1 ≤ n) := by unfold Hid; omega
  have hNS : Hid (n ≤ 64) := by unfold Hid; omega
  clear HSC0 hn hvl hyl h hv hy h0 hv0 hy0 hk hW0 hvn hyn hvb hyb o1 o2 o5 o6 o7 hok hw hc hlen
  go_enter Tryz.func8, Tryz.ntmps8
  go_wp2_with (rw [← HW0.out])
  refine (alive_any _).mono ?_
  rintro e w1 ⟨rfl, hb1⟩
  have K1 : Hid (Below w.heap.size w w1) := bel_on K0.out hb1
  have c2 : w1.cell? ⟨w0.heap.size, 2, none⟩ = some (.slice A n c) := (HXS.out _ K1.out).cell 2
  clear hb1
  go_wp2_with (refine wpList_load_row rfl 46 (.tmp 3) rfl w0.heap.size rfl 46 (scC u b A n c k).toArray (0, 0) _ (HXS.out _ K1.out) Tryz.underlying46 rfl HIN.out ?_)
  refine (HVS.out _ K1.out).mono ?_
  rintro e w2 ⟨rfl, hb2⟩
  have K2 : Hid (Below w.heap.size w w2) := bel_on K1.out hb2
  clear hb2 c2
  go_wp2_with fail
  refine (HWD.out _ K2.out).mono ?_
  rintro e w3 ⟨rfl, rfl⟩
  go_wp2_with fail
  refine (HCP.out _ K2.out).mono ?_
  rintro e w4 ⟨rfl, rfl⟩
  go_wp2_with (first | (at_builtin; refine wpList_append_bytes _ rfl (.tmp 53) (.tmp 54) rfl w2.heap.size (some ⟨w2.heap.size, 0, none⟩) 0 0 [] rfl rfl (OB.lit0 _ _ (Nat.le_refl _)) Y n d y HYL.out rfl ((H_Y.out.below (bel_on K2.out (alloc_bel _ _))).src HYL.out) (by omega) (by simp) ?_; intro A5 c5 w5 hon5 hbl5 hg5; clear hg5; have E5 := Lib.hid ((alloc_bel w2 _).trans hbl5); have K5 : Hid (Below w.heap.size w w5) := bel_on K2.out E5.out; have P5 : Hid (OB w2.heap.size w5 A5 c5 y) := hon5; clear hon5 hbl5; simp only [Nat.zero_add]) | (at_builtin; refine wpList_append_bytes _ rfl (.tmp 56) (.tmp 57) rfl w5.heap.size (some ⟨w5.heap.size, 0, none⟩) 0 0 [] rfl rfl (OB.lit0 _ _ (Nat.le_refl _)) V n e v HVL.out rfl ((H_V.out.below (bel_on K5.out (alloc_bel _ _))).src HVL.out) (by omega) (by simp) ?_; intro A6 c6 w6 hon6 hbl6 hg6; clear hg6; have E6 := Lib.hid ((alloc_bel w5 _).trans hbl6); have K6 : Hid (Below w.heap.size w w6) := bel_on K5.out E6.out; have O6 : Hid (OB w5.heap.size w6 A6 c6 v) := hon6; have P6 : Hid (OB w2.heap.size w6 A5 c5 y) := P5.out.below E6.out; clear hon6 hbl6; simp only [Nat.zero_add]))
  obtain ⟨gb, rfl, gb1, gb2, -, -, -⟩ := P6.out.room (i := 0) (by rw [HYL.out]; exact hn1.out)
  obtain ⟨go, rfl, go1, go2, -, -, -⟩ := O6.out.room (i := 0) (by rw [HVL.out]; exact hn1.out)
  have gb3 := P5.out.room (i := 0) (by rw [HYL.out]; exact hn1.out)
  obtain ⟨gb', e1, -, gb4, -, -, -⟩ := gb3
  injection e1 with e1
  injection e1 with e1 _
  subst e1
  have HNE : Hid (gb ≠ go) := by unfold Hid; omega
  have HGB : Hid (w.heap.size ≤ gb) := by have := K2.out.size; unfold Hid; omega
  have HGO : Hid (w.heap.size ≤ go) := by have := K5.out.size; unfold Hid; omega
  clear gb1 gb2 gb4 go1 go2
  go_loopw [13, 14, 15] (fun vs vt vi wr => ∃ i : Nat, i ≤ n ∧ vi = .int .i64 (i : Int) ∧ vs = .bool (sameW v y i) ∧ vt = .int .i64 (bothS b l y i) ∧ Hid (OB w2.heap.size wr (some ⟨gb, 0, none⟩) c5 (bestW v y n i)) ∧ Hid (OB w5.heap.size wr (some ⟨go, 0, none⟩) c6 (othW v n i)) ∧ Below w.heap.size w wr) (fun _ _ vi _ => n - (intOf vi).toNat)
  case atStart => exact ⟨0, by omega, rfl, rfl, rfl, by rw [HBZ.out]; exact P6.out, by rw [HOZ.out]; exact O6.out, K6.out⟩
  case round =>
    obtain ⟨i, hi, rfl, rfl, rfl, HP0, HO0, hbel⟩ := hrel
    by_cases hin : i < n
    · have hii : (i : Int) < n := by omega
      have hi0 : (0 : Int) ≤ i := by omega
      obtain ⟨pa, oa, rfl, hca⟩ := HPA.out i hin
      obtain ⟨pv, ov, rfl, hcv⟩ := HPV.out i hin
      obtain ⟨py, oy, rfl, hcy⟩ := HPY.out i hin
      obtain ⟨a1, a2⟩ := HIT.out i hin
      obtain ⟨t1, t2⟩ := HBB.out i hi
      have hx : bt v i = 0 ∨ bt v i = 1 := by have := HVB.out i hin; omega
      have hz : bt y i = 0 ∨ bt y i = 1 ∨ bt y i = 2 := by have := HYB.out i hin; omega
      obtain ⟨a, hla⟩ : ∃ a, it l i = a := ⟨_, rfl⟩
      obtain ⟨x, hlx⟩ : ∃ x, bt v i = x := ⟨_, rfl⟩
      obtain ⟨z, hlz⟩ : ∃ z, bt y i = z := ⟨_, rfl⟩
      obtain ⟨tt, hlt⟩ : ∃ q, bothS b l y i = q := ⟨_, rfl⟩
      obtain ⟨sm, hls⟩ : ∃ q, sameW v y i = q := ⟨_, rfl⟩
      rw [hla] at hca a1 a2
      rw [hlx] at hcv hx
      rw [hlz] at hcy hz
      rw [hlt] at t1 t2 ⊢
      rw [hls]
      have HAA := Lib.hid hla
      have HBX := Lib.hid hlx
      have HBY := Lib.hid hlz
      have HTT := Lib.hid hlt
      have HSM := Lib.hid hls
      have HCA := Lib.hid hca
      have HCV := Lib.hid hcv
      have HCY := Lib.hid hcy
      have P0 := HP0
      obtain ⟨go', e1, -, -, ko, kf, ho2⟩ := HO0.out.room (i := i) (by rw [othW_len]; exact hin)
      injection e1 with e1
      injection e1 with e1 _
      subst e1
      have HO2 := Lib.hid ho2
      have cv0 := hcv _ hbel
      clear hla hlx hlz hlt hls hca hcv hcy ho2 HP0 HO0
      rcases hx with rfl | rfl
      · have HBV : Hid (v.getD i 0 = 0) := UInt8.toNat_inj.1 HBX.out
        obtain ⟨W1, hW1⟩ : ∃ W, W = wr.setCell ⟨go, i, none⟩ (.int .u8 1) := ⟨_, rfl⟩
        have O1 : Hid (OB w5.heap.size W1 (some ⟨go, 0, none⟩) c6 (othW v n (i + 1))) := by unfold Hid; rw [← othW_set v n i hin, HBX.out, hW1]; exact HO2.out 1
        have P1 : Hid (OB w2.heap.size W1 (some ⟨gb, 0, none⟩) c5 (bestW v y n i)) := by unfold Hid; rw [hW1]; exact P0.out.other (p := ⟨go, i, none⟩) HNE.out _
        have D1 : Hid (Below w.heap.size w W1) := by unfold Hid; rw [hW1]; exact hbel.setCell (p := ⟨go, i, none⟩) HGO.out _
        obtain ⟨gb', e1, -, -, kb, kfb, hp2⟩ := P1.out.room (i := i) (by rw [bestW_len]; exact hin)
        injection e1 with e1
        injection e1 with e1 _
        subst e1
        have P2 := Lib.hid hp2
        have cy1 := HCY.out _ D1.out
        have cv1 := HCV.out _ D1.out
        have cs1 : W1.cell? ⟨w0.heap.size, 1, none⟩ = some (.int .i64 b) := (HXS.out _ D1.out).cell 1
        have cs2 : W1.cell? ⟨w0.heap.size, 2, none⟩ = some (.slice (some ⟨pa, oa, none⟩) n c) := (HXS.out _ D1.out).cell 2
        have ca1 := HCA.out _ D1.out
        have HW1 := Lib.hid hW1
        clear hW1 hp2
        rcases hz with rfl | rfl | rfl
        · cases sm
          · have HS1 : Hid (sameW v y (i + 1) = false) := by unfold Hid; rw [sameW, HSM.out, HBX.out, HBY.out]; rfl
            have HT1 : Hid (bothS b l y (i + 1) = tt + (2 * a - b)) := by unfold Hid; rw [bothS, HTT.out, HBY.out, HAA.out]; rfl
            have PB : Hid (OB w2.heap.size W1 (some ⟨gb, 0, none⟩) c5 (bestW v y n (i + 1))) := by unfold Hid; rw [← bestW_keep v y n i (by rw [HBY.out]; decide)]; exact P1.out
            clear kb kfb
            go_wp2_with (rw [← HW1.out])
            go_quiet (fail)
            go_wp2_with fail
            go_region
            go_wp2_with fail
            go_roundw
            case rel => exact ⟨i + 1, by omega, by go_num, by rw [HS1.out], by rw [HT1.out], PB.out, O1.out, below_drewN D1.out _⟩
            case measure => simp [intOf]; omega
          · have HS1 : Hid (sameW v y (i + 1) = true) := by unfold Hid; rw [sameW, HSM.out, HBX.out, HBY.out]; rfl
            have HT1 : Hid (bothS b l y (i + 1) = tt + (2 * a - b)) := by unfold Hid; rw [bothS, HTT.out, HBY.out, HAA.out]; rfl
            have PB : Hid (OB w2.heap.size W1 (some ⟨gb, 0, none⟩) c5 (bestW v y n (i + 1))) := by unfold Hid; rw [← bestW_keep v y n i (by rw [HBY.out]; decide)]; exact P1.out
            clear kb kfb
            go_wp2_with (rw [← HW1.out])
            go_quiet (fail)
            go_wp2_with fail
            go_region
            go_wp2_with fail
            go_roundw
            case rel => exact ⟨i + 1, by omega, by go_num, by rw [HS1.out], by rw [HT1.out], PB.out, O1.out, below_drewN D1.out _⟩
            case measure => simp [intOf]; omega
        · cases sm
          · have HS1 : Hid (sameW v y (i + 1) = false) := by unfold Hid; rw [sameW, HSM.out, HBX.out, HBY.out]; rfl
            have HT1 : Hid (bothS b l y (i + 1) = tt + (b - 2 * a)) := by unfold Hid; rw [bothS, HTT.out, HBY.out, HAA.out]; rfl
            have PB : Hid (OB w2.heap.size W1 (some ⟨gb, 0, none⟩) c5 (bestW v y n (i + 1))) := by unfold Hid; rw [← bestW_keep v y n i (by rw [HBY.out]; decide)]; exact P1.out
            clear kb kfb
            go_wp2_with (rw [← HW1.out])
            go_quiet (fail)
            go_wp2_with fail
            go_region
            go_wp2_with fail
            go_roundw
            case rel => exact ⟨i + 1, by omega, by go_num, by rw [HS1.out], by rw [HT1.out], PB.out, O1.out, below_drewN D1.out _⟩
            case measure => simp [intOf]; omega
          · have HS1 : Hid (sameW v y (i + 1) = false) := by unfold Hid; rw [sameW, HSM.out, HBX.out, HBY.out]; rfl
            have HT1 : Hid (bothS b l y (i + 1) = tt + (b - 2 * a)) := by unfold Hid; rw [bothS, HTT.out, HBY.out, HAA.out]; rfl
            have PB : Hid (OB w2.heap.size W1 (some ⟨gb, 0, none⟩) c5 (bestW v y n (i + 1))) := by unfold Hid; rw [← bestW_keep v y n i (by rw [HBY.out]; decide)]; exact P1.out
            clear kb kfb
            go_wp2_with (rw [← HW1.out])
            go_quiet (fail)
            go_wp2_with fail
            go_region
            go_wp2_with fail
            go_roundw
            case rel => exact ⟨i + 1, by omega, by go_num, by rw [HS1.out], by rw [HT1.out], PB.out, O1.out, below_drewN D1.out _⟩
            case measure => simp [intOf]; omega
        · have HS1 : Hid (sameW v y (i + 1) = sm) := by unfold Hid; rw [sameW, HSM.out, HBY.out]; simp
          have HT1 : Hid (bothS b l y (i + 1) = tt) := by unfold Hid; rw [bothS, HTT.out, HBY.out]; simp
          have PB : Hid (OB w2.heap.size (W1.setCell ⟨gb, i, none⟩ (.int .u8 0)) (some ⟨gb, 0, none⟩) c5 (bestW v y n (i + 1))) := by unfold Hid; rw [← bestW_set v y n i hin HBY.out, HBV.out]; exact P2.out _
          have OB2 : Hid (OB w5.heap.size (W1.setCell ⟨gb, i, none⟩ (.int .u8 0)) (some ⟨go, 0, none⟩) c6 (othW v n (i + 1))) := O1.out.other (p := ⟨gb, i, none⟩) (Ne.symm HNE.out) _
          have D2 : Hid (Below w.heap.size w (W1.setCell ⟨gb, i, none⟩ (.int .u8 0))) := D1.out.setCell (p := ⟨gb, i, none⟩) HGB.out _
          go_wp2_with (rw [← HW1.out])
          go_roundw
          case rel => exact ⟨i + 1, by omega, by go_num, by rw [HS1.out], by rw [HT1.out], PB.out, OB2.out, D2.out⟩
          case measure => simp [intOf]; omega
      · have HBV : Hid (v.getD i 0 = 1) := UInt8.toNat_inj.1 HBX.out
        obtain ⟨W1, hW1⟩ : ∃ W, W = wr.setCell ⟨go, i, none⟩ (.int .u8 0) := ⟨_, rfl⟩
        have O1 : Hid (OB w5.heap.size W1 (some ⟨go, 0, none⟩) c6 (othW v n (i + 1))) := by unfold Hid; rw [← othW_set v n i hin, HBX.out, hW1]; exact HO2.out 0
        have P1 : Hid (OB w2.heap.size W1 (some ⟨gb, 0, none⟩) c5 (bestW v y n i)) := by unfold Hid; rw [hW1]; exact P0.out.other (p := ⟨go, i, none⟩) HNE.out _
        have D1 : Hid (Below w.heap.size w W1) := by unfold Hid; rw [hW1]; exact hbel.setCell (p := ⟨go, i, none⟩) HGO.out _
        obtain ⟨gb', e1, -, -, kb, kfb, hp2⟩ := P1.out.room (i := i) (by rw [bestW_len]; exact hin)
        injection e1 with e1
        injection e1 with e1 _
        subst e1
        have P2 := Lib.hid hp2
        have cy1 := HCY.out _ D1.out
        have cv1 := HCV.out _ D1.out
        have cs1 : W1.cell? ⟨w0.heap.size, 1, none⟩ = some (.int .i64 b) := (HXS.out _ D1.out).cell 1
        have cs2 : W1.cell? ⟨w0.heap.size, 2, none⟩ = some (.slice (some ⟨pa, oa, none⟩) n c) := (HXS.out _ D1.out).cell 2
        have ca1 := HCA.out _ D1.out
        have HW1 := Lib.hid hW1
        clear hW1 hp2
        rcases hz with rfl | rfl | rfl
        · cases sm
          · have HS1 : Hid (sameW v y (i + 1) = false) := by unfold Hid; rw [sameW, HSM.out, HBX.out, HBY.out]; rfl
            have HT1 : Hid (bothS b l y (i + 1) = tt + (2 * a - b)) := by unfold Hid; rw [bothS, HTT.out, HBY.out, HAA.out]; rfl
            have PB : Hid (OB w2.heap.size W1 (some ⟨gb, 0, none⟩) c5 (bestW v y n (i + 1))) := by unfold Hid; rw [← bestW_keep v y n i (by rw [HBY.out]; decide)]; exact P1.out
            clear kb kfb
            go_wp2_with (rw [← HW1.out])
            go_quiet (fail)
            go_wp2_with fail
            go_region
            go_wp2_with fail
            go_roundw
            case rel => exact ⟨i + 1, by omega, by go_num, by rw [HS1.out], by rw [HT1.out], PB.out, O1.out, below_drewN D1.out _⟩
            case measure => simp [intOf]; omega
          · have HS1 : Hid (sameW v y (i + 1) = false) := by unfold Hid; rw [sameW, HSM.out, HBX.out, HBY.out]; rfl
            have HT1 : Hid (bothS b l y (i + 1) = tt + (2 * a - b)) := by unfold Hid; rw [bothS, HTT.out, HBY.out, HAA.out]; rfl
            have PB : Hid (OB w2.heap.size W1 (some ⟨gb, 0, none⟩) c5 (bestW v y n (i + 1))) := by unfold Hid; rw [← bestW_keep v y n i (by rw [HBY.out]; decide)]; exact P1.out
            clear kb kfb
            go_wp2_with (rw [← HW1.out])
            go_quiet (fail)
            go_wp2_with fail
            go_region
            go_wp2_with fail
            go_roundw
            case rel => exact ⟨i + 1, by omega, by go_num, by rw [HS1.out], by rw [HT1.out], PB.out, O1.out, below_drewN D1.out _⟩
            case measure => simp [intOf]; omega
        · cases sm
          · have HS1 : Hid (sameW v y (i + 1) = false) := by unfold Hid; rw [sameW, HSM.out, HBX.out, HBY.out]; rfl
            have HT1 : Hid (bothS b l y (i + 1) = tt + (b - 2 * a)) := by unfold Hid; rw [bothS, HTT.out, HBY.out, HAA.out]; rfl
            have PB : Hid (OB w2.heap.size W1 (some ⟨gb, 0, none⟩) c5 (bestW v y n (i + 1))) := by unfold Hid; rw [← bestW_keep v y n i (by rw [HBY.out]; decide)]; exact P1.out
            clear kb kfb
            go_wp2_with (rw [← HW1.out])
            go_quiet (fail)
            go_wp2_with fail
            go_region
            go_wp2_with fail
            go_roundw
            case rel => exact ⟨i + 1, by omega, by go_num, by rw [HS1.out], by rw [HT1.out], PB.out, O1.out, below_drewN D1.out _⟩
            case measure => simp [intOf]; omega
          · have HS1 : Hid (sameW v y (i + 1) = true) := by unfold Hid; rw [sameW, HSM.out, HBX.out, HBY.out]; rfl
            have HT1 : Hid (bothS b l y (i + 1) = tt + (b - 2 * a)) := by unfold Hid; rw [bothS, HTT.out, HBY.out, HAA.out]; rfl
            have PB : Hid (OB w2.heap.size W1 (some ⟨gb, 0, none⟩) c5 (bestW v y n (i + 1))) := by unfold Hid; rw [← bestW_keep v y n i (by rw [HBY.out]; decide)]; exact P1.out
            clear kb kfb
            go_wp2_with (rw [← HW1.out])
            go_quiet (fail)
            go_wp2_with fail
            go_region
            go_wp2_with fail
            go_roundw
            case rel => exact ⟨i + 1, by omega, by go_num, by rw [HS1.out], by rw [HT1.out], PB.out, O1.out, below_drewN D1.out _⟩
            case measure => simp [intOf]; omega
        · have HS1 : Hid (sameW v y (i + 1) = sm) := by unfold Hid; rw [sameW, HSM.out, HBY.out]; simp
          have HT1 : Hid (bothS b l y (i + 1) = tt) := by unfold Hid; rw [bothS, HTT.out, HBY.out]; simp
          have PB : Hid (OB w2.heap.size (W1.setCell ⟨gb, i, none⟩ (.int .u8 1)) (some ⟨gb, 0, none⟩) c5 (bestW v y n (i + 1))) := by unfold Hid; rw [← bestW_set v y n i hin HBY.out, HBV.out]; exact P2.out _
          have OB2 : Hid (OB w5.heap.size (W1.setCell ⟨gb, i, none⟩ (.int .u8 1)) (some ⟨go, 0, none⟩) c6 (othW v n (i + 1))) := O1.out.other (p := ⟨gb, i, none⟩) (Ne.symm HNE.out) _
          have D2 : Hid (Below w.heap.size w (W1.setCell ⟨gb, i, none⟩ (.int .u8 1))) := D1.out.setCell (p := ⟨gb, i, none⟩) HGB.out _
          go_wp2_with (rw [← HW1.out])
          go_roundw
          case rel => exact ⟨i + 1, by omega, by go_num, by rw [HS1.out], by rw [HT1.out], PB.out, OB2.out, D2.out⟩
          case measure => simp [intOf]; omega
    · obtain rfl : i = n := by omega
      have hx5 : ¬ ((i : Int) < (i : Int)) := by omega
      have K7 : Hid (Below w.heap.size w wr) := hbel
      have HS1 : Hid (∀ W, Below w.heap.size w W → Calls Tryz.prog 47 #[.agg (scC u b A i c k).toArray, .slice V i e, .slice Y i d] W fun e w' => e = .returned (.tuple #[.int .i64 (sumS b l v y i), .int .i64 0]) ∧ Below W.heap.size W w') := fun W hW => HSC.out W V e v HVL.out HVW.out hW (H_V.out.below hW)
      have HS2 : Hid (∀ W, Below w.heap.size w W → OB w2.heap.size W (some ⟨gb, 0, none⟩) c5 (bestW v y i i) → Calls Tryz.prog 47 #[.agg (scC u b A i c k).toArray, .slice (some ⟨gb, 0, none⟩) i c5, .slice Y i d] W fun e w' => e = .returned (.tuple #[.int .i64 (sumS b l (bestW v y i i) y i), .int .i64 0]) ∧ Below W.heap.size W w') := fun W hW hO => HSC.out W _ _ _ (bestW_len _ _ _ _) HOKB.out hW (hO.br (by rw [bestW_len]; have := hNS.out; omega))
      have HS3 : Hid (∀ W, Below w.heap.size w W → OB w5.heap.size W (some ⟨go, 0, none⟩) c6 (othW v i i) → Calls Tryz.prog 47 #[.agg (scC u b A i c k).toArray, .slice (some ⟨go, 0, none⟩) i c6, .slice Y i d] W fun e w' => e = .returned (.tuple #[.int .i64 (sumS b l (othW v i i) y i), .int .i64 0]) ∧ Below W.heap.size W w') := fun W hW hO => HSC.out W _ _ _ (othW_len _ _ _) HOKO.out hW (hO.br (by rw [othW_len]; have := hNS.out; omega))
      obtain ⟨z1, hz1⟩ : ∃ q, sumS b l v y i = q := ⟨_, rfl⟩
      obtain ⟨z2, hz2⟩ : ∃ q, sumS b l (bestW v y i i) y i = q := ⟨_, rfl⟩
      obtain ⟨z3, hz3⟩ : ∃ q, sumS b l (othW v i i) y i = q := ⟨_, rfl⟩
      obtain ⟨z4, hz4⟩ : ∃ q, bothS b l y i = q := ⟨_, rfl⟩
      obtain ⟨sm, hsm⟩ : ∃ q, sameW v y i = q := ⟨_, rfl⟩
      rw [hz1] at HS1 s1 s2 s3 s4
      rw [hz2] at HS2 s1 s2
      rw [hz3] at HS3 s3 s5
      rw [hz4] at s3 ⊢
      rw [hsm] at s2 ⊢
      generalize bestW v y i i = bw at *
      generalize othW v i i = ow at *
      have e9 : IntKind.i64.wrap (z1 + z3) = z4 := by rw [IntKind.wrap_i64]; omega
      have HSE := Lib.hid s3
      clear hz1 hz2 hz3 hz4 hsm s3 hin
      go_wp2_with (refine wpList_load_row rfl 46 (.tmp 3) rfl w0.heap.size rfl 46 (scC u b A i c k).toArray (0, 0) _ (HXS.out _ K7.out) Tryz.underlying46 rfl HIN.out ?_)
      refine (HS1.out _ K7.out).mono ?_
      rintro e w8 ⟨rfl, hb8⟩
      have K8 : Hid (Below w.heap.size w w8) := bel_on K7.out hb8
      have P8 := Lib.hid (HP0.out.below hb8)
      have O8 := Lib.hid (HO0.out.below hb8)
      clear hb8
      go_wp2_with (refine wpList_load_row rfl 46 (.tmp 3) rfl w0.heap.size rfl 46 (scC u b A i c k).toArray (0, 0) _ (HXS.out _ K8.out) Tryz.underlying46 rfl HIN.out ?_)
      refine (HS2.out _ K8.out P8.out).mono ?_
      rintro e w9 ⟨rfl, hb9⟩
      have K9 : Hid (Below w.heap.size w w9) := bel_on K8.out hb9
      have O9 := Lib.hid (O8.out.below hb9)
      clear hb9
      go_wp2_with (refine wpList_load_row rfl 46 (.tmp 3) rfl w0.heap.size rfl 46 (scC u b A i c k).toArray (0, 0) _ (HXS.out _ K9.out) Tryz.underlying46 rfl HIN.out ?_)
      refine (HS3.out _ K9.out O9.out).mono ?_
      rintro e w10 ⟨rfl, hb10⟩
      have K10 : Hid (Below w.heap.size w w10) := bel_on K9.out hb10
      clear hb10
      cases sm
      · have hlt : z1 < z2 := by
          rcases Int.lt_or_eq_of_le s1 with g | g
          · exact g
          · have := s2.1 g; cases this
        have q1 : decide (z1 ≤ z2) = true := by simp; omega
        have q2 : decide (z1 = z2) = false := by simp; omega
        have q3 : (z1 == z2) = false := by simp; omega
        clear s1 s2 hlt
        go_wp2_with fail
        go_ret
        exact ⟨by simp, bel_on b0.out K10.out⟩
      · obtain rfl : z1 = z2 := s2.2 rfl
        clear s1 s2
        go_wp2_with fail
        go_ret
        exact ⟨by simp, bel_on b0.out K10.out⟩
theorem codeBest_walk (u b : Int) (A : Option Addr) (c : Nat) (l : List Int) (k : List UInt8) (V : Option Addr) (e : Nat) (v : List UInt8) (Y : Option Addr) (d : Nat) (y : List UInt8) (w : World) (h : IR w A c l) (hk : k.length = 16) (hv : BR w V e v) (hy : BR w Y d y) :
    Calls Tryz.prog 8 #[.agg (scC u b A l.length c k).toArray, .slice V v.length e, .slice Y y.length d] w fun e w' => e = .returned (.bool true) ∧ Below w.heap.size w w' := codeBest_walk0 u b A c l k V e v Y d y w h hk hv hy
end Go.Proofs.YtenpkmgbaajeeaaGreat
