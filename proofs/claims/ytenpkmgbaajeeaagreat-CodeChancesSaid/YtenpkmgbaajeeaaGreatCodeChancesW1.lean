/-
  Lemmas and contracts, joined.
-/
import Derived.Lib.SmallJoins
import Derived.Test.YtenpkmgbaajeeaaGreatCn1
import Derived.Test.YtenpkmgbaajeeaaGreatCw1
import Derived.Test.YtenpkmgbaajeeaaGreatCp1
import Derived.Test.YtenpkmgbaajeeaaGreatCc2
import Derived.Test.YtenpkmgbaajeeaaGreatCt1
import Derived.Test.YtenpkmgbaajeeaaGreatCc3
set_option linter.unusedSimpArgs false
set_option linter.unusedVariables false
set_option linter.unnecessarySimpa false
/- What the frames of the laws share: fractions among the arguments, opened. -/
namespace Go.Proofs.YtenpkmgbaajeeaaGreat
open Go.ChangeShapes Go.WideShapes Go.ChangeAt Go.RowKit
set_option linter.unusedVariables false

theorem cellsFrac : Tryz.prog.cellsOf 27 = 2 := by kernel_rfl
set_option maxRecDepth 100000 in
theorem open_frac {H : Type} {enc : TypeId × Value → H} {W : World} {b0 : Nat} {v : Value} {d : DataW H} {ps : List MemPlace} (hval : Value.okWide Tryz.prog W .any b0 27 v) (hd : DataW.Trod enc Tryz.prog W 0 (fun _ => true) true 27 v d ps)
    (hw : ∀ n ∈ d.weights Tryz.prog 27, n ≤ reachBytes) : ∃ A c x B e y, v = .agg #[.slice A (List.length x) c, .slice B (List.length y) e] ∧ NR W A c x ∧ NR W B e y := by
  obtain ⟨v0, v1, y0, y1, n, rfl, rfl, _, h0, h1⟩ := Go.Joins.open_agg2 Tryz.underlying27 (by kernel_rfl) cellsFrac hval hd
  have hw' : ∀ n ∈ DataW.weightsEach Tryz.prog [25, 25] [y0.1, y1.1], n ≤ reachBytes := by simpa [DataW.weights, Tryz.underlying27] using hw
  obtain ⟨A, c, x, e1, hx⟩ := nat_of_trod h0 (fun m hm => hw' m (DataW.weights_mem_each (j := 0) rfl rfl m hm))
  obtain ⟨B, e, y, e2, hy⟩ := nat_of_trod h1 (fun m hm => hw' m (DataW.weights_mem_each (j := 1) rfl rfl m hm))
  injection e1 with e1
  injection e2 with e2
  subst e1 e2
  exact ⟨A, c, x, B, e, y, rfl, hx, hy⟩
end Go.Proofs.YtenpkmgbaajeeaaGreat

/- What the frames of the laws share: a code of scores among the arguments, opened. -/
namespace Go.Proofs.YtenpkmgbaajeeaaGreat
open Go.ChangeShapes Go.WideShapes Go.ChangeAt Go.RowKit Go.Deep
set_option linter.unusedVariables false

theorem cells_key : Tryz.prog.cellsOf 23 = 16 := by kernel_rfl
theorem cells_scores : Tryz.prog.cellsOf 46 = 19 := by kernel_rfl
theorem cells_ints : Tryz.prog.cellsOf 38 = 1 := by kernel_rfl

/-- A code of scores, among cells. -/
theorem scores_of_trod {H : Type} {enc : TypeId × Value → H} {W : World} {fuel : Nat} {cs : List Value} {x : DataW H × List MemPlace} (h : DataW.trod enc Tryz.prog W 0 (fun _ => true) true fuel 46 cs = some x)
    (hw : ∀ n ∈ x.1.weights Tryz.prog 46, n ≤ reachBytes) : ∃ u b A c l k, cs = scC u b A (List.length l) c k ∧ IR W A c l ∧ k.length = 16 ∧ (-9223372036854775808 ≤ u ∧ u ≤ 9223372036854775807) ∧ (-9223372036854775808 ≤ b ∧ b ≤ 9223372036854775807) := by
  obtain ⟨y0, y1, y2, y3, n, rfl, hl, h0, h1, h2, h3⟩ := Go.Joins.trod_struct4 Tryz.underlying46 h
  have hw' : ∀ n ∈ DataW.weightsEach Tryz.prog [3, 3, 38, 23] [y0.1, y1.1, y2.1, y3.1], n ≤ reachBytes := by simpa [DataW.weights, Tryz.underlying46] using hw
  dsimp only at h0 h1 h2 h3
  rw [cells_int] at h0 h1
  rw [cells_ints] at h2
  rw [cells_key] at h3
  rw [cells_scores] at hl
  obtain ⟨u, e0, hu⟩ := int_of_trod h0
  obtain ⟨b, e1, hb⟩ := int_of_trod h1
  obtain ⟨A, c, l, e2, hI, _⟩ := ints_of_trod Tryz.underlying38 h2 (fun m hm => hw' m (DataW.weights_mem_each (j := 2) rfl rfl m hm))
  obtain ⟨k, hk, e3⟩ := key_of_trod h3
  refine ⟨u, b, A, c, l, k, ?_, hI, hk, hu, hb⟩
  match cs, hl with
  | c0 :: c1 :: c2 :: r, hl =>
    simp at e0 e1 e2
    have hr : r.length = 16 := by simpa using hl
    rw [show List.drop 3 (c0 :: c1 :: c2 :: r) = r from rfl, List.take_of_length_le (by omega)] at e3
    rw [e0, e1, e2, e3]
    rfl
set_option maxRecDepth 100000 in
theorem open_scores {H : Type} {enc : TypeId × Value → H} {W : World} {b0 : Nat} {v : Value} {d : DataW H} {ps : List MemPlace} (hval : Value.okWide Tryz.prog W .any b0 46 v) (hd : DataW.Trod enc Tryz.prog W 0 (fun _ => true) true 46 v d ps)
    (hw : ∀ n ∈ d.weights Tryz.prog 46, n ≤ reachBytes) : ∃ u b A c l k, v = .agg (scC u b A (List.length l) c k).toArray ∧ IR W A c l ∧ k.length = 16 ∧ (-9223372036854775808 ≤ u ∧ u ≤ 9223372036854775807) ∧ (-9223372036854775808 ≤ b ∧ b ≤ 9223372036854775807) := by
  obtain ⟨cs, rfl, hsz⟩ := okWide_struct Tryz.underlying46 hval
  obtain ⟨fuel, hf⟩ := hd
  obtain ⟨u, b, A, c, l, k, e, h1, h2, h3, h4⟩ := scores_of_trod hf hw
  refine ⟨u, b, A, c, l, k, ?_, h1, h2, h3, h4⟩
  rw [← e]
  simp [Value.cells]
end Go.Proofs.YtenpkmgbaajeeaaGreat

/- A code of scores among the arguments, opened, with the bytes of its biases. -/
namespace Go.Proofs.YtenpkmgbaajeeaaGreat
open Go.ChangeShapes Go.WideShapes Go.ChangeAt Go.RowKit Go.Deep
set_option linter.unusedVariables false

/-- A code of scores, among cells. -/
theorem scores_of_trod8 {H : Type} {enc : TypeId × Value → H} {W : World} {fuel : Nat} {cs : List Value} {x : DataW H × List MemPlace} (h : DataW.trod enc Tryz.prog W 0 (fun _ => true) true fuel 46 cs = some x)
    (hw : ∀ n ∈ x.1.weights Tryz.prog 46, n ≤ reachBytes) : ∃ u b A c l k, cs = scC u b A (List.length l) c k ∧ IR W A c l ∧ k.length = 16 ∧ (-9223372036854775808 ≤ u ∧ u ≤ 9223372036854775807) ∧ (-9223372036854775808 ≤ b ∧ b ≤ 9223372036854775807) ∧ c * 8 ≤ 140737488351232 := by
  obtain ⟨y0, y1, y2, y3, n, rfl, hl, h0, h1, h2, h3⟩ := Go.Joins.trod_struct4 Tryz.underlying46 h
  have hw' : ∀ n ∈ DataW.weightsEach Tryz.prog [3, 3, 38, 23] [y0.1, y1.1, y2.1, y3.1], n ≤ reachBytes := by simpa [DataW.weights, Tryz.underlying46] using hw
  dsimp only at h0 h1 h2 h3
  rw [cells_int] at h0 h1
  rw [cells_ints] at h2
  rw [cells_key] at h3
  rw [cells_scores] at hl
  obtain ⟨u, e0, hu⟩ := int_of_trod h0
  obtain ⟨b, e1, hb⟩ := int_of_trod h1
  obtain ⟨A, c, l, e2, hI, hc8⟩ := ints_of_trod Tryz.underlying38 h2 (fun m hm => hw' m (DataW.weights_mem_each (j := 2) rfl rfl m hm))
  obtain ⟨k, hk, e3⟩ := key_of_trod h3
  refine ⟨u, b, A, c, l, k, ?_, hI, hk, hu, hb, hc8⟩
  match cs, hl with
  | c0 :: c1 :: c2 :: r, hl =>
    simp at e0 e1 e2
    have hr : r.length = 16 := by simpa using hl
    rw [show List.drop 3 (c0 :: c1 :: c2 :: r) = r from rfl, List.take_of_length_le (by omega)] at e3
    rw [e0, e1, e2, e3]
    rfl
set_option maxRecDepth 100000 in
theorem open_scores8 {H : Type} {enc : TypeId × Value → H} {W : World} {b0 : Nat} {v : Value} {d : DataW H} {ps : List MemPlace} (hval : Value.okWide Tryz.prog W .any b0 46 v) (hd : DataW.Trod enc Tryz.prog W 0 (fun _ => true) true 46 v d ps)
    (hw : ∀ n ∈ d.weights Tryz.prog 46, n ≤ reachBytes) : ∃ u b A c l k, v = .agg (scC u b A (List.length l) c k).toArray ∧ IR W A c l ∧ k.length = 16 ∧ (-9223372036854775808 ≤ u ∧ u ≤ 9223372036854775807) ∧ (-9223372036854775808 ≤ b ∧ b ≤ 9223372036854775807) ∧ c * 8 ≤ 140737488351232 := by
  obtain ⟨cs, rfl, hsz⟩ := okWide_struct Tryz.underlying46 hval
  obtain ⟨fuel, hf⟩ := hd
  obtain ⟨u, b, A, c, l, k, e, h1, h2, h3, h4, h5⟩ := scores_of_trod8 hf hw
  refine ⟨u, b, A, c, l, k, ?_, h1, h2, h3, h4, h5⟩
  rw [← e]
  simp [Value.cells]
end Go.Proofs.YtenpkmgbaajeeaaGreat

/- A block of naturals: what it holds at each place; the range of scores. -/
namespace Go.Proofs.YtenpkmgbaajeeaaGreat
open Go.RowKit Go.Maps
set_option linter.unusedVariables false
set_option linter.unusedSimpArgs false

def naC (F : Nat → Option Addr × Nat) (h : Nat → Nat) (L : Nat) : List Value := (List.range L).map fun i => .slice (F i).1 (digs (h i)).length (F i).2
/-- A block of naturals: at place i the number h i. -/
def NA (w : World) (g L : Nat) (h : Nat → Nat) : Prop := ∃ F, Blk w g 25 (naC F h L).toArray ∧ ∀ i, i < L → NR w (F i).1 (F i).2 (digs (h i))
theorem naC_get (F : Nat → Option Addr × Nat) (h : Nat → Nat) {L i : Nat} (hi : i < L) : (naC F h L).toArray[i]? = some (.slice (F i).1 (digs (h i)).length (F i).2) := by simp [naC, hi]
theorem NA.get {w : World} {g L : Nat} {h : Nat → Nat} (hn : NA w g L h) {i : Nat} (hi : i < L) : ∃ A c, w.cell? ⟨g, i, none⟩ = some (.slice A (digs (h i)).length c) ∧ NR w A c (digs (h i)) := by
  obtain ⟨F, hB, hr⟩ := hn
  exact ⟨_, _, (hB.cell i).trans (naC_get F h hi), hr i hi⟩
theorem NA.lt {w : World} {g L : Nat} {h : Nat → Nat} (hn : NA w g L h) : g < w.heap.size := by obtain ⟨F, hB, _⟩ := hn; exact hB.lt
theorem NA.frozen {w : World} {g L : Nat} {h : Nat → Nat} (hn : NA w g L h) (i : Nat) : w.frozen? ⟨g, i, none⟩ = false := by obtain ⟨F, hB, _⟩ := hn; exact hB.frozen i
theorem NA.below {w w' : World} {g L : Nat} {h : Nat → Nat} (hn : NA w g L h) (hb : Below w.heap.size w w') : NA w' g L h := by
  obtain ⟨F, hB, hr⟩ := hn
  exact ⟨F, hB.below' hb, fun i hi => (hr i hi).below hb⟩
theorem NA.congr {w : World} {g L : Nat} {h h' : Nat → Nat} (hn : NA w g L h) (he : ∀ i, i < L → h i = h' i) : NA w g L h' := by
  obtain ⟨F, hB, hr⟩ := hn
  have e : naC F h L = naC F h' L := List.map_congr_left fun i hi => by rw [he i (List.mem_range.1 hi)]
  exact ⟨F, by rw [← e]; exact hB, fun i hi => by rw [← he i hi]; exact hr i hi⟩
theorem NA.no_int {w : World} {g L : Nat} {h : Nat → Nat} (hn : NA w g L h) {o : Nat} {k : IntKind} {z : Int} (hc : w.cell? ⟨g, o, none⟩ = some (.int k z)) : False := by
  obtain ⟨F, hB, hr⟩ := hn
  rw [hB.cell] at hc
  rcases Nat.lt_or_ge o L with h1 | h1
  · rw [naC_get F h h1] at hc; simp at hc
  · rw [Array.getElem?_eq_none (by simp [naC]; omega)] at hc; cases hc
theorem NR.keepA {w : World} {g L : Nat} {h : Nat → Nat} {A : Option Addr} {cc : Nat} {l : List Nat} (hn : NR w A cc l) (ha : NA w g L h) (o : Nat) (u : Value) : NR (w.setCell ⟨g, o, none⟩ u) A cc l :=
  hn.grown_ (fun hl b' off hA e => by
    obtain ⟨bb, oo, hA2, _, hc⟩ := hn.2.2.2 hl
    have hbb : g = bb := by
      rw [hA] at hA2
      injection hA2 with hA2
      injection hA2 with h1 _
      rw [← h1]
      exact Option.some.inj e
    subst hbb
    exact ha.no_int (hc 0 (List.length_pos_iff.2 hl))) (grown_setCell w ⟨g, o, none⟩ u)
theorem NA.set_ {w : World} {g L : Nat} {h : Nat → Nat} (hn : NA w g L h) {i : Nat} (hi : i < L) {T : Option Addr} {t x : Nat} (hx : NR w T t (digs x)) : NA (w.setCell ⟨g, i, none⟩ (.slice T (digs x).length t)) g L (fun j => if j = i then x else h j) := by
  have ha := hn
  obtain ⟨F, hB, hr⟩ := hn
  refine ⟨fun j => if j = i then (T, t) else F j, ?_, fun j hj => ?_⟩
  · have h1 := hB.set_ i (.slice T (digs x).length t)
    have e : (naC F h L).toArray.setIfInBounds i (.slice T (digs x).length t) = (naC (fun j => if j = i then (T, t) else F j) (fun j => if j = i then x else h j) L).toArray := by
      rw [List.setIfInBounds_toArray]
      congr 1
      refine List.ext_getElem (by simp [naC]) fun j h1 h2 => ?_
      simp only [naC, List.getElem_set, List.getElem_map, List.getElem_range]
      by_cases e : i = j
      · subst e; simp
      · rw [if_neg e, if_neg (fun h => e h.symm), if_neg (fun h => e h.symm)]
    rw [e] at h1
    exact h1
  · by_cases e : j = i
    · subst e; simp only [if_true]; exact hx.keepA ha _ _
    · simp only [if_neg e]; exact (hr j hj).keepA ha _ _
theorem NA.other {w : World} {g g' L L' : Nat} {h h' : Nat → Nat} (hn : NA w g L h) (ha : NA w g' L' h') (hne : g ≠ g') (o : Nat) (u : Value) : NA (w.setCell ⟨g', o, none⟩ u) g L h := by
  obtain ⟨F, hB, hr⟩ := hn
  exact ⟨F, hB.far (p := ⟨g', o, none⟩) hne u, fun i hi => (hr i hi).keepA ha o u⟩
theorem made_nats (n : Nat) : madeCells #[Value.slice none 0 0] n = (naC (fun _ => (none, 0)) (fun _ => 0) n).toArray := by
  apply Array.toList_inj.1
  rw [toList_madeCells_one]
  refine List.ext_getElem (by simp [naC]) fun j h1 h2 => ?_
  simp [naC, digs_zero_]
theorem NA.made (w : World) (n : Nat) : NA (w.alloc (.cells (madeCells #[Value.slice none 0 0] n) 25)) w.heap.size n (fun _ => 0) := ⟨fun _ => (none, 0), by rw [made_nats]; exact Blk.new _ _ _, fun i _ => by rw [digs_zero_]; exact NR.nil _⟩

/-- What a place adds is on both sides of 0. -/
theorem gains_zero {b : Int} {l : List Int} {y : List UInt8} {j : Nat} (hb : 2 ≤ b) (hl : 1 ≤ it l j ∧ it l j < b) (hy : bt y j ≤ 2) : min (gA b l y j) (gB b l y j) ≤ 0 ∧ 0 ≤ max (gA b l y j) (gB b l y j) := by
  unfold gA gB partS
  by_cases h2 : bt y j = 2
  · rw [if_pos h2, if_pos h2]; simp
  · rw [if_neg h2, if_neg h2]
    by_cases h0 : bt y j = 0
    · rw [if_pos h0, if_pos h0, if_pos h0.symm, if_neg (by omega)]; omega
    · rw [if_neg h0, if_neg h0, if_neg (fun e => h0 e.symm), if_pos (by omega)]; omega
theorem range_in {b : Int} {l : List Int} {y : List UInt8} (hb : 2 ≤ b) (hl : ∀ j, j < l.length → 1 ≤ it l j ∧ it l j < b) (hy : ∀ j, j < l.length → bt y j ≤ 2) {i : Nat} : ∀ {n : Nat}, i ≤ n → n ≤ l.length → slow b l y n ≤ slow b l y i ∧ shigh b l y i ≤ shigh b l y n
  | 0, hi, hn => by obtain rfl : i = 0 := by omega
                    exact ⟨Int.le_refl _, Int.le_refl _⟩
  | n + 1, hi, hn => by
    rcases Nat.lt_or_ge n i with h | h
    · obtain rfl : i = n + 1 := by omega
      exact ⟨Int.le_refl _, Int.le_refl _⟩
    · have h1 := range_in (y := y) hb hl hy h (by omega)
      have h2 := gains_zero (y := y) hb (hl n (by omega)) (hy n (by omega))
      have e1 : slow b l y (n + 1) = slow b l y n + min (gA b l y n) (gB b l y n) := rfl
      have e2 : shigh b l y (n + 1) = shigh b l y n + max (gA b l y n) (gB b l y n) := rfl
      omega
theorem slow_nonpos {b : Int} {l : List Int} {y : List UInt8} (hb : 2 ≤ b) (hl : ∀ j, j < l.length → 1 ≤ it l j ∧ it l j < b) (hy : ∀ j, j < l.length → bt y j ≤ 2) {n : Nat} (hn : n ≤ l.length) : slow b l y n ≤ 0 ∧ 0 ≤ shigh b l y n := range_in (i := 0) hb hl hy (Nat.zero_le _) hn
/-- Where a score of a word goes when one more place is read. -/
theorem score_next {b : Int} {l : List Int} {y : List UInt8} {i n : Nat} {s : Int} (hb : 2 ≤ b) (hl : ∀ j, j < l.length → 1 ≤ it l j ∧ it l j < b) (hy : ∀ j, j < l.length → bt y j ≤ 2) (hi : i < n) (hn : n ≤ l.length) (hs : scnt b l y i s ≠ 0) :
    (slow b l y n ≤ s + gA b l y i ∧ s + gA b l y i ≤ shigh b l y n) ∧ (slow b l y n ≤ s + gB b l y i ∧ s + gB b l y i ≤ shigh b l y n) := by
  have h1 := count_in (gA b l y) (gB b l y) (cA b l) (cB l) hs
  have h2 := range_in (y := y) hb hl hy (show i + 1 ≤ n by omega) hn
  have e1 : slow b l y (i + 1) = slow b l y i + min (gA b l y i) (gB b l y i) := rfl
  have e2 : shigh b l y (i + 1) = shigh b l y i + max (gA b l y i) (gB b l y i) := rfl
  have e3 : slow b l y i ≤ s := h1.1
  have e4 : s ≤ shigh b l y i := h1.2
  omega
theorem partW_skip {g0 g1 : Nat → Int} {c0 c1 : Nat → Nat} {n : Nat} {left : Int → Bool} {s : Int} (h : countS g0 g1 c0 c1 n s = 0) (t : Int) : partW g0 g1 c0 c1 n (fun z => left z && !(z == s)) t = partW g0 g1 c0 c1 n left t := by
  have h1 : ∀ (u : Int) (c : Nat), (if (left u && !(u == s)) = true then 0 else countS g0 g1 c0 c1 n u * c) = (if left u = true then 0 else countS g0 g1 c0 c1 n u * c) := fun u c => by
    by_cases e : u = s
    · subst e; rw [h]; simp
    · have e2 : (u == s) = false := by simpa using e
      rw [e2]; simp
  unfold partW
  dsimp only
  rw [h1, h1]
/-- The scores from a number on are still to come. -/
def fromZ (z : Int) : Int → Bool := fun t => decide (z ≤ t)
theorem fromZ_next (z : Int) : (fun t => fromZ z t && !(t == z)) = fromZ (z + 1) := by
  funext t
  unfold fromZ
  rw [Bool.eq_iff_iff, Bool.and_eq_true, Bool.not_eq_true', beq_eq_false_iff_ne, decide_eq_true_eq, decide_eq_true_eq]
  omega
end Go.Proofs.YtenpkmgbaajeeaaGreat

/- The range of the scores, and the sum of all: the reference's. -/
namespace Go.Proofs.YtenpkmgbaajeeaaGreat
open Go.RowKit Go.Maps
set_option linter.unusedVariables false
set_option linter.unusedSimpArgs false

set_option maxHeartbeats 2000000 in
set_option maxRecDepth 100000 in
theorem refRange_any (u b : Int) (A : Option Addr) (c : Nat) (l : List Int) (k : List UInt8) (Y : Option Addr) (d : Nat) (y : List UInt8) (w : World) {n : Nat} (hn : l.length = n) (hm : y.length = n) (h : IR w A c l) (hy : BR w Y d y)
    (hok : scoresB u b l = true) :
    Calls Tryz.prog 79 #[.agg (scC u b A n c k).toArray, .slice Y n d] w fun e w' => e = .returned (.tuple #[.int .i64 (slow b l y n), .int .i64 (shigh b l y n)]) ∧ Below w.heap.size w w' := by
  obtain ⟨⟨o1, o2, o3, o4, o5, o6⟩, o7⟩ := scoresB_parts hok
  have hnn : (n : Int) ≤ 64 := by omega
  have HN := Lib.hid hn
  have HM := Lib.hid hm
  have H := Lib.hid h
  have HY := Lib.hid hy
  have HO := Lib.hid o7
  have HSB : Hid (∀ j, j ≤ n → -(32 * (j : Int)) ≤ slow b l y j ∧ shigh b l y j ≤ 32 * (j : Int)) := fun j hj => score_bds ⟨o3, o4⟩ o7 (by omega)
  have HLH : Hid (∀ j, slow b l y j ≤ shigh b l y j) := fun j => low_high _ _ j
  clear hn hm h hy hok o5 o6 o7
  go_enter Tryz.func79, Tryz.ntmps79
  go_wp2_with fail
  go_loopw [6, 7, 8] (fun vl vh vi wr => ∃ (i : Nat) (lo hi : Int), i ≤ n ∧ vi = .int .i64 (i : Int) ∧ vl = .int .i64 lo ∧ vh = .int .i64 hi ∧ Hid (lo = slow b l y i) ∧ Hid (hi = shigh b l y i) ∧ -(32 * (i : Int)) ≤ lo ∧ lo ≤ hi ∧ hi ≤ 32 * (i : Int) ∧ wr.cell? ⟨w.heap.size, 1, none⟩ = some (.int .i64 b) ∧ wr.cell? ⟨w.heap.size, 2, none⟩ = some (.slice A n c) ∧ Below w.heap.size w wr) (fun _ _ vi _ => n - (intOf vi).toNat)
  case atStart => exact ⟨0, 0, 0, by omega, rfl, rfl, rfl, rfl, rfl, by omega, by omega, by omega, (Blk.new w 46 (scC u b A n c k).toArray).cell 1, (Blk.new w 46 (scC u b A n c k).toArray).cell 2, alloc_bel _ _⟩
  case round =>
    obtain ⟨i, lo, hi, hi', rfl, rfl, rfl, HL, HH, s1, s2, s3, hc1, hc2, hbel⟩ := hrel
    by_cases hin : i < n
    · have hii : (i : Int) < n := by omega
      obtain ⟨gb, go, rfl, hgb, hgc⟩ := (H.out.below hbel).at_ (i := i) (by have := HN.out; omega)
      obtain ⟨yb, yo, rfl, hyb, hyc⟩ := (HY.out.below hbel).at_ (i := i) (by have := HM.out; omega)
      have hbo := HO.out i (by have := HN.out; omega)
      have hx2 := bt_lt y i
      have HP0 : Hid (∀ q, Calls Tryz.prog 127 #[.int .i64 b, .int .i64 (it l i), .int .u8 0, .int .u8 (bt y i : Int)] (wr.drewN q) fun e w' => e = .returned (.int .i64 (gA b l y i)) ∧ wr.drewN q = w') := fun q => refPart_any b (it l i) 0 (bt y i) _ ⟨o3, o4⟩ hbo (by omega) (by omega)
      have HP1 : Hid (∀ q, Calls Tryz.prog 127 #[.int .i64 b, .int .i64 (it l i), .int .u8 1, .int .u8 (bt y i : Int)] (wr.drewN q) fun e w' => e = .returned (.int .i64 (gB b l y i)) ∧ wr.drewN q = w') := fun q => refPart_any b (it l i) 1 (bt y i) _ ⟨o3, o4⟩ hbo (by omega) (by omega)
      have hpa := gA_bd (y := y) ⟨o3, o4⟩ hbo
      have hpb := gB_bd (y := y) ⟨o3, o4⟩ hbo
      have e1 : Hid (slow b l y (i + 1) = lo + min (gA b l y i) (gB b l y i)) := by unfold Hid; rw [HL.out]; rfl
      have e2 : Hid (shigh b l y (i + 1) = hi + max (gA b l y i) (gB b l y i)) := by unfold Hid; rw [HH.out]; rfl
      have HSB2 := Lib.hid (HSB.out (i + 1) (by omega))
      have HLH2 := Lib.hid (HLH.out (i + 1))
      obtain ⟨p0, hp0⟩ : ∃ p, gA b l y i = p := ⟨_, rfl⟩
      obtain ⟨p1, hp1⟩ : ∃ p, gB b l y i = p := ⟨_, rfl⟩
      rw [hp0] at HP0 hpa e1 e2
      rw [hp1] at HP1 hpb e1 e2
      obtain ⟨hpa1, hpa2⟩ := hpa
      obtain ⟨hpb1, hpb2⟩ := hpb
      have hm1 : -32 ≤ min p0 p1 := by omega
      have hm2 : min p0 p1 ≤ 32 := by omega
      have hm3 : -32 ≤ max p0 p1 := by omega
      have hm4 : max p0 p1 ≤ 32 := by omega
      clear hin hbo hp0 hp1
      generalize it l i = a at *
      generalize bt y i = x at *
      go_wp2_with fail
      go_quiet ((go_at_call 127; first | (with_reducible exact quiet_left' (HP0.out _)) | (with_reducible exact quiet_left' (HP1.out _))))
      go_wp2_with fail
      go_roundw
      case rel => exact ⟨i + 1, _, _, by omega, by go_num, rfl, rfl, e1.out.symm, e2.out.symm, by omega, by omega, by omega, hc1, hc2, below_drewN hbel _⟩
      case measure => simp [intOf]; omega
    · obtain rfl : i = n := by omega
      go_wp2_with fail
      go_ret2
      exact ⟨by rw [← HL.out, ← HH.out]; rfl, hbel⟩

set_option maxHeartbeats 2000000 in
set_option maxRecDepth 100000 in
theorem refAll_any (u b : Int) (A : Option Addr) (c : Nat) (l : List Int) (k : List UInt8) (w : World) {n : Nat} (hn : l.length = n) (hok : scoresB u b l = true) :
    Calls Tryz.prog 83 #[.agg (scC u b A n c k).toArray] w fun e w' => (∃ T t, e = .returned (.slice T (digs (sall b l n)).length t) ∧ NR w' T t (digs (sall b l n))) ∧ Below w.heap.size w w' := by
  obtain ⟨⟨o1, o2, o3, o4, o5, o6⟩, o7⟩ := scoresB_parts hok
  have hnn : (n : Int) ≤ 64 := by omega
  have HSA : Hid (∀ i, i ≤ n → sall b l i ≤ 32 ^ 64) := fun i hi => sall_le ⟨o3, o4⟩ o7 (by omega) (by omega)
  have HSS : Hid (∀ i, i < n → sall b l i * b.toNat = sall b l (i + 1)) := fun i hi => sall_succ ⟨o3, o4⟩ o7 (by omega)
  have HO1 : Hid (∀ W, Calls Tryz.prog 53 #[.int .u64 1] W fun e w' => (∃ O o, e = .returned (.slice O (digs (sall b l 0)).length o) ∧ NR w' O o (digs (sall b l 0))) ∧ Below W.heap.size W w') := fun W => refOfD_any 1 W (by omega)
  obtain ⟨lb, hlb⟩ : ∃ lb, (digs b.toNat).length = lb := ⟨_, rfl⟩
  have HOF : Hid (∀ W, Calls Tryz.prog 53 #[.int .u64 b] W fun e w' => (∃ O o, e = .returned (.slice O lb o) ∧ NR w' O o (digs b.toNat)) ∧ Below W.heap.size W w') := fun W => by
    have := refOfD_any b.toNat W (by omega)
    rwa [show ((b.toNat : Nat) : Int) = b from by omega, hlb] at this
  have HTI : Hid (∀ i, i < n → ∀ W T t O o lt, (digs (sall b l i)).length = lt → NR W T t (digs (sall b l i)) → NR W O o (digs b.toNat) → Calls Tryz.prog 128 #[.slice T lt t, .slice O lb o] W fun e w' => (∃ P p, e = .returned (.slice P (digs (sall b l (i + 1))).length p) ∧ NR w' P p (digs (sall b l (i + 1)))) ∧ Below W.heap.size W w') := fun i hi W T t O o lt hlt g1 g2 => by
    rw [← HSS.out i hi]
    exact timesD_any (sm_allS (HSA.out i (by omega))) (sm_small (by omega)) hlt hlb g1 g2
  have ewb : IntKind.u64.wrap b = b := by rw [IntKind.wrap_u64]; omega
  obtain ⟨W0, hW0⟩ : ∃ W : World, W = w.alloc (.cells (scC u b A n c k).toArray 46) := ⟨_, rfl⟩
  have b0 : Hid (Below w.heap.size w W0) := by unfold Hid; rw [hW0]; exact alloc_bel _ _
  have HC2 : Hid (∀ W, Below W0.heap.size W0 W → W.cell? ⟨w.heap.size, 1, none⟩ = some (.int .i64 b) ∧ W.cell? ⟨w.heap.size, 2, none⟩ = some (.slice A n c)) := fun W hW => by
    have hB : Blk W w.heap.size 46 (scC u b A n c k).toArray := Blk.below' (by rw [hW0]; exact Blk.new _ _ _) hW
    exact ⟨hB.cell 1, hB.cell 2⟩
  have HW0 := Lib.hid hW0
  clear hn hok o5 o6 o7 hlb hW0
  go_enter Tryz.func83, Tryz.ntmps83
  go_wp2_with (first
    | (rw [← HW0.out])
    | (go_at_call 53; (with_reducible refine (HO1.out _).mono ?_); rintro e w1 ⟨⟨O, o, rfl, ho⟩, hb1⟩; have R1 := Lib.hid ho; have D1 := Lib.hid hb1; clear ho hb1))
  go_loopw [3, 4] (fun vs vi wr => ∃ (i ls t : Nat) (T : Option Addr), i ≤ n ∧ vi = .int .i64 (i : Int) ∧ vs = .slice T ls t ∧ Hid ((digs (sall b l i)).length = ls) ∧ Hid (NR wr T t (digs (sall b l i))) ∧ Below W0.heap.size W0 wr) (fun _ vi _ => n - (intOf vi).toNat)
  case atStart => exact ⟨0, _, _, _, by omega, rfl, rfl, rfl, R1.out, D1.out⟩
  case round =>
    obtain ⟨i, ls, t, T, hi, rfl, rfl, HL, HR, hbel⟩ := hrel
    obtain ⟨hc1, hc2⟩ := HC2.out _ hbel
    by_cases hin : i < n
    · have hii : (i : Int) < n := by omega
      have HTK := Lib.hid (HTI.out i hin)
      have hi0 : (0 : Int) ≤ i := by omega
      clear hin
      obtain ⟨lq, hlq⟩ : ∃ q, (digs (sall b l (i + 1))).length = q := ⟨_, rfl⟩
      rw [hlq] at HTK
      have HLQ := Lib.hid hlq
      clear hlq
      go_wp2_with (first
        | (go_at_call 53; (with_reducible refine (HOF.out _).mono ?_); rintro e w3 ⟨⟨O, o, rfl, ho⟩, hb3⟩; have R3 := Lib.hid ho; have D3 := Lib.hid (bel_on hbel hb3); have S3 := Lib.hid (HR.out.below hb3); clear ho hb3)
        | (go_at_call 128; (with_reducible refine (HTK.out _ _ _ _ _ _ HL.out S3.out R3.out).mono ?_); rintro e w4 ⟨⟨P, p, rfl, hp⟩, hb4⟩; have R4 := Lib.hid hp; have D4 := Lib.hid (bel_on D3.out hb4); clear hp hb4))
      go_roundw
      case rel => exact ⟨i + 1, lq, p, P, by omega, by go_num, rfl, HLQ.out, R4.out, D4.out⟩
      case measure => simp [intOf]; omega
    · obtain rfl : i = n := by omega
      go_wp2_with fail
      go_ret
      exact ⟨⟨T, t, by rw [HL.out]; rfl, HR.out⟩, bel_on b0.out hbel⟩
end Go.Proofs.YtenpkmgbaajeeaaGreat

/- The counts of all scores: the reference's. -/
namespace Go.Proofs.YtenpkmgbaajeeaaGreat
open Go.RowKit Go.Maps
set_option linter.unusedVariables false
set_option linter.unusedSimpArgs false

set_option maxHeartbeats 16000000 in
set_option maxRecDepth 1000000 in
theorem refCounts_any (u b : Int) (A : Option Addr) (c : Nat) (l : List Int) (k : List UInt8) (Y : Option Addr) (d : Nat) (y : List UInt8) (w : World) {n L : Nat} (hn : l.length = n) (hm : y.length = n) (h : IR w A c l) (hy : BR w Y d y) (hk : k.length = 16)
    (hok : scoresB u b l = true) (hyc : ∀ i, i < n → bt y i ≤ 2) (hL : shigh b l y n - slow b l y n + 1 = (L : Int)) :
    Calls Tryz.prog 80 #[.agg (scC u b A n c k).toArray, .slice Y n d] w fun e w' => (∃ g, e = .returned (.slice (some ⟨g, 0, none⟩) L L) ∧ NA w' g L (fun s => scnt b l y n (slow b l y n + (s : Int)))) ∧ Below w.heap.size w w' := by
  have mixed : Tryz.prog.follows Departure.mixedOrders = true := by kernel_rfl
  obtain ⟨⟨o1, o2, o3, o4, o5, o6⟩, o7⟩ := scoresB_parts hok
  have hnn : (n : Int) ≤ 64 := by omega
  have HN := Lib.hid hn
  have HM := Lib.hid hm
  have H := Lib.hid h
  have HY := Lib.hid hy
  have HO := Lib.hid o7
  have HC := Lib.hid hyc
  have HIN0 : Hid ((Tryz.prog.info? 46).map (·.size) = some (scC u b A n c k).toArray.size) := scC_info u b A n c k hk
  have HSA : Hid (∀ i, i ≤ n → sall b l i ≤ 32 ^ 64) := fun i hi => sall_le ⟨o3, o4⟩ o7 (by omega) (by omega)
  have HNEXT : Hid (∀ i s, i < n → scnt b l y i s ≠ 0 → (slow b l y n ≤ s + gA b l y i ∧ s + gA b l y i ≤ shigh b l y n) ∧ (slow b l y n ≤ s + gB b l y i ∧ s + gB b l y i ≤ shigh b l y n)) := fun i s hi hs => score_next o3 o7 (fun j hj => hyc j (by omega)) hi (by omega) hs
  have HCI : Hid (∀ i s, i ≤ n → scnt b l y i s ≠ 0 → slow b l y n ≤ s ∧ s ≤ shigh b l y n) := fun i s hi hs => by
    have h1 := count_in (gA b l y) (gB b l y) (cA b l) (cB l) hs
    have h2 := range_in (y := y) o3 o7 (fun j hj => hyc j (by omega)) hi (by omega)
    have e3 : slow b l y i ≤ s := h1.1
    have e4 : s ≤ shigh b l y i := h1.2
    omega
  have HRG : Hid (∀ W, Below w.heap.size w W → Calls Tryz.prog 79 #[.agg (scC u b A n c k).toArray, .slice Y n d] W fun e w' => e = .returned (.tuple #[.int .i64 (slow b l y n), .int .i64 (shigh b l y n)]) ∧ Below W.heap.size W w') := fun W hW => refRange_any u b A c l k Y d y W hn hm (h.below hW) (hy.below hW) hok
  have hbd := score_bds (y := y) ⟨o3, o4⟩ o7 (Nat.le_of_eq hn.symm)
  have hz := slow_nonpos (y := y) o3 o7 (fun j hj => hyc j (by omega)) (Nat.le_of_eq hn.symm)
  obtain ⟨lo, hlo⟩ : ∃ q, slow b l y n = q := ⟨_, rfl⟩
  obtain ⟨hi, hhi⟩ : ∃ q, shigh b l y n = q := ⟨_, rfl⟩
  rw [hlo, hhi] at HNEXT HCI HRG hL hbd hz
  rw [hlo]
  obtain ⟨hb1, hb2⟩ := hbd
  obtain ⟨hz1, hz2⟩ := hz
  obtain ⟨i0, hi0⟩ : ∃ i0 : Nat, -lo = (i0 : Int) := ⟨(-lo).toNat, by omega⟩
  have hlb : -2048 ≤ lo := by omega
  have hub : hi ≤ 2048 := by omega
  have hL1 : 1 ≤ L := by omega
  have hL2 : (L : Int) ≤ 4097 := by omega
  have hi0L : (i0 : Int) < L := by omega
  have ei0 : IntKind.i64.wrap (0 - lo) = (i0 : Int) := by rw [IntKind.wrap_i64]; omega
  have ei0' : (0 : Int) - lo = (i0 : Int) := by omega
  have hmk := run_make_row' (P := Tryz.prog) 127 25 (.slice none 0 0) 24 Tryz.underlying127 (by kernel_rfl) rfl .i64 .i64 L (by omega) (by omega)
  have HO1 : Hid (∀ W, Calls Tryz.prog 53 #[.int .u64 1] W fun e w' => (∃ O o, e = .returned (.slice O (digs 1).length o) ∧ NR w' O o (digs 1)) ∧ Below W.heap.size W w') := fun W => refOfD_any 1 W (by omega)
  obtain ⟨W0, hW0⟩ : ∃ W : World, W = w.alloc (.cells (scC u b A n c k).toArray 46) := ⟨_, rfl⟩
  have b0 : Hid (Below w.heap.size w W0) := by unfold Hid; rw [hW0]; exact alloc_bel _ _
  have x0 : Hid (Blk W0 w.heap.size 46 (scC u b A n c k).toArray) := by unfold Hid; rw [hW0]; exact Blk.new _ _ _
  have HW0 := Lib.hid hW0
  have HIZ := Lib.hid hi0
  have HLL := Lib.hid hL
  clear hn hm h hy hk hok hyc o5 o6 o7 hW0 hlo hhi hb1 hb2
  go_enter Tryz.func80, Tryz.ntmps80
  go_wp2_with (first
    | (rw [← HW0.out])
    | (refine wpList_load_row rfl 46 (.tmp 2) rfl w.heap.size rfl 46 (scC u b A n c k).toArray (0, 0) _ x0.out Tryz.underlying46 rfl HIN0.out ?_)
    | (go_at_call 79; (with_reducible refine (HRG.out _ b0.out).mono ?_); rintro e w1 ⟨rfl, hb1⟩; have D1 := Lib.hid hb1; have X1 := Lib.hid (x0.out.below' hb1); clear hb1))
  refine (HO1.out _).mono ?_
  rintro e w2 ⟨⟨O1, o1', rfl, ho⟩, hb2⟩
  have NA2 : Hid (NA w2 w1.heap.size L (fun _ => 0)) := (NA.made w1 L).below hb2
  have E2 : Hid (Below w1.heap.size w1 w2) := bel_on (alloc_bel _ _) hb2
  have R2 := Lib.hid ho
  obtain ⟨A20, c20, k20, -⟩ := NA2.out.get (i := i0) (by omega)
  have f20 := NA2.out.frozen i0
  have NA3 : Hid (NA (w2.setCell ⟨w1.heap.size, i0, none⟩ (.slice O1 (digs 1).length o1')) w1.heap.size L (fun s => scnt b l y 0 (lo + (s : Int)))) := (NA2.out.set_ (i := i0) (by omega) R2.out).congr fun s hs => by
    have hz := HIZ.out
    show (if s = i0 then 1 else 0) = (if lo + (s : Int) = 0 then 1 else 0)
    by_cases e : s = i0
    · rw [if_pos e, if_pos (by omega)]
    · rw [if_neg e, if_neg (by omega)]
  have E3 := Lib.hid (E2.out.setCell (p := ⟨w1.heap.size, i0, none⟩) (Nat.le_refl _) (.slice O1 (digs 1).length o1'))
  have HBW : Hid (∀ W, Below w1.heap.size w1 W → Below w.heap.size w W) := fun W hW => bel_on (bel_on b0.out D1.out) hW
  have HC2 : Hid (∀ W, Below w1.heap.size w1 W → W.cell? ⟨w.heap.size, 1, none⟩ = some (.int .i64 b) ∧ W.cell? ⟨w.heap.size, 2, none⟩ = some (.slice A n c)) := fun W hW => ⟨(X1.out.below' hW).cell 1, (X1.out.below' hW).cell 2⟩
  have HWS : Hid (w.heap.size < w1.heap.size) := Nat.lt_of_lt_of_le x0.out.lt D1.out.size
  clear ho hb2
  go_wp2_with fail
  clear k20 f20
  go_loopw [7, 8] (fun vl vi wr => ∃ (i gl : Nat), i ≤ n ∧ vi = .int .i64 (i : Int) ∧ vl = .slice (some ⟨gl, 0, none⟩) L L ∧ Hid (NA wr gl L (fun s => scnt b l y i (lo + (s : Int)))) ∧ Hid (w1.heap.size ≤ gl) ∧ Below w1.heap.size w1 wr) (fun _ vi _ => n - (intOf vi).toNat)
  case atStart => exact ⟨0, w1.heap.size, by omega, rfl, rfl, NA3.out, Nat.le_refl _, E3.out⟩
  case round =>
    obtain ⟨i, gl, hi_, rfl, rfl, HNL, HGL, hbel⟩ := hrel
    by_cases hin : i < n
    · have hii : (i : Int) < n := by omega
      have hlt := HO.out i (by have := HN.out; omega)
      obtain ⟨gb, go, rfl, hgb, hgc⟩ := H.out.at_ (i := i) (by have := HN.out; omega)
      obtain ⟨yb, yo, rfl, hyb, hycc⟩ := HY.out.at_ (i := i) (by have := HM.out; omega)
      have HGB : Hid (gb < w.heap.size) := hgb
      have HCG : Hid (∀ W, Below w1.heap.size w1 W → W.cell? ⟨gb, go + i, none⟩ = some (.int .i64 (it l i)) ∧ W.cell? ⟨yb, yo + i, none⟩ = some (.int .u8 (bt y i : Int))) := fun W hW => by
        obtain ⟨b', o', e', _, h1⟩ := (H.out.below (HBW.out _ hW)).at_ (i := i) (by have := HN.out; omega)
        obtain ⟨b2', o2', e2', _, h2⟩ := (HY.out.below (HBW.out _ hW)).at_ (i := i) (by have := HM.out; omega)
        injection e' with e'
        injection e' with e1 e3
        injection e2' with e2'
        injection e2' with e4 e5
        subst e1 e3 e4 e5
        exact ⟨h1, h2⟩
      have hp0 := gA_bd (y := y) ⟨o3, o4⟩ hlt
      have hp1 := gB_bd (y := y) ⟨o3, o4⟩ hlt
      have hx2 := bt_lt y i
      have HQ0 : Hid (∀ (W : World) q, Calls Tryz.prog 127 #[.int .i64 b, .int .i64 (it l i), .int .u8 0, .int .u8 (bt y i : Int)] (W.drewN q) fun e w' => e = .returned (.int .i64 (gA b l y i)) ∧ W.drewN q = w') := fun W q => refPart_any b (it l i) 0 (bt y i) _ ⟨o3, o4⟩ hlt (by omega) (by omega)
      have HQ1 : Hid (∀ (W : World) q, Calls Tryz.prog 127 #[.int .i64 b, .int .i64 (it l i), .int .u8 1, .int .u8 (bt y i : Int)] (W.drewN q) fun e w' => e = .returned (.int .i64 (gB b l y i)) ∧ W.drewN q = w') := fun W q => refPart_any b (it l i) 1 (bt y i) _ ⟨o3, o4⟩ hlt (by omega) (by omega)
      obtain ⟨a1, ha1⟩ : ∃ a1 : Nat, it l i = (a1 : Int) := ⟨(it l i).toNat, by omega⟩
      obtain ⟨a0, ha0⟩ : ∃ a0 : Nat, b - it l i = (a0 : Int) := ⟨(b - it l i).toNat, by omega⟩
      have ECA : Hid (cA b l i = a0) := by unfold Hid cA; rw [ha0]; simp
      have ECB : Hid (cB l i = a1) := by unfold Hid cB; rw [ha1]; simp
      rw [ha1] at HCG ha0 hlt HQ0 HQ1
      obtain ⟨hl1, hl2⟩ := hlt
      have e49 : IntKind.i64.wrap (b - (a1 : Int)) = (a0 : Int) := by rw [IntKind.wrap_i64]; omega
      have h321 : (a0 : Int) ≤ 32 := by omega
      have h322 : (a1 : Int) ≤ 32 := by omega
      have eu0 : IntKind.u64.wrap (a0 : Int) = (a0 : Int) := by rw [IntKind.wrap_u64]; omega
      have eu1 : IntKind.u64.wrap (a1 : Int) = (a1 : Int) := by rw [IntKind.wrap_u64]; omega
      obtain ⟨p0, hq0⟩ : ∃ p, gA b l y i = p := ⟨_, rfl⟩
      obtain ⟨p1, hq1⟩ : ∃ p, gB b l y i = p := ⟨_, rfl⟩
      have EP0 := Lib.hid hq0
      have EP1 := Lib.hid hq1
      rw [hq0] at HQ0 hp0
      rw [hq1] at HQ1 hp1
      obtain ⟨hp00, hp01⟩ := hp0
      obtain ⟨hp10, hp11⟩ := hp1
      have HIX : Hid (i ≤ n) := hi_
      have HIN1 := Lib.hid hin
      have hi64 : (i : Int) ≤ 63 := by omega
      have HLB : Hid (∀ a, a ≤ 32 → (digs a).length = (digs a).length) := fun _ _ => rfl
      generalize bt y i = yv at *
      obtain ⟨gn, hgn⟩ : ∃ gn, wr.heap.size = gn := ⟨_, rfl⟩
      obtain ⟨wm, hwm⟩ : ∃ W, W = wr.alloc (.cells (madeCells #[.slice none 0 0] L) 25) := ⟨_, rfl⟩
      have DM : Hid (Below w1.heap.size w1 wm) := by unfold Hid; rw [hwm]; exact bel_on hbel (alloc_bel _ _)
      have NM0 : Hid (NA wm gn L (fun _ => 0)) := by unfold Hid; rw [hwm, ← hgn]; exact NA.made _ _
      have NML : Hid (NA wm gl L (fun s => scnt b l y i (lo + (s : Int)))) := by unfold Hid; rw [hwm]; exact HNL.out.below (alloc_bel _ _)
      have HGN : Hid (gl ≠ gn ∧ w1.heap.size ≤ gn) := by
        have h1 := HNL.out.lt
        have h2 := hbel.size
        exact ⟨by omega, by omega⟩
      have hmk2 : (Instr.makeSlice 127 (.int .i64 (L : Int)) (.int .i64 (L : Int))).run Tryz.prog wr = .ok (.slice (some ⟨gn, 0, none⟩) L L) wm := by rw [hwm, ← hgn]; exact hmk wr
      clear hq0 hq1 ha1 hwm hgn hin hgc hycc hgb hyb hmk
      go_wp2_with fail
      go_loopw [10] (fun vs wr => ∃ s : Nat, s ≤ L ∧ vs = .int .i64 (s : Int) ∧ Hid (NA wr gl L (fun s => scnt b l y i (lo + (s : Int)))) ∧ Hid (NA wr gn L (fun t => partW (gA b l y) (gB b l y) (cA b l) (cB l) i (fromZ (lo + (s : Int))) (lo + (t : Int)))) ∧ Below w1.heap.size w1 wr) (fun vs _ => L - (intOf vs).toNat)
      case atStart => exact ⟨0, by omega, rfl, NML.out, NM0.out.congr fun t ht => (partW_zero (gA b l y) (gB b l y) (cA b l) (cB l) fun z hz => by
        have := HCI.out i z HIX.out hz
        unfold fromZ
        rw [decide_eq_true_eq]
        omega).symm, DM.out⟩
      case round =>
        clear NML NM0 DM
        obtain ⟨s, hs, rfl, HSL, HSN, hbelI⟩ := hrel
        by_cases hsl : s < L
        · have hsi : (s : Int) < L := by omega
          have hs0 : (0 : Int) ≤ s := by omega
          obtain ⟨X, cx, hcs, hnx⟩ := HSL.out.get hsl
          obtain ⟨cnt, hcnt⟩ : ∃ q, scnt b l y i (lo + (s : Int)) = q := ⟨_, rfl⟩
          rw [hcnt] at hcs hnx
          obtain ⟨lk, hlk⟩ : ∃ q, (digs cnt).length = q := ⟨_, rfl⟩
          rw [hlk] at hcs
          by_cases hc0 : cnt = 0
          · have hlk0 : lk = 0 := by rw [← hlk, hc0]; rfl
            have NX : Hid (NA wr gn L (fun t => partW (gA b l y) (gB b l y) (cA b l) (cB l) i (fromZ (lo + ((s + 1 : Nat) : Int))) (lo + (t : Int)))) := HSN.out.congr fun t ht => by
              have h1 := partW_skip (g0 := gA b l y) (g1 := gB b l y) (c0 := cA b l) (c1 := cB l) (n := i) (left := fromZ (lo + (s : Int))) (s := lo + (s : Int)) (by rw [← hc0, ← hcnt]; rfl) (lo + (t : Int))
              rw [fromZ_next] at h1
              rw [show lo + ((s + 1 : Nat) : Int) = lo + (s : Int) + 1 from by omega]
              exact h1.symm
            subst hlk0
            clear hcnt hnx hc0 hlk
            go_wp2_with fail
            go_roundw
            case rel => exact ⟨s + 1, by omega, by go_num, HSL.out, NX.out, hbelI⟩
            case measure => simp [intOf]; omega
          · have hlkp : 0 < lk := by rw [← hlk]; exact List.length_pos_iff.2 (digs_ne hc0)
            have hl1 : ((lk : Int) == 0) = false := by rw [beq_eq_false_iff_ne]; omega
            have hl2 : (lk == 0) = false := by rw [beq_eq_false_iff_ne]; omega
            have hl3 : ¬ ((lk : Int) = 0) := by omega
            obtain ⟨⟨hn1, hn2⟩, hn3, hn4⟩ := HNEXT.out i (lo + (s : Int)) HIN1.out (by rw [hcnt]; exact hc0)
            rw [EP0.out] at hn1 hn2
            rw [EP1.out] at hn3 hn4
            have hLL := HLL.out
            obtain ⟨ia, hia⟩ : ∃ ia : Nat, (s : Int) + p0 = (ia : Int) := ⟨((s : Int) + p0).toNat, by omega⟩
            obtain ⟨ib, hib⟩ : ∃ ib : Nat, (s : Int) + p1 = (ib : Int) := ⟨((s : Int) + p1).toNat, by omega⟩
            have hiaL : (ia : Int) < L := by omega
            have hibL : (ib : Int) < L := by omega
            have hia0 : (0 : Int) ≤ ia := by omega
            have hib0 : (0 : Int) ≤ ib := by omega
            have eia : IntKind.i64.wrap ((s : Int) + p0) = (ia : Int) := by rw [IntKind.wrap_i64]; omega
            have eib : IntKind.i64.wrap ((s : Int) + p1) = (ib : Int) := by rw [IntKind.wrap_i64]; omega
            obtain ⟨cb, cc⟩ := HC2.out _ hbelI
            obtain ⟨cg, cy⟩ := HCG.out _ hbelI
            clear hLL
            have hk1 := Lib.hid hcnt
            have hk2 := Lib.hid hlk
            have hk3 := Lib.hid hnx
            have hk4 := Lib.hid hia
            have hk5 := Lib.hid hib
            clear hcnt hnx hlk
            go_wp2_with fail
            go_quiet ((go_at_call 127; first | (with_reducible exact quiet_left' (HQ0.out _ _)) | (with_reducible exact quiet_left' (HQ1.out _ _))))
            obtain ⟨wi, hwi⟩ : ∃ W, W = wr.drewN nq := ⟨_, rfl⟩
            have di : Below wr.heap.size wr wi := by rw [hwi]; exact below_drewN (Below.refl _ _) _
            have DI := Lib.hid (bel_on hbelI di)
            have SLi := Lib.hid (HSL.out.below di)
            have SNi := Lib.hid (HSN.out.below di)
            have XNi := Lib.hid (hk3.out.below di)
            have CXi : Hid (∀ W, Below wi.heap.size wi W → W.cell? ⟨gl, s, none⟩ = some (.slice X lk cx)) := fun W hW => ((bel_on di hW).cell (World.block_lt_of_cell? _ _ hcs)).trans hcs
            rw [← hwi]
            clear hwi di cb cc cg cy hbelI hcs
            have HLE1 : Hid (putOne (gA b l y) (gB b l y) (cA b l) (cB l) i (fromZ (lo + (s : Int))) (lo + (s : Int)) (lo + (s : Int) + gA b l y i) ≤ 32 ^ 64) := Nat.le_trans (putOne_le _ _ _ _ (by unfold fromZ; simp)) (HSA.out (i + 1) HIN1.out)
            have HLE2 : Hid (putOne (gA b l y) (gB b l y) (cA b l) (cB l) i (fromZ (lo + (s : Int))) (lo + (s : Int)) (lo + (s : Int) + gB b l y i) + scnt b l y i (lo + (s : Int)) * cB l i ≤ 32 ^ 64) := Nat.le_trans (putTwo_le _ _ _ _ (by unfold fromZ; simp)) (HSA.out (i + 1) HIN1.out)
            have HCL : Hid (cnt ≤ 32 ^ 64) := by rw [← hk1.out]; exact Nat.le_trans (count_le (gA b l y) (gB b l y) (cA b l) (cB l) i _) (HSA.out i HIX.out)
            obtain ⟨Yn, cy, hcellA, hnyA⟩ := SNi.out.get (i := ia) (by omega)
            obtain ⟨yA, hyA⟩ : ∃ q, partW (gA b l y) (gB b l y) (cA b l) (cB l) i (fromZ (lo + (s : Int))) (lo + (ia : Int)) = q := ⟨_, rfl⟩
            rw [hyA] at hcellA hnyA
            obtain ⟨ly, hlyA⟩ : ∃ q, (digs yA).length = q := ⟨_, rfl⟩
            rw [hlyA] at hcellA
            obtain ⟨nA, hnA⟩ : ∃ q, yA + cnt * a0 = q := ⟨_, rfl⟩
            obtain ⟨lmA, hlmA⟩ : ∃ q, (digs (cnt * a0)).length = q := ⟨_, rfl⟩
            obtain ⟨ltA, hltA⟩ : ∃ q, (digs nA).length = q := ⟨_, rfl⟩
            obtain ⟨loA, hloA⟩ : ∃ q, (digs a0).length = q := ⟨_, rfl⟩
            have hNF := SNi.out
            have HNXA : Hid (∀ W, Below wi.heap.size wi W → W.cell? ⟨gn, ia, none⟩ = some (.slice Yn ly cy)) := fun W hW => (hW.cell (World.block_lt_of_cell? _ _ hcellA)).trans hcellA
            have HNFA : Hid (∀ W, Below wi.heap.size wi W → W.frozen? ⟨gn, ia, none⟩ = false) := fun W hW => (hNF.below hW).frozen _
            have HSXA : Hid (∀ W, Below wi.heap.size wi W → W.cell? ⟨gl, s, none⟩ = some (.slice X lk cx) ∧ W.cell? ⟨w.heap.size, 1, none⟩ = some (.int .i64 b) ∧ W.cell? ⟨w.heap.size, 2, none⟩ = some (.slice (some ⟨gb, go, none⟩) n c) ∧ W.cell? ⟨gb, go + i, none⟩ = some (.int .i64 (a1 : Int))) := fun W hW => ⟨CXi.out W hW, (HC2.out _ (bel_on DI.out hW)).1, (HC2.out _ (bel_on DI.out hW)).2, (HCG.out _ (bel_on DI.out hW)).1⟩
            have HSYA : Hid (∀ W, Below wi.heap.size wi W → ∀ v, (W.setCell ⟨gn, ia, none⟩ v).cell? ⟨gl, s, none⟩ = some (.slice X lk cx) ∧ (W.setCell ⟨gn, ia, none⟩ v).cell? ⟨w.heap.size, 1, none⟩ = some (.int .i64 b) ∧ (W.setCell ⟨gn, ia, none⟩ v).cell? ⟨w.heap.size, 2, none⟩ = some (.slice (some ⟨gb, go, none⟩) n c) ∧ (W.setCell ⟨gn, ia, none⟩ v).cell? ⟨gb, go + i, none⟩ = some (.int .i64 (a1 : Int))) := fun W hW v => by
              obtain ⟨h1, h2, h3, h4⟩ := HSXA.out W hW
              have hh := grown_setCell W ⟨gn, ia, none⟩ v
              have hg1 := HGN.out
              have hg2 := HWS.out
              have hg3 := HGB.out
              exact ⟨cell_grown h1 hh hg1.1, cell_grown h2 hh (by show w.heap.size ≠ gn; omega), cell_grown h3 hh (by show w.heap.size ≠ gn; omega), cell_grown h4 hh (by show gb ≠ gn; omega)⟩
            have HOFA : Hid (∀ W, Calls Tryz.prog 53 #[.int .u64 (a0 : Int)] W fun e w' => (∃ O o, e = .returned (.slice O loA o) ∧ NR w' O o (digs a0)) ∧ Below W.heap.size W w') := fun W => by rw [← hloA]; exact refOfD_any a0 W (by omega)
            have HTIA : Hid (∀ O o W, Below wi.heap.size wi W → NR W O o (digs a0) → Calls Tryz.prog 128 #[.slice X lk cx, .slice O loA o] W fun e w' => (∃ P p, e = .returned (.slice P lmA p) ∧ NR w' P p (digs (cnt * a0))) ∧ Below W.heap.size W w') := fun O o W hW g2 => by
              rw [← hlmA]
              exact timesD_any (sm_allS HCL.out) (sm_small (by omega)) hk2.out hloA (XNi.out.below hW) g2
            have HPLA : Hid (∀ M m W, Below wi.heap.size wi W → NR W M m (digs (cnt * a0)) → Calls Tryz.prog 81 #[.slice Yn ly cy, .slice M lmA m] W fun e w' => (∃ P p, e = .returned (.slice P ltA p) ∧ NR w' P p (digs nA)) ∧ Below W.heap.size W w') := fun M m W hW g2 => by
              have hle : yA + cnt * a0 ≤ 32 ^ 64 := by
                have h1 := HLE1.out
                have h2 := hk4.out
                rw [putOne_at, show lo + (s : Int) + gA b l y i = lo + (ia : Int) from by rw [EP0.out]; omega, hyA, ECA.out] at h1
                rw [← hk1.out]
                exact h1
              rw [← hltA, ← hnA]
              exact plusD_any (sm_allS hle) hlyA hlmA (hnyA.below hW) g2
            clear hcellA hNF
            have ENA : Hid (putOne (gA b l y) (gB b l y) (cA b l) (cB l) i (fromZ (lo + (s : Int))) (lo + (s : Int)) (lo + (ia : Int)) = nA) := by
              have := hk4.out
              rw [← hnA, ← hyA, ← hk1.out, ← ECA.out, show lo + (ia : Int) = lo + (s : Int) + gA b l y i from by rw [EP0.out]; omega, putOne_at]
              rfl
            go_wp2_with fail
            refine wp_region_noPanic ?_
            obtain ⟨v0, hv0⟩ : ∃ W, W = wi.drew := ⟨_, rfl⟩
            have k0 : Below wi.heap.size wi v0 := by rw [hv0]; exact (Below.refl _ _).drew
            refine wp_region_held_drew (S := fun W => W.cell? ⟨gl, s, none⟩ = some (.slice X lk cx) ∧ W.cell? ⟨w.heap.size, 1, none⟩ = some (.int .i64 b) ∧ W.cell? ⟨w.heap.size, 2, none⟩ = some (.slice (some ⟨gb, go, none⟩) n c) ∧ W.cell? ⟨gb, go + i, none⟩ = some (.int .i64 (a1 : Int))) (by kernel_rfl) (by rw [← hv0]; exact HSXA.out _ k0) (fun hS0 => ?_)
            rw [← hv0] at hS0 ⊢
            clear hv0
            refine hd_take 0 (_) rfl rfl (by kernel_rfl) (by kernel_rfl) (by kernel_rfl) (fun _ _ _ h => h) (fun w hw => by go_simp <;> rfl) hS0 ?_
            refine hd_take 1 (_) rfl rfl (by kernel_rfl) (by kernel_rfl) (by kernel_rfl) (fun _ _ _ h => h) (fun w hw => by go_simp <;> rfl) hS0 ?_
            refine hd_take 2 (_) rfl rfl (by kernel_rfl) (by kernel_rfl) (by kernel_rfl) (fun _ _ _ h => h) (fun w hw => by go_simp <;> rfl) hS0 ?_
            refine hd_take 3 (_) rfl rfl (by kernel_rfl) (by kernel_rfl) (by kernel_rfl) (fun _ _ _ h => h) (fun w hw => by go_simp <;> rfl) hS0 ?_
            refine hd_take 6 (_) rfl rfl (by kernel_rfl) (by kernel_rfl) (by kernel_rfl) (fun _ _ _ h => h) (fun w hw => by go_simp <;> rfl) hS0 ?_
            refine hd_take 7 (_) rfl rfl (by kernel_rfl) (by kernel_rfl) (by kernel_rfl) (fun _ _ _ h => h) (fun w hw => by go_simp <;> rfl) hS0 ?_
            refine hd_take 10 (_) rfl rfl (by kernel_rfl) (by kernel_rfl) (by kernel_rfl) (fun _ _ _ h => h) (fun w hw => by go_simp <;> rfl) hS0 ?_
            refine hd_take 12 (_) rfl rfl (by kernel_rfl) (by kernel_rfl) (by kernel_rfl) (fun _ _ _ h => h) (fun w hw => by go_simp <;> rfl) hS0 ?_
            refine hd_take 14 (_) rfl rfl (by kernel_rfl) (by kernel_rfl) (by kernel_rfl) (fun _ _ _ h => h) (fun w hw => by go_simp <;> rfl) hS0 ?_
            simp only [List.getElem_toArray, List.getElem_cons_succ, List.getElem_cons_zero, Act.put, List.setIfInBounds_toArray, List.set_cons_zero, List.set_cons_succ]
            refine hd_take 4 (_) rfl rfl (by kernel_rfl) (by kernel_rfl) (by kernel_rfl) (fun _ _ _ h => h) (fun w hw => by go_simp <;> rfl) hS0 ?_
            refine hd_take 8 (_) rfl rfl (by kernel_rfl) (by kernel_rfl) (by kernel_rfl) (fun _ _ _ h => h) (fun w hw => by go_simp <;> rfl) hS0 ?_
            refine hd_take 11 (.int .i64 b) rfl rfl (by kernel_rfl) (by kernel_rfl) (by kernel_rfl) (fun _ _ _ h => h) (fun w hw => by have hx := hw.2.1; simp [go_sem, hx]) hS0 ?_
            refine hd_take 13 (.slice (some ⟨gb, go, none⟩) n c) rfl rfl (by kernel_rfl) (by kernel_rfl) (by kernel_rfl) (fun _ _ _ h => h) (fun w hw => by have hx := hw.2.2.1; simp [go_sem, hx]) hS0 ?_
            simp only [List.getElem_toArray, List.getElem_cons_succ, List.getElem_cons_zero, Act.put, List.setIfInBounds_toArray, List.set_cons_zero, List.set_cons_succ]
            refine hd_take 9 (.slice X lk cx) rfl rfl (by kernel_rfl) (by kernel_rfl) (by kernel_rfl) (fun _ _ _ h => h) (fun w hw => by have hx := hw.1; simp [go_sem, hx]) hS0 ?_
            refine hd_take 15 (_) rfl rfl (by kernel_rfl) (by kernel_rfl) (by kernel_rfl) (fun _ _ _ h => h) (fun w hw => by go_simp <;> rfl) hS0 ?_
            simp only [List.getElem_toArray, List.getElem_cons_succ, List.getElem_cons_zero, Act.put, List.setIfInBounds_toArray, List.set_cons_zero, List.set_cons_succ]
            refine hd_take 16 (.int .i64 (a1 : Int)) rfl rfl (by kernel_rfl) (by kernel_rfl) (by kernel_rfl) (fun _ _ _ h => h) (fun w hw => by have hx := hw.2.2.2; simp [go_sem, hx]) hS0 ?_
            simp only [List.getElem_toArray, List.getElem_cons_succ, List.getElem_cons_zero, Act.put, List.setIfInBounds_toArray, List.set_cons_zero, List.set_cons_succ]
            refine hd_take 17 (.int .i64 (a0 : Int)) rfl rfl (by kernel_rfl) (by kernel_rfl) (by kernel_rfl) (fun _ _ _ h => h) (fun w hw => by simp [go_sem, e49]) hS0 ?_
            simp only [List.getElem_toArray, List.getElem_cons_succ, List.getElem_cons_zero, Act.put, List.setIfInBounds_toArray, List.set_cons_zero, List.set_cons_succ]
            refine hd_take 18 (.int .u64 (a0 : Int)) rfl rfl (by kernel_rfl) (by kernel_rfl) (by kernel_rfl) (fun _ _ _ h => h) (fun w hw => by simp [go_sem, eu0]) hS0 ?_
            simp only [List.getElem_toArray, List.getElem_cons_succ, List.getElem_cons_zero, Act.put, List.setIfInBounds_toArray, List.set_cons_zero, List.set_cons_succ]
            refine' (fun (HIN : ∀ (O : Option Addr) (o : Nat) (M : Option Addr) (m : Nat) (T : Option Addr) (t : Nat) (W : World), (NR W T t (digs nA) ∧ Below wi.heap.size wi W) → (_ : Option Addr → Nat → Option Addr → Nat → Option Addr → Nat → World → Prop) O o M m T t W) => _) _
            rotate_left
            · refine hd_two 5 19 (by kernel_rfl) (op_run (.slice Yn ly cy) v0 rfl rfl (by have hx := HNXA.out _ k0; simp [go_sem, hx]) ⟨hS0, ?_⟩) (op_call 53 #[.int .u64 (a0 : Int)] rfl rfl (by go_simp) ((HOFA.out _).mono ?_))
              · simp only [List.getElem_toArray, List.getElem_cons_succ, List.getElem_cons_zero, Act.put, List.setIfInBounds_toArray, List.set_cons_zero, List.set_cons_succ]
                refine hd_calls 19 53 #[.int .u64 (a0 : Int)] rfl rfl (by kernel_rfl) (by go_simp) ((HOFA.out _).mono ?_)
                rintro e v1 ⟨⟨O, o, rfl, hO⟩, hb1⟩
                have k1 := bel_on k0 hb1
                have hS1 := HSXA.out _ k1
                refine ⟨_, rfl, hS1, ?_⟩
                simp only [List.getElem_toArray, List.getElem_cons_succ, List.getElem_cons_zero, Act.put, List.setIfInBounds_toArray, List.set_cons_zero, List.set_cons_succ]
                refine hd_calls 20 128 #[.slice X lk cx, .slice O loA o] rfl rfl (by kernel_rfl) (by go_simp) ((HTIA.out _ _ _ k1 hO).mono ?_)
                rintro e v2 ⟨⟨M, m, rfl, hM⟩, hb2⟩
                have k2 := bel_on k1 hb2
                have hS2 := HSXA.out _ k2
                refine ⟨_, rfl, hS2, ?_⟩
                simp only [List.getElem_toArray, List.getElem_cons_succ, List.getElem_cons_zero, Act.put, List.setIfInBounds_toArray, List.set_cons_zero, List.set_cons_succ]
                refine hd_calls 21 81 #[.slice Yn ly cy, .slice M lmA m] rfl rfl (by kernel_rfl) (by go_simp) ((HPLA.out _ _ _ k2 hM).mono ?_)
                rintro e v3 ⟨⟨T, t, rfl, hT⟩, hb3⟩
                have k3 := bel_on k2 hb3
                have hS3 := HSXA.out _ k3
                refine ⟨_, rfl, hS3, ?_⟩
                simp only [List.getElem_toArray, List.getElem_cons_succ, List.getElem_cons_zero, Act.put, List.setIfInBounds_toArray, List.set_cons_zero, List.set_cons_succ]
                refine hd_take 22 (_) rfl rfl (by kernel_rfl) (by kernel_rfl) (by kernel_rfl) (fun _ _ _ h => h) (fun w hw => by go_simp <;> rfl) hS3 ?_
                simp only [List.getElem_toArray, List.getElem_cons_succ, List.getElem_cons_zero, Act.put, List.setIfInBounds_toArray, List.set_cons_zero, List.set_cons_succ]
                have kc := HNXA.out _ k3
                have kf := HNFA.out _ k3
                have hS4 := HSYA.out _ k3 (.slice T ltA t)
                refine hd_sole 23 (by kernel_rfl) (op_skip (v3.setCell ⟨gn, ia, none⟩ (.slice T ltA t)) rfl rfl (by simp [go_sem, kc, kf]) ⟨hS4, ?_⟩)
                refine wpAnyH_done (by kernel_rfl) (NoPanic.normal ?_) _
                simp only [List.getElem_toArray, List.getElem_cons_succ, List.getElem_cons_zero, Act.put, List.setIfInBounds_toArray, List.set_cons_zero, List.set_cons_succ]
                exact HIN O o M m T t v3 ⟨hT, k3⟩
              · rintro e v1 ⟨⟨O, o, rfl, hO⟩, hb1⟩
                have k1 := bel_on k0 hb1
                have hS1 := HSXA.out _ k1
                refine ⟨_, rfl, hS1, ?_⟩
                simp only [List.getElem_toArray, List.getElem_cons_succ, List.getElem_cons_zero, Act.put, List.setIfInBounds_toArray, List.set_cons_zero, List.set_cons_succ]
                refine hd_two 5 20 (by kernel_rfl) (op_run (.slice Yn ly cy) v1 rfl rfl (by have hx := HNXA.out _ k1; simp [go_sem, hx]) ⟨hS1, ?_⟩) (op_call 128 #[.slice X lk cx, .slice O loA o] rfl rfl (by go_simp) ((HTIA.out _ _ _ k1 hO).mono ?_))
                · simp only [List.getElem_toArray, List.getElem_cons_succ, List.getElem_cons_zero, Act.put, List.setIfInBounds_toArray, List.set_cons_zero, List.set_cons_succ]
                  refine hd_calls 20 128 #[.slice X lk cx, .slice O loA o] rfl rfl (by kernel_rfl) (by go_simp) ((HTIA.out _ _ _ k1 hO).mono ?_)
                  rintro e v2 ⟨⟨M, m, rfl, hM⟩, hb2⟩
                  have k2 := bel_on k1 hb2
                  have hS2 := HSXA.out _ k2
                  refine ⟨_, rfl, hS2, ?_⟩
                  simp only [List.getElem_toArray, List.getElem_cons_succ, List.getElem_cons_zero, Act.put, List.setIfInBounds_toArray, List.set_cons_zero, List.set_cons_succ]
                  refine hd_calls 21 81 #[.slice Yn ly cy, .slice M lmA m] rfl rfl (by kernel_rfl) (by go_simp) ((HPLA.out _ _ _ k2 hM).mono ?_)
                  rintro e v3 ⟨⟨T, t, rfl, hT⟩, hb3⟩
                  have k3 := bel_on k2 hb3
                  have hS3 := HSXA.out _ k3
                  refine ⟨_, rfl, hS3, ?_⟩
                  simp only [List.getElem_toArray, List.getElem_cons_succ, List.getElem_cons_zero, Act.put, List.setIfInBounds_toArray, List.set_cons_zero, List.set_cons_succ]
                  refine hd_take 22 (_) rfl rfl (by kernel_rfl) (by kernel_rfl) (by kernel_rfl) (fun _ _ _ h => h) (fun w hw => by go_simp <;> rfl) hS3 ?_
                  simp only [List.getElem_toArray, List.getElem_cons_succ, List.getElem_cons_zero, Act.put, List.setIfInBounds_toArray, List.set_cons_zero, List.set_cons_succ]
                  have kc := HNXA.out _ k3
                  have kf := HNFA.out _ k3
                  have hS4 := HSYA.out _ k3 (.slice T ltA t)
                  refine hd_sole 23 (by kernel_rfl) (op_skip (v3.setCell ⟨gn, ia, none⟩ (.slice T ltA t)) rfl rfl (by simp [go_sem, kc, kf]) ⟨hS4, ?_⟩)
                  refine wpAnyH_done (by kernel_rfl) (NoPanic.normal ?_) _
                  simp only [List.getElem_toArray, List.getElem_cons_succ, List.getElem_cons_zero, Act.put, List.setIfInBounds_toArray, List.set_cons_zero, List.set_cons_succ]
                  exact HIN O o M m T t v3 ⟨hT, k3⟩
                · rintro e v2 ⟨⟨M, m, rfl, hM⟩, hb2⟩
                  have k2 := bel_on k1 hb2
                  have hS2 := HSXA.out _ k2
                  refine ⟨_, rfl, hS2, ?_⟩
                  simp only [List.getElem_toArray, List.getElem_cons_succ, List.getElem_cons_zero, Act.put, List.setIfInBounds_toArray, List.set_cons_zero, List.set_cons_succ]
                  refine hd_sole 5 (by kernel_rfl) (op_run (.slice Yn ly cy) v2 rfl rfl (by have hx := HNXA.out _ k2; simp [go_sem, hx]) ⟨hS2, ?_⟩)
                  simp only [List.getElem_toArray, List.getElem_cons_succ, List.getElem_cons_zero, Act.put, List.setIfInBounds_toArray, List.set_cons_zero, List.set_cons_succ]
                  refine hd_calls 21 81 #[.slice Yn ly cy, .slice M lmA m] rfl rfl (by kernel_rfl) (by go_simp) ((HPLA.out _ _ _ k2 hM).mono ?_)
                  rintro e v3 ⟨⟨T, t, rfl, hT⟩, hb3⟩
                  have k3 := bel_on k2 hb3
                  have hS3 := HSXA.out _ k3
                  refine ⟨_, rfl, hS3, ?_⟩
                  simp only [List.getElem_toArray, List.getElem_cons_succ, List.getElem_cons_zero, Act.put, List.setIfInBounds_toArray, List.set_cons_zero, List.set_cons_succ]
                  refine hd_take 22 (_) rfl rfl (by kernel_rfl) (by kernel_rfl) (by kernel_rfl) (fun _ _ _ h => h) (fun w hw => by go_simp <;> rfl) hS3 ?_
                  simp only [List.getElem_toArray, List.getElem_cons_succ, List.getElem_cons_zero, Act.put, List.setIfInBounds_toArray, List.set_cons_zero, List.set_cons_succ]
                  have kc := HNXA.out _ k3
                  have kf := HNFA.out _ k3
                  have hS4 := HSYA.out _ k3 (.slice T ltA t)
                  refine hd_sole 23 (by kernel_rfl) (op_skip (v3.setCell ⟨gn, ia, none⟩ (.slice T ltA t)) rfl rfl (by simp [go_sem, kc, kf]) ⟨hS4, ?_⟩)
                  refine wpAnyH_done (by kernel_rfl) (NoPanic.normal ?_) _
                  simp only [List.getElem_toArray, List.getElem_cons_succ, List.getElem_cons_zero, Act.put, List.setIfInBounds_toArray, List.set_cons_zero, List.set_cons_succ]
                  exact HIN O o M m T t v3 ⟨hT, k3⟩
            · intro O o M m T t W hPP
              obtain ⟨hT, hW⟩ := hPP
              obtain ⟨wj, hwj⟩ : ∃ V, V = W.setCell ⟨gn, ia, none⟩ (.slice T ltA t) := ⟨_, rfl⟩
              have SNj : Hid (NA wj gn L (fun t => putOne (gA b l y) (gB b l y) (cA b l) (cB l) i (fromZ (lo + (s : Int))) (lo + (s : Int)) (lo + (t : Int)))) := by
                unfold Hid
                rw [hwj, ← hltA]
                refine ((SNi.out.below hW).set_ (i := ia) (by omega) hT).congr fun j hj => ?_
                by_cases e : j = ia
                · subst e; rw [if_pos rfl, ENA.out]
                · rw [if_neg e]
                  unfold putOne
                  have := hk4.out
                  rw [if_neg (by rw [EP0.out]; omega)]
              have SLj : Hid (NA wj gl L (fun s => scnt b l y i (lo + (s : Int)))) := by unfold Hid; rw [hwj]; exact (SLi.out.below hW).other (SNi.out.below hW) HGN.out.1 ia _
              have XNj : Hid (NR wj X cx (digs cnt)) := by unfold Hid; rw [hwj]; exact (XNi.out.below hW).keepA (SNi.out.below hW) ia _
              have DJ : Hid (Below w1.heap.size w1 wj) := by unfold Hid; rw [hwj]; exact (bel_on DI.out hW).setCell (p := ⟨gn, ia, none⟩) HGN.out.2 _
              have CXj : Hid (∀ V, Below wj.heap.size wj V → V.cell? ⟨gl, s, none⟩ = some (.slice X lk cx)) := fun V hV => by
                have h0 : wj.cell? ⟨gl, s, none⟩ = some (.slice X lk cx) := by rw [hwj]; exact cell_grown (CXi.out W hW) (grown_setCell W ⟨gn, ia, none⟩ _) HGN.out.1
                exact (hV.cell (World.block_lt_of_cell? _ _ h0)).trans h0
              rw [← hwj]
              clear hwj hW hT
              obtain ⟨Yn, cy, hcellB, hnyB⟩ := SNj.out.get (i := ib) (by omega)
              obtain ⟨yB, hyB⟩ : ∃ q, putOne (gA b l y) (gB b l y) (cA b l) (cB l) i (fromZ (lo + (s : Int))) (lo + (s : Int)) (lo + (ib : Int)) = q := ⟨_, rfl⟩
              rw [hyB] at hcellB hnyB
              obtain ⟨ly, hlyB⟩ : ∃ q, (digs yB).length = q := ⟨_, rfl⟩
              rw [hlyB] at hcellB
              obtain ⟨nB, hnB⟩ : ∃ q, yB + cnt * a1 = q := ⟨_, rfl⟩
              obtain ⟨lmB, hlmB⟩ : ∃ q, (digs (cnt * a1)).length = q := ⟨_, rfl⟩
              obtain ⟨ltB, hltB⟩ : ∃ q, (digs nB).length = q := ⟨_, rfl⟩
              obtain ⟨loB, hloB⟩ : ∃ q, (digs a1).length = q := ⟨_, rfl⟩
              have hNF := SNj.out
              have HNXB : Hid (∀ W, Below wj.heap.size wj W → W.cell? ⟨gn, ib, none⟩ = some (.slice Yn ly cy)) := fun W hW => (hW.cell (World.block_lt_of_cell? _ _ hcellB)).trans hcellB
              have HNFB : Hid (∀ W, Below wj.heap.size wj W → W.frozen? ⟨gn, ib, none⟩ = false) := fun W hW => (hNF.below hW).frozen _
              have HSXB : Hid (∀ W, Below wj.heap.size wj W → W.cell? ⟨gl, s, none⟩ = some (.slice X lk cx) ∧ W.cell? ⟨w.heap.size, 1, none⟩ = some (.int .i64 b) ∧ W.cell? ⟨w.heap.size, 2, none⟩ = some (.slice (some ⟨gb, go, none⟩) n c) ∧ W.cell? ⟨gb, go + i, none⟩ = some (.int .i64 (a1 : Int))) := fun W hW => ⟨CXj.out W hW, (HC2.out _ (bel_on DJ.out hW)).1, (HC2.out _ (bel_on DJ.out hW)).2, (HCG.out _ (bel_on DJ.out hW)).1⟩
              have HSYB : Hid (∀ W, Below wj.heap.size wj W → ∀ v, (W.setCell ⟨gn, ib, none⟩ v).cell? ⟨gl, s, none⟩ = some (.slice X lk cx) ∧ (W.setCell ⟨gn, ib, none⟩ v).cell? ⟨w.heap.size, 1, none⟩ = some (.int .i64 b) ∧ (W.setCell ⟨gn, ib, none⟩ v).cell? ⟨w.heap.size, 2, none⟩ = some (.slice (some ⟨gb, go, none⟩) n c) ∧ (W.setCell ⟨gn, ib, none⟩ v).cell? ⟨gb, go + i, none⟩ = some (.int .i64 (a1 : Int))) := fun W hW v => by
                obtain ⟨h1, h2, h3, h4⟩ := HSXB.out W hW
                have hh := grown_setCell W ⟨gn, ib, none⟩ v
                have hg1 := HGN.out
                have hg2 := HWS.out
                have hg3 := HGB.out
                exact ⟨cell_grown h1 hh hg1.1, cell_grown h2 hh (by show w.heap.size ≠ gn; omega), cell_grown h3 hh (by show w.heap.size ≠ gn; omega), cell_grown h4 hh (by show gb ≠ gn; omega)⟩
              have HOFB : Hid (∀ W, Calls Tryz.prog 53 #[.int .u64 (a1 : Int)] W fun e w' => (∃ O o, e = .returned (.slice O loB o) ∧ NR w' O o (digs a1)) ∧ Below W.heap.size W w') := fun W => by rw [← hloB]; exact refOfD_any a1 W (by omega)
              have HTIB : Hid (∀ O o W, Below wj.heap.size wj W → NR W O o (digs a1) → Calls Tryz.prog 128 #[.slice X lk cx, .slice O loB o] W fun e w' => (∃ P p, e = .returned (.slice P lmB p) ∧ NR w' P p (digs (cnt * a1))) ∧ Below W.heap.size W w') := fun O o W hW g2 => by
                rw [← hlmB]
                exact timesD_any (sm_allS HCL.out) (sm_small (by omega)) hk2.out hloB (XNj.out.below hW) g2
              have HPLB : Hid (∀ M m W, Below wj.heap.size wj W → NR W M m (digs (cnt * a1)) → Calls Tryz.prog 81 #[.slice Yn ly cy, .slice M lmB m] W fun e w' => (∃ P p, e = .returned (.slice P ltB p) ∧ NR w' P p (digs nB)) ∧ Below W.heap.size W w') := fun M m W hW g2 => by
                have hle : yB + cnt * a1 ≤ 32 ^ 64 := by
                  have h1 := HLE2.out
                  have h2 := hk5.out
                  rw [show lo + (s : Int) + gB b l y i = lo + (ib : Int) from by rw [EP1.out]; omega, hyB, ECB.out] at h1
                  rw [← hk1.out]
                  exact h1
                rw [← hltB, ← hnB]
                exact plusD_any (sm_allS hle) hlyB hlmB (hnyB.below hW) g2
              clear hcellB hNF
              have ENB : Hid (partW (gA b l y) (gB b l y) (cA b l) (cB l) i (fromZ (lo + ((s + 1 : Nat) : Int))) (lo + (ib : Int)) = nB) := by
                have := hk5.out
                have e1 : lo + (ib : Int) = lo + (s : Int) + gB b l y i := by rw [EP1.out]; omega
                have h1 := partW_two (gA b l y) (gB b l y) (cA b l) (cB l) (n := i) (left := fromZ (lo + (s : Int))) (s := lo + (s : Int)) (by unfold fromZ; simp) (lo + (ib : Int))
                rw [fromZ_next, if_pos e1] at h1
                rw [show lo + ((s + 1 : Nat) : Int) = lo + (s : Int) + 1 from by omega, h1, ← hnB, ← hyB, ← hk1.out, ← ECB.out, e1]
                rfl
              go_wp2_with fail
              refine wp_region_noPanic ?_
              obtain ⟨v0, hv0⟩ : ∃ W, W = wj.drew := ⟨_, rfl⟩
              have k0 : Below wj.heap.size wj v0 := by rw [hv0]; exact (Below.refl _ _).drew
              refine wp_region_held_drew (S := fun W => W.cell? ⟨gl, s, none⟩ = some (.slice X lk cx) ∧ W.cell? ⟨w.heap.size, 1, none⟩ = some (.int .i64 b) ∧ W.cell? ⟨w.heap.size, 2, none⟩ = some (.slice (some ⟨gb, go, none⟩) n c) ∧ W.cell? ⟨gb, go + i, none⟩ = some (.int .i64 (a1 : Int))) (by kernel_rfl) (by rw [← hv0]; exact HSXB.out _ k0) (fun hS0 => ?_)
              rw [← hv0] at hS0 ⊢
              clear hv0
              refine hd_take 0 (_) rfl rfl (by kernel_rfl) (by kernel_rfl) (by kernel_rfl) (fun _ _ _ h => h) (fun w hw => by go_simp <;> rfl) hS0 ?_
              refine hd_take 1 (_) rfl rfl (by kernel_rfl) (by kernel_rfl) (by kernel_rfl) (fun _ _ _ h => h) (fun w hw => by go_simp <;> rfl) hS0 ?_
              refine hd_take 2 (_) rfl rfl (by kernel_rfl) (by kernel_rfl) (by kernel_rfl) (fun _ _ _ h => h) (fun w hw => by go_simp <;> rfl) hS0 ?_
              refine hd_take 3 (_) rfl rfl (by kernel_rfl) (by kernel_rfl) (by kernel_rfl) (fun _ _ _ h => h) (fun w hw => by go_simp <;> rfl) hS0 ?_
              refine hd_take 6 (_) rfl rfl (by kernel_rfl) (by kernel_rfl) (by kernel_rfl) (fun _ _ _ h => h) (fun w hw => by go_simp <;> rfl) hS0 ?_
              refine hd_take 7 (_) rfl rfl (by kernel_rfl) (by kernel_rfl) (by kernel_rfl) (fun _ _ _ h => h) (fun w hw => by go_simp <;> rfl) hS0 ?_
              refine hd_take 10 (_) rfl rfl (by kernel_rfl) (by kernel_rfl) (by kernel_rfl) (fun _ _ _ h => h) (fun w hw => by go_simp <;> rfl) hS0 ?_
              refine hd_take 12 (_) rfl rfl (by kernel_rfl) (by kernel_rfl) (by kernel_rfl) (fun _ _ _ h => h) (fun w hw => by go_simp <;> rfl) hS0 ?_
              simp only [List.getElem_toArray, List.getElem_cons_succ, List.getElem_cons_zero, Act.put, List.setIfInBounds_toArray, List.set_cons_zero, List.set_cons_succ]
              refine hd_take 4 (_) rfl rfl (by kernel_rfl) (by kernel_rfl) (by kernel_rfl) (fun _ _ _ h => h) (fun w hw => by go_simp <;> rfl) hS0 ?_
              refine hd_take 8 (_) rfl rfl (by kernel_rfl) (by kernel_rfl) (by kernel_rfl) (fun _ _ _ h => h) (fun w hw => by go_simp <;> rfl) hS0 ?_
              refine hd_take 11 (.slice (some ⟨gb, go, none⟩) n c) rfl rfl (by kernel_rfl) (by kernel_rfl) (by kernel_rfl) (fun _ _ _ h => h) (fun w hw => by have hx := hw.2.2.1; simp [go_sem, hx]) hS0 ?_
              simp only [List.getElem_toArray, List.getElem_cons_succ, List.getElem_cons_zero, Act.put, List.setIfInBounds_toArray, List.set_cons_zero, List.set_cons_succ]
              refine hd_take 9 (.slice X lk cx) rfl rfl (by kernel_rfl) (by kernel_rfl) (by kernel_rfl) (fun _ _ _ h => h) (fun w hw => by have hx := hw.1; simp [go_sem, hx]) hS0 ?_
              refine hd_take 13 (_) rfl rfl (by kernel_rfl) (by kernel_rfl) (by kernel_rfl) (fun _ _ _ h => h) (fun w hw => by go_simp <;> rfl) hS0 ?_
              simp only [List.getElem_toArray, List.getElem_cons_succ, List.getElem_cons_zero, Act.put, List.setIfInBounds_toArray, List.set_cons_zero, List.set_cons_succ]
              refine hd_take 14 (.int .i64 (a1 : Int)) rfl rfl (by kernel_rfl) (by kernel_rfl) (by kernel_rfl) (fun _ _ _ h => h) (fun w hw => by have hx := hw.2.2.2; simp [go_sem, hx]) hS0 ?_
              simp only [List.getElem_toArray, List.getElem_cons_succ, List.getElem_cons_zero, Act.put, List.setIfInBounds_toArray, List.set_cons_zero, List.set_cons_succ]
              refine hd_take 15 (.int .u64 (a1 : Int)) rfl rfl (by kernel_rfl) (by kernel_rfl) (by kernel_rfl) (fun _ _ _ h => h) (fun w hw => by simp [go_sem, eu1]) hS0 ?_
              simp only [List.getElem_toArray, List.getElem_cons_succ, List.getElem_cons_zero, Act.put, List.setIfInBounds_toArray, List.set_cons_zero, List.set_cons_succ]
              refine' (fun (HIN : ∀ (O : Option Addr) (o : Nat) (M : Option Addr) (m : Nat) (T : Option Addr) (t : Nat) (W : World), (NR W T t (digs nB) ∧ Below wj.heap.size wj W) → (_ : Option Addr → Nat → Option Addr → Nat → Option Addr → Nat → World → Prop) O o M m T t W) => _) _
              rotate_left
              · refine hd_two 5 16 (by kernel_rfl) (op_run (.slice Yn ly cy) v0 rfl rfl (by have hx := HNXB.out _ k0; simp [go_sem, hx]) ⟨hS0, ?_⟩) (op_call 53 #[.int .u64 (a1 : Int)] rfl rfl (by go_simp) ((HOFB.out _).mono ?_))
                · simp only [List.getElem_toArray, List.getElem_cons_succ, List.getElem_cons_zero, Act.put, List.setIfInBounds_toArray, List.set_cons_zero, List.set_cons_succ]
                  refine hd_calls 16 53 #[.int .u64 (a1 : Int)] rfl rfl (by kernel_rfl) (by go_simp) ((HOFB.out _).mono ?_)
                  rintro e v1 ⟨⟨O, o, rfl, hO⟩, hb1⟩
                  have k1 := bel_on k0 hb1
                  have hS1 := HSXB.out _ k1
                  refine ⟨_, rfl, hS1, ?_⟩
                  simp only [List.getElem_toArray, List.getElem_cons_succ, List.getElem_cons_zero, Act.put, List.setIfInBounds_toArray, List.set_cons_zero, List.set_cons_succ]
                  refine hd_calls 17 128 #[.slice X lk cx, .slice O loB o] rfl rfl (by kernel_rfl) (by go_simp) ((HTIB.out _ _ _ k1 hO).mono ?_)
                  rintro e v2 ⟨⟨M, m, rfl, hM⟩, hb2⟩
                  have k2 := bel_on k1 hb2
                  have hS2 := HSXB.out _ k2
                  refine ⟨_, rfl, hS2, ?_⟩
                  simp only [List.getElem_toArray, List.getElem_cons_succ, List.getElem_cons_zero, Act.put, List.setIfInBounds_toArray, List.set_cons_zero, List.set_cons_succ]
                  refine hd_calls 18 81 #[.slice Yn ly cy, .slice M lmB m] rfl rfl (by kernel_rfl) (by go_simp) ((HPLB.out _ _ _ k2 hM).mono ?_)
                  rintro e v3 ⟨⟨T, t, rfl, hT⟩, hb3⟩
                  have k3 := bel_on k2 hb3
                  have hS3 := HSXB.out _ k3
                  refine ⟨_, rfl, hS3, ?_⟩
                  simp only [List.getElem_toArray, List.getElem_cons_succ, List.getElem_cons_zero, Act.put, List.setIfInBounds_toArray, List.set_cons_zero, List.set_cons_succ]
                  refine hd_take 19 (_) rfl rfl (by kernel_rfl) (by kernel_rfl) (by kernel_rfl) (fun _ _ _ h => h) (fun w hw => by go_simp <;> rfl) hS3 ?_
                  simp only [List.getElem_toArray, List.getElem_cons_succ, List.getElem_cons_zero, Act.put, List.setIfInBounds_toArray, List.set_cons_zero, List.set_cons_succ]
                  have kc := HNXB.out _ k3
                  have kf := HNFB.out _ k3
                  have hS4 := HSYB.out _ k3 (.slice T ltB t)
                  refine hd_sole 20 (by kernel_rfl) (op_skip (v3.setCell ⟨gn, ib, none⟩ (.slice T ltB t)) rfl rfl (by simp [go_sem, kc, kf]) ⟨hS4, ?_⟩)
                  refine wpAnyH_done (by kernel_rfl) (NoPanic.normal ?_) _
                  simp only [List.getElem_toArray, List.getElem_cons_succ, List.getElem_cons_zero, Act.put, List.setIfInBounds_toArray, List.set_cons_zero, List.set_cons_succ]
                  exact HIN O o M m T t v3 ⟨hT, k3⟩
                · rintro e v1 ⟨⟨O, o, rfl, hO⟩, hb1⟩
                  have k1 := bel_on k0 hb1
                  have hS1 := HSXB.out _ k1
                  refine ⟨_, rfl, hS1, ?_⟩
                  simp only [List.getElem_toArray, List.getElem_cons_succ, List.getElem_cons_zero, Act.put, List.setIfInBounds_toArray, List.set_cons_zero, List.set_cons_succ]
                  refine hd_two 5 17 (by kernel_rfl) (op_run (.slice Yn ly cy) v1 rfl rfl (by have hx := HNXB.out _ k1; simp [go_sem, hx]) ⟨hS1, ?_⟩) (op_call 128 #[.slice X lk cx, .slice O loB o] rfl rfl (by go_simp) ((HTIB.out _ _ _ k1 hO).mono ?_))
                  · simp only [List.getElem_toArray, List.getElem_cons_succ, List.getElem_cons_zero, Act.put, List.setIfInBounds_toArray, List.set_cons_zero, List.set_cons_succ]
                    refine hd_calls 17 128 #[.slice X lk cx, .slice O loB o] rfl rfl (by kernel_rfl) (by go_simp) ((HTIB.out _ _ _ k1 hO).mono ?_)
                    rintro e v2 ⟨⟨M, m, rfl, hM⟩, hb2⟩
                    have k2 := bel_on k1 hb2
                    have hS2 := HSXB.out _ k2
                    refine ⟨_, rfl, hS2, ?_⟩
                    simp only [List.getElem_toArray, List.getElem_cons_succ, List.getElem_cons_zero, Act.put, List.setIfInBounds_toArray, List.set_cons_zero, List.set_cons_succ]
                    refine hd_calls 18 81 #[.slice Yn ly cy, .slice M lmB m] rfl rfl (by kernel_rfl) (by go_simp) ((HPLB.out _ _ _ k2 hM).mono ?_)
                    rintro e v3 ⟨⟨T, t, rfl, hT⟩, hb3⟩
                    have k3 := bel_on k2 hb3
                    have hS3 := HSXB.out _ k3
                    refine ⟨_, rfl, hS3, ?_⟩
                    simp only [List.getElem_toArray, List.getElem_cons_succ, List.getElem_cons_zero, Act.put, List.setIfInBounds_toArray, List.set_cons_zero, List.set_cons_succ]
                    refine hd_take 19 (_) rfl rfl (by kernel_rfl) (by kernel_rfl) (by kernel_rfl) (fun _ _ _ h => h) (fun w hw => by go_simp <;> rfl) hS3 ?_
                    simp only [List.getElem_toArray, List.getElem_cons_succ, List.getElem_cons_zero, Act.put, List.setIfInBounds_toArray, List.set_cons_zero, List.set_cons_succ]
                    have kc := HNXB.out _ k3
                    have kf := HNFB.out _ k3
                    have hS4 := HSYB.out _ k3 (.slice T ltB t)
                    refine hd_sole 20 (by kernel_rfl) (op_skip (v3.setCell ⟨gn, ib, none⟩ (.slice T ltB t)) rfl rfl (by simp [go_sem, kc, kf]) ⟨hS4, ?_⟩)
                    refine wpAnyH_done (by kernel_rfl) (NoPanic.normal ?_) _
                    simp only [List.getElem_toArray, List.getElem_cons_succ, List.getElem_cons_zero, Act.put, List.setIfInBounds_toArray, List.set_cons_zero, List.set_cons_succ]
                    exact HIN O o M m T t v3 ⟨hT, k3⟩
                  · rintro e v2 ⟨⟨M, m, rfl, hM⟩, hb2⟩
                    have k2 := bel_on k1 hb2
                    have hS2 := HSXB.out _ k2
                    refine ⟨_, rfl, hS2, ?_⟩
                    simp only [List.getElem_toArray, List.getElem_cons_succ, List.getElem_cons_zero, Act.put, List.setIfInBounds_toArray, List.set_cons_zero, List.set_cons_succ]
                    refine hd_sole 5 (by kernel_rfl) (op_run (.slice Yn ly cy) v2 rfl rfl (by have hx := HNXB.out _ k2; simp [go_sem, hx]) ⟨hS2, ?_⟩)
                    simp only [List.getElem_toArray, List.getElem_cons_succ, List.getElem_cons_zero, Act.put, List.setIfInBounds_toArray, List.set_cons_zero, List.set_cons_succ]
                    refine hd_calls 18 81 #[.slice Yn ly cy, .slice M lmB m] rfl rfl (by kernel_rfl) (by go_simp) ((HPLB.out _ _ _ k2 hM).mono ?_)
                    rintro e v3 ⟨⟨T, t, rfl, hT⟩, hb3⟩
                    have k3 := bel_on k2 hb3
                    have hS3 := HSXB.out _ k3
                    refine ⟨_, rfl, hS3, ?_⟩
                    simp only [List.getElem_toArray, List.getElem_cons_succ, List.getElem_cons_zero, Act.put, List.setIfInBounds_toArray, List.set_cons_zero, List.set_cons_succ]
                    refine hd_take 19 (_) rfl rfl (by kernel_rfl) (by kernel_rfl) (by kernel_rfl) (fun _ _ _ h => h) (fun w hw => by go_simp <;> rfl) hS3 ?_
                    simp only [List.getElem_toArray, List.getElem_cons_succ, List.getElem_cons_zero, Act.put, List.setIfInBounds_toArray, List.set_cons_zero, List.set_cons_succ]
                    have kc := HNXB.out _ k3
                    have kf := HNFB.out _ k3
                    have hS4 := HSYB.out _ k3 (.slice T ltB t)
                    refine hd_sole 20 (by kernel_rfl) (op_skip (v3.setCell ⟨gn, ib, none⟩ (.slice T ltB t)) rfl rfl (by simp [go_sem, kc, kf]) ⟨hS4, ?_⟩)
                    refine wpAnyH_done (by kernel_rfl) (NoPanic.normal ?_) _
                    simp only [List.getElem_toArray, List.getElem_cons_succ, List.getElem_cons_zero, Act.put, List.setIfInBounds_toArray, List.set_cons_zero, List.set_cons_succ]
                    exact HIN O o M m T t v3 ⟨hT, k3⟩
              · intro O2 o2' M2 m2 T2 t2' W2 hPP2
                obtain ⟨hT2, hW2⟩ := hPP2
                have SN9 : Hid (NA (W2.setCell ⟨gn, ib, none⟩ (.slice T2 ltB t2')) gn L (fun t => partW (gA b l y) (gB b l y) (cA b l) (cB l) i (fromZ (lo + ((s + 1 : Nat) : Int))) (lo + (t : Int)))) := by
                  unfold Hid
                  rw [← hltB]
                  refine ((SNj.out.below hW2).set_ (i := ib) (by omega) hT2).congr fun j hj => ?_
                  by_cases e : j = ib
                  · subst e; rw [if_pos rfl, ENB.out]
                  · rw [if_neg e]
                    have := hk5.out
                    have h1 := partW_two (gA b l y) (gB b l y) (cA b l) (cB l) (n := i) (left := fromZ (lo + (s : Int))) (s := lo + (s : Int)) (by unfold fromZ; simp) (lo + (j : Int))
                    rw [fromZ_next, if_neg (by rw [EP1.out]; omega)] at h1
                    rw [show lo + ((s + 1 : Nat) : Int) = lo + (s : Int) + 1 from by omega, h1]
                have SL9 : Hid (NA (W2.setCell ⟨gn, ib, none⟩ (.slice T2 ltB t2')) gl L (fun s => scnt b l y i (lo + (s : Int)))) := (SLj.out.below hW2).other (SNj.out.below hW2) HGN.out.1 ib _
                have D9 : Hid (Below w1.heap.size w1 (W2.setCell ⟨gn, ib, none⟩ (.slice T2 ltB t2'))) := (bel_on DJ.out hW2).setCell (p := ⟨gn, ib, none⟩) HGN.out.2 _
                clear hT2 hW2
                go_wp2_with fail
                go_roundw
                case rel => exact ⟨s + 1, by omega, by go_num, SL9.out, SN9.out, D9.out⟩
                case measure => simp [intOf]; omega
        · obtain rfl : s = L := by omega
          have hx5 : ¬ ((s : Int) < (s : Int)) := by omega
          have NX : Hid (NA wr gn s (fun t => scnt b l y (i + 1) (lo + (t : Int)))) := HSN.out.congr fun t ht => partW_fin (gA b l y) (gB b l y) (cA b l) (cB l) fun z hz => by
            have := HCI.out i z HIX.out hz
            have := HLL.out
            unfold fromZ
            rw [decide_eq_false_iff_not]
            omega
          go_wp2_with fail
          go_roundw
          case rel => exact ⟨i + 1, gn, by omega, by go_num, rfl, NX.out, HGN.out.2, hbelI⟩
          case measure => simp [intOf]; omega
    · obtain rfl : i = n := by omega
      have hx5 : ¬ ((i : Int) < (i : Int)) := by omega
      go_wp2_with fail
      go_ret
      exact ⟨⟨gl, rfl, HNL.out⟩, HBW.out _ hbel⟩
end Go.Proofs.YtenpkmgbaajeeaaGreat

/- The bound of a limit: the reference's. -/
namespace Go.Proofs.YtenpkmgbaajeeaaGreat
open Go.RowKit Go.Maps
set_option linter.unusedVariables false
set_option linter.unusedSimpArgs false

/-- The sum of the first s counts of the scores from z on. -/
def prefZ (b : Int) (l : List Int) (y : List UInt8) (n : Nat) (lo z : Int) (s : Nat) : Nat := sumN (fun j => if z ≤ lo + (j : Int) then scnt b l y n (lo + (j : Int)) else 0) s
theorem prefZ_end {b : Int} {l : List Int} {y : List UInt8} {n L : Nat} {z : Int} (hL : shigh b l y n - slow b l y n + 1 = (L : Int)) : prefZ b l y n (slow b l y n) z L = srch b l y n z := by
  have h1 := count_sum (gA b l y) (gB b l y) (cA b l) (cB l) n (slow b l y n) z L (by unfold shigh at hL; omega)
  have h2 : prefZ b l y n (slow b l y n) z L = srch b l y n (max z (slow b l y n)) := by unfold prefZ srch; rw [← h1]; rfl
  rw [h2]
  rcases Int.le_total (slow b l y n) z with h3 | h3
  · rw [Int.max_eq_left h3]
  · rw [Int.max_eq_right h3]
    unfold srch slow at *
    rw [reach_low _ _ _ _ _ _ (Int.le_refl _), reach_low _ _ _ _ _ _ h3]
theorem srch_step (b : Int) (l : List Int) (y : List UInt8) (n : Nat) (z : Int) : srch b l y n z = srch b l y n (z + 1) + scnt b l y n z := reach_step _ _ _ _ n z
theorem srch_le (b : Int) (l : List Int) (y : List UInt8) (n : Nat) (z : Int) : srch b l y n z ≤ sall b l n := reach_all _ _ _ _ n z
theorem slim_low {b : Int} {l : List Int} {y : List UInt8} {n num den : Nat} (hl : num < den) (hc : 0 < sall b l n) : slim b l y n num den (slow b l y n) = false := inLim_low _ _ _ _ (Int.le_refl _) hl hc
theorem slim_high {b : Int} {l : List Int} {y : List UInt8} {n num den : Nat} : slim b l y n num den (shigh b l y n + 1) = true := inLim_high _ _ _ _ (by unfold shigh; omega)
theorem sbnd_is {b : Int} {l : List Int} {y : List UInt8} {n num den : Nat} (hl : num < den) (hc : 0 < sall b l n) {z : Int} (h1 : slim b l y n num den z = true) (h2 : slim b l y n num den (z - 1) = false) : z = sbnd b l y n num den := bnd_unique _ _ _ _ hl hc h1 h2

set_option maxHeartbeats 8000000 in
set_option maxRecDepth 1000000 in
theorem refBoundOf_any (u b : Int) (A : Option Addr) (c : Nat) (l : List Int) (k : List UInt8) (Y : Option Addr) (d : Nat) (y : List UInt8) (X : Option Addr) (cx : Nat) (x : List Nat) (Z : Option Addr) (cz : Nat) (z : List Nat) (w : World) {n ny lx lz : Nat} (hn : l.length = n) (hyl : y.length = ny) (hlx : x.length = lx) (hlz : z.length = lz) (h : IR w A c l) (hy : BR w Y d y) (hk : k.length = 16) (hx : NR w X cx x) (hz : NR w Z cz z) (hl : limB x z = true) (hv : scoresB u b l = true) (hc : copyB y n = true) :
    Calls Tryz.prog 86 #[.agg (scC u b A n c k).toArray, .slice Y ny d, .agg #[.slice X lx cx, .slice Z lz cz]] w fun e w' => e = .returned (.int .i64 (sbnd b l y n (val x) (val z))) ∧ Below w.heap.size w w' := by
  obtain ⟨hyn, hcy⟩ := copyB_sym hc
  obtain rfl : ny = n := by omega
  obtain ⟨⟨o1, o2, o3, o4, o5, o6⟩, o7⟩ := scoresB_parts hv
  have hnn : (ny : Int) ≤ 64 := by omega
  have hbd := score_bds (y := y) ⟨o3, o4⟩ o7 (Nat.le_of_eq hn.symm)
  have hzz := slow_nonpos (y := y) o3 o7 (fun j hj => hcy j (by omega)) (Nat.le_of_eq hn.symm)
  have hall := sall_le ⟨o3, o4⟩ o7 (Nat.le_of_eq hn.symm) (by omega)
  have hpos := sall_pos ⟨o3, o4⟩ o7 (Nat.le_of_eq hn.symm)
  obtain ⟨L, hL⟩ : ∃ L : Nat, shigh b l y ny - slow b l y ny + 1 = (L : Int) := ⟨(shigh b l y ny - slow b l y ny + 1).toNat, by omega⟩
  have HRG : Hid (∀ W, Below w.heap.size w W → Calls Tryz.prog 79 #[.agg (scC u b A ny c k).toArray, .slice Y ny d] W fun e w' => e = .returned (.tuple #[.int .i64 (slow b l y ny), .int .i64 (shigh b l y ny)]) ∧ Below W.heap.size W w') := fun W hW => refRange_any u b A c l k Y d y W hn hyl (h.below hW) (hy.below hW) hv
  have HCT : Hid (∀ W, Below w.heap.size w W → Calls Tryz.prog 80 #[.agg (scC u b A ny c k).toArray, .slice Y ny d] W fun e w' => (∃ g, e = .returned (.slice (some ⟨g, 0, none⟩) L L) ∧ NA w' g L (fun s => scnt b l y ny (slow b l y ny + (s : Int)))) ∧ Below W.heap.size W w') := fun W hW => refCounts_any u b A c l k Y d y W hn hyl (h.below hW) (hy.below hW) hk hv (fun i hi => hcy i (by omega)) hL
  obtain ⟨lal, hlal⟩ : ∃ q, (digs (sall b l ny)).length = q := ⟨_, rfl⟩
  have HAL : Hid (∀ W, Calls Tryz.prog 83 #[.agg (scC u b A ny c k).toArray] W fun e w' => (∃ T t, e = .returned (.slice T lal t) ∧ NR w' T t (digs (sall b l ny))) ∧ Below W.heap.size W w') := fun W => by rw [← hlal]; exact refAll_any u b A c l k W hn hv
  obtain ⟨lo, hlo⟩ : ∃ q, slow b l y ny = q := ⟨_, rfl⟩
  obtain ⟨hi, hhi⟩ : ∃ q, shigh b l y ny = q := ⟨_, rfl⟩
  obtain ⟨v1, v2, l1, l2, hlt⟩ := limB_sm hl
  have HSTEP : Hid (∀ q, srch b l y ny (q - 1) = srch b l y ny q + scnt b l y ny (q - 1)) := fun q => by have := srch_step b l y ny (q - 1); rwa [show q - 1 + 1 = q from by omega] at this
  have HSL : Hid (∀ q, srch b l y ny q ≤ 32 ^ 64) := fun q => Nat.le_trans (srch_le b l y ny q) hall
  have HUN : Hid (∀ q, slim b l y ny (val x) (val z) q = true → slim b l y ny (val x) (val z) (q - 1) = false → q = sbnd b l y ny (val x) (val z)) := fun q g1 g2 => sbnd_is hlt hpos g1 g2
  have HLOW : Hid (slim b l y ny (val x) (val z) lo = false) := by unfold Hid; rw [← hlo]; exact slim_low hlt hpos
  have HHIGH : Hid (slim b l y ny (val x) (val z) (hi + 1) = true) := by unfold Hid; rw [← hhi]; exact slim_high
  have HZ : Hid (srch b l y ny (hi + 1) = 0) := by unfold Hid; rw [← hhi]; exact reach_high _ _ _ _ _ _ (by unfold shigh; omega)
  have HWI : Hid (∀ q W R r lr T t, (digs (srch b l y ny q)).length = lr → Below w.heap.size w W → NR W R r (digs (srch b l y ny q)) → NR W T t (digs (sall b l ny)) → Calls Tryz.prog 133 #[.slice R lr r, .slice T lal t, .agg #[.slice X lx cx, .slice Z lz cz]] W fun e w' => e = .returned (.bool (slim b l y ny (val x) (val z) q)) ∧ Below W.heap.size W w') := fun q W R r lr T t hlr hW hR hT =>
    refWithin_any (srch b l y ny q) (sall b l ny) R r T t X cx x Z cz z W hlr hlal hlx hlz hR hT (hx.below hW) (hz.below hW) hl (by rw [← hlr]; exact sm12 (HSL.out q)) (by rw [← hlal]; exact sm12 hall)
  obtain ⟨P, hP⟩ : ∃ P, slim b l y ny (val x) (val z) = P := ⟨_, rfl⟩
  rw [hP] at HUN HLOW HHIGH HWI
  obtain ⟨r0, hr0⟩ : ∃ r, sbnd b l y ny (val x) (val z) = r := ⟨_, rfl⟩
  rw [hr0] at HUN ⊢
  rw [hlo, hhi] at HRG hL hbd hzz
  rw [hlo] at HCT
  obtain ⟨hbd1, hbd2⟩ := hbd
  obtain ⟨hzz1, hzz2⟩ := hzz
  have hlb : -2048 ≤ lo := by omega
  have hub : hi ≤ 2048 := by omega
  have hL2 : (L : Int) ≤ 4097 := by omega
  obtain ⟨W0, hW0⟩ : ∃ W : World, W = (w.alloc (.cells (scC u b A ny c k).toArray 46)).alloc (.cells #[.slice X lx cx, .slice Z lz cz] 27) := ⟨_, rfl⟩
  have b0 : Hid (Below w.heap.size w W0) := by unfold Hid; rw [hW0]; exact alloc2_bel _ _ _
  have x0 : Hid (Blk W0 w.heap.size 46 (scC u b A ny c k).toArray) := by unfold Hid; rw [hW0]; exact blk_b0 w _ _ _
  have y0 : Hid (Blk W0 (w.heap.size + 1) 27 #[.slice X lx cx, .slice Z lz cz]) := by unfold Hid; rw [hW0]; exact blk_b1 w _ _ _
  have hz0 : Hid (W0.heap.size = w.heap.size + 2) := by unfold Hid; rw [hW0]; simp
  have HW0 := Lib.hid hW0
  have HIN0 : Hid ((Tryz.prog.info? 46).map (·.size) = some (scC u b A ny c k).toArray.size) := scC_info u b A ny c k hk
  have HLL := Lib.hid hL
  have HPL : Hid (∀ q S s ls T t lt W, (digs (srch b l y ny q)).length = ls → (digs (scnt b l y ny (q - 1))).length = lt → NR W S s (digs (srch b l y ny q)) → NR W T t (digs (scnt b l y ny (q - 1))) → Calls Tryz.prog 81 #[.slice S ls s, .slice T lt t] W fun e w' => (∃ P p, e = .returned (.slice P (digs (srch b l y ny (q - 1))).length p) ∧ NR w' P p (digs (srch b l y ny (q - 1)))) ∧ Below W.heap.size W w') := fun q S s ls T t lt W g1 g2 g3 g4 => by
    have hs := HSTEP.out q
    have hle := HSL.out (q - 1)
    rw [hs] at hle ⊢
    exact plusD_any (sm_allS hle) g1 g2 g3 g4
  clear hn hyl h hy hk hl hv hc hyn hcy o1 o2 o3 o4 o5 o6 o7 hall hpos hlal hlo hhi v1 v2 l1 l2 hlt hlx hlz hx hz hP hr0 hbd1 hbd2 hW0
  go_enter Tryz.func86, Tryz.ntmps86
  go_wp2_with (first
    | (rw [← HW0.out])
    | (refine wpList_load_row rfl 46 (.tmp 3) rfl w.heap.size rfl 46 (scC u b A ny c k).toArray (0, 0) _ (x0.out.below' (by assumption)) Tryz.underlying46 rfl HIN0.out ?_)
    | (refine wpList_load_row rfl 46 (.tmp 3) rfl w.heap.size rfl 46 (scC u b A ny c k).toArray (0, 0) _ x0.out Tryz.underlying46 rfl HIN0.out ?_)
    | (go_at_call 79; (with_reducible refine (HRG.out _ b0.out).mono ?_); rintro e w1 ⟨rfl, hb1⟩)
    | (go_at_call 80; (with_reducible refine (HCT.out _ (bel_on b0.out hb1)).mono ?_); rintro e w2 ⟨⟨gc, rfl, hna⟩, hb2⟩; have hb12 := bel_on hb1 hb2)
    | (go_at_call 83; (with_reducible refine (HAL.out _).mono ?_); rintro e w3 ⟨⟨TA, ta, rfl, hta⟩, hb3⟩; have D3 := Lib.hid (bel_on hb12 hb3); have NA3 := Lib.hid (hna.below hb3); have TA3 := Lib.hid hta; clear hta hb3 hna hb2))
  clear hb1 hb12
  have HBW : Hid (∀ W, Below w3.heap.size w3 W → Below w.heap.size w W) := fun W hW => bel_on (bel_on b0.out D3.out) hW
  have HY3 : Hid (∀ W, Below w3.heap.size w3 W → Blk W (w.heap.size + 1) 27 #[.slice X lx cx, .slice Z lz cz]) := fun W hW => (y0.out.below' D3.out).below' hW
  go_loopw [11, 12] (fun vs vz wr => ∃ (q : Int) (ls s : Nat) (S : Option Addr), lo ≤ q ∧ q ≤ hi + 1 ∧ vz = .int .i64 q ∧ vs = .slice S ls s ∧ Hid ((digs (srch b l y ny q)).length = ls) ∧ Hid (NR wr S s (digs (srch b l y ny q))) ∧ Hid (P q = true) ∧ Below w3.heap.size w3 wr) (fun _ vz _ => (intOf vz - lo).toNat)
  case atStart => exact ⟨hi + 1, 0, 0, none, by omega, by omega, by go_num, rfl, by unfold Hid; rw [HZ.out]; rfl, by unfold Hid; rw [HZ.out]; exact NR.nil _, HHIGH.out, Below.refl _ _⟩
  case round =>
    obtain ⟨q, ls, s, S, hq1, hq2, rfl, rfl, HLS, HNS, HPQ, hbel⟩ := hrel
    by_cases hgo : lo < q
    · obtain ⟨q', hq'⟩ : ∃ q', q - 1 = q' := ⟨_, rfl⟩
      obtain ⟨j, hj⟩ : ∃ j : Nat, q' - lo = (j : Int) := ⟨(q' - lo).toNat, by omega⟩
      have hjL : (j : Int) < L := by omega
      have hj0 : (0 : Int) ≤ j := by omega
      obtain ⟨T, t, hct, hnt⟩ := (NA3.out.below hbel).get (i := j) (by omega)
      rw [show lo + (j : Int) = q - 1 from by omega] at hct hnt
      have HNT := Lib.hid hnt
      obtain ⟨lt, hlt⟩ : ∃ lt, (digs (scnt b l y ny (q - 1))).length = lt := ⟨_, rfl⟩
      rw [hlt] at hct
      have HLT := Lib.hid hlt
      have e1 : IntKind.i64.wrap (q - 1) = q' := by rw [IntKind.wrap_i64]; omega
      have e2 : IntKind.i64.wrap (q' - lo) = (j : Int) := by rw [IntKind.wrap_i64]; omega
      have hqq1 : lo ≤ q' := by omega
      have hqq2 : q' ≤ hi + 1 := by omega
      have YX := Lib.hid (HY3.out _ hbel)
      obtain ⟨lp, hlp⟩ : ∃ lp, (digs (srch b l y ny (q - 1))).length = lp := ⟨_, rfl⟩
      have HPK : Hid (∀ W, Below wr.heap.size wr W → Calls Tryz.prog 81 #[.slice S ls s, .slice T lt t] W fun e w' => (∃ P p, e = .returned (.slice P lp p) ∧ NR w' P p (digs (srch b l y ny q'))) ∧ Below W.heap.size W w') := fun W hW => by rw [← hlp, ← hq']; exact HPL.out q S s ls T t lt W HLS.out hlt (HNS.out.below hW) (hnt.below hW)
      have HLP : Hid ((digs (srch b l y ny q')).length = lp) := by unfold Hid; rw [← hq']; exact hlp
      have HUQ : Hid (P q' = false → q = r0) := fun hp => HUN.out q HPQ.out (by rw [hq']; exact hp)
      have HQQ := Lib.hid hq'
      clear hnt hlt hlp hq'
      go_wp2_with (first
        | (go_at_call 81; (with_reducible refine (HPK.out _ (Below.refl _ _)).mono ?_); rintro e w5 ⟨⟨S5, s5, rfl, hs5⟩, hb5⟩; have D5 := Lib.hid (bel_on hbel hb5); have R5 := Lib.hid hs5; have Y5 := Lib.hid (YX.out.below' hb5); clear hs5 hb5)
        | (refine wpList_load_row rfl 27 (.tmp 5) rfl (w.heap.size + 1) rfl 27 #[.slice X lx cx, .slice Z lz cz] (0, 0) _ Y5.out Tryz.underlying27 rfl (by kernel_rfl) ?_))
      go_at_call 133
      refine (HWI.out q' _ _ _ lp _ _ HLP.out (HBW.out _ D5.out) R5.out (TA3.out.below D5.out)).mono ?_
      rintro e w6 ⟨rfl, hb6⟩
      have D6 := Lib.hid (bel_on D5.out hb6)
      have R6 := Lib.hid (R5.out.below hb6)
      clear hb6
      cases hp : P q'
      · have HR0 := Lib.hid (HUQ.out hp)
        go_wp2_with fail
        go_ret
        exact ⟨by rw [← HR0.out]; rfl, HBW.out _ D6.out⟩
      · have HP := Lib.hid hp
        go_wp2_with fail
        go_roundw
        case rel => exact ⟨q', lp, s5, S5, by omega, by omega, rfl, rfl, HLP.out, R6.out, HP.out, D6.out⟩
        case measure => have hq7 := HQQ.out; clear e1; simp [intOf]; omega
    · obtain rfl : q = lo := by omega
      have := HLOW.out
      rw [HPQ.out] at this
      cases this
end Go.Proofs.YtenpkmgbaajeeaaGreat
