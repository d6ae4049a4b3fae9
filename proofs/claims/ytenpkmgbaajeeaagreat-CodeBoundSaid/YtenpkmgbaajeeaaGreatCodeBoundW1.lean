/-
  Lemmas and contracts, joined.
-/
import Derived.Lib.SmallJoins
import Derived.Test.YtenpkmgbaajeeaaGreatCn1
import Derived.Test.YtenpkmgbaajeeaaGreatCw1
import Derived.Test.YtenpkmgbaajeeaaGreatCp1
import Derived.Test.YtenpkmgbaajeeaaGreatCc1
import Derived.Test.YtenpkmgbaajeeaaGreatCa2
set_option linter.unusedSimpArgs false
set_option linter.unusedVariables false
set_option linter.unnecessarySimpa false
/- What the frames of the laws share: fractions among the arguments, opened. -/
namespace Go.Proofs.YtenpkmgbaajeeaaGreat
open Go.ChangeShapes Go.WideShapes Go.ChangeAt Go.RowKit
set_option linter.unusedVariables false

theorem cellsFrac : Tryz.prog.cellsOf 27 = 2 := by kernel_rfl
set_option maxRecDepth 100000 in
theorem open_frac {H : Type} {enc : TypeId × Value → H} {W : World} {b0 : Nat} {v : Value} {d : DataW H} {ps : List MemPlace} (hval : Value.okWide Tryz.prog W .any b0 27 v) (hd : DataW.Trod enc Tryz.prog W 0 (fun _ => true) true 27 v d ps)
    (hw : ∀ n ∈ d.weights Tryz.prog 27, n ≤ reachBytes) : ∃ A c x B e y, v = .agg #[.slice A (List.length x) c, .slice B (List.length y) e] ∧ NR W A c x ∧ NR W B e y := by
  obtain ⟨v0, v1, y0, y1, n, rfl, rfl, _, h0, h1⟩ := Go.Joins.open_agg2 Tryz.underlying27 (by kernel_rfl) cellsFrac hval hd
  have hw' : ∀ n ∈ DataW.weightsEach Tryz.prog [25, 25] [y0.1, y1.1], n ≤ reachBytes := by simpa [DataW.weights, Tryz.underlying27] using hw
  obtain ⟨A, c, x, e1, hx⟩ := nat_of_trod h0 (fun m hm => hw' m (DataW.weights_mem_each (j := 0) rfl rfl m hm))
  obtain ⟨B, e, y, e2, hy⟩ := nat_of_trod h1 (fun m hm => hw' m (DataW.weights_mem_each (j := 1) rfl rfl m hm))
  injection e1 with e1
  injection e2 with e2
  subst e1 e2
  exact ⟨A, c, x, B, e, y, rfl, hx, hy⟩
end Go.Proofs.YtenpkmgbaajeeaaGreat

/- What the frames of the laws share: a code of scores among the arguments, opened. -/
namespace Go.Proofs.YtenpkmgbaajeeaaGreat
open Go.ChangeShapes Go.WideShapes Go.ChangeAt Go.RowKit Go.Deep
set_option linter.unusedVariables false

theorem cells_key : Tryz.prog.cellsOf 23 = 16 := by kernel_rfl
theorem cells_scores : Tryz.prog.cellsOf 46 = 19 := by kernel_rfl
theorem cells_ints : Tryz.prog.cellsOf 38 = 1 := by kernel_rfl

/-- A code of scores, among cells. -/
theorem scores_of_trod {H : Type} {enc : TypeId × Value → H} {W : World} {fuel : Nat} {cs : List Value} {x : DataW H × List MemPlace} (h : DataW.trod enc Tryz.prog W 0 (fun _ => true) true fuel 46 cs = some x)
    (hw : ∀ n ∈ x.1.weights Tryz.prog 46, n ≤ reachBytes) : ∃ u b A c l k, cs = scC u b A (List.length l) c k ∧ IR W A c l ∧ k.length = 16 ∧ (-9223372036854775808 ≤ u ∧ u ≤ 9223372036854775807) ∧ (-9223372036854775808 ≤ b ∧ b ≤ 9223372036854775807) := by
  obtain ⟨y0, y1, y2, y3, n, rfl, hl, h0, h1, h2, h3⟩ := Go.Joins.trod_struct4 Tryz.underlying46 h
  have hw' : ∀ n ∈ DataW.weightsEach Tryz.prog [3, 3, 38, 23] [y0.1, y1.1, y2.1, y3.1], n ≤ reachBytes := by simpa [DataW.weights, Tryz.underlying46] using hw
  dsimp only at h0 h1 h2 h3
  rw [cells_int] at h0 h1
  rw [cells_ints] at h2
  rw [cells_key] at h3
  rw [cells_scores] at hl
  obtain ⟨u, e0, hu⟩ := int_of_trod h0
  obtain ⟨b, e1, hb⟩ := int_of_trod h1
  obtain ⟨A, c, l, e2, hI, _⟩ := ints_of_trod Tryz.underlying38 h2 (fun m hm => hw' m (DataW.weights_mem_each (j := 2) rfl rfl m hm))
  obtain ⟨k, hk, e3⟩ := key_of_trod h3
  refine ⟨u, b, A, c, l, k, ?_, hI, hk, hu, hb⟩
  match cs, hl with
  | c0 :: c1 :: c2 :: r, hl =>
    simp at e0 e1 e2
    have hr : r.length = 16 := by simpa using hl
    rw [show List.drop 3 (c0 :: c1 :: c2 :: r) = r from rfl, List.take_of_length_le (by omega)] at e3
    rw [e0, e1, e2, e3]
    rfl
set_option maxRecDepth 100000 in
theorem open_scores {H : Type} {enc : TypeId × Value → H} {W : World} {b0 : Nat} {v : Value} {d : DataW H} {ps : List MemPlace} (hval : Value.okWide Tryz.prog W .any b0 46 v) (hd : DataW.Trod enc Tryz.prog W 0 (fun _ => true) true 46 v d ps)
    (hw : ∀ n ∈ d.weights Tryz.prog 46, n ≤ reachBytes) : ∃ u b A c l k, v = .agg (scC u b A (List.length l) c k).toArray ∧ IR W A c l ∧ k.length = 16 ∧ (-9223372036854775808 ≤ u ∧ u ≤ 9223372036854775807) ∧ (-9223372036854775808 ≤ b ∧ b ≤ 9223372036854775807) := by
  obtain ⟨cs, rfl, hsz⟩ := okWide_struct Tryz.underlying46 hval
  obtain ⟨fuel, hf⟩ := hd
  obtain ⟨u, b, A, c, l, k, e, h1, h2, h3, h4⟩ := scores_of_trod hf hw
  refine ⟨u, b, A, c, l, k, ?_, h1, h2, h3, h4⟩
  rw [← e]
  simp [Value.cells]
end Go.Proofs.YtenpkmgbaajeeaaGreat

/- Whether a code of steps is complete: the reference's, and both for any code. -/
namespace Go.Proofs.YtenpkmgbaajeeaaGreat
open Go.RowKit
set_option linter.unusedVariables false
set_option linter.unusedSimpArgs false

def thL (t : Nat → Int) (n : Nat) : List Int := (List.range n).map t
theorem thL_length (t : Nat → Int) (n : Nat) : (thL t n).length = n := by simp [thL]
theorem thL_succ (t : Nat → Int) (n : Nat) : thL t (n + 1) = thL t n ++ [t n] := by simp [thL, List.range_succ]
theorem thL_it {t : Nat → Int} {n i : Nat} (h : i < n) : it (thL t n) i = t i := by rw [it_in (by rw [thL_length]; exact h)]; simp [thL]
theorem mayS_or {d : Nat} {t : Nat → Int} {j v x : Nat} : (decide (∃ u, u < v ∧ mayS d t j u = true ∧ t (u + x) < (u : Int)) || (mayS d t j v && decide (t (v + x) < (v : Int)))) = decide (∃ u, u < v + 1 ∧ mayS d t j u = true ∧ t (u + x) < (u : Int)) := by
  rw [Bool.eq_iff_iff, Bool.or_eq_true, Bool.and_eq_true, decide_eq_true_eq, decide_eq_true_eq, decide_eq_true_eq]
  constructor
  · rintro (⟨u, h1, h2, h3⟩ | ⟨h1, h2⟩)
    · exact ⟨u, by omega, h2, h3⟩
    · exact ⟨v, by omega, h1, h2⟩
  · rintro ⟨u, h1, h2, h3⟩
    by_cases e : u = v
    · subst e; exact .inr ⟨h2, h3⟩
    · exact .inl ⟨u, by omega, h2, h3⟩
theorem mayS_fin {d : Nat} {t : Nat → Int} {j x : Nat} : decide (∃ u, u < d + 1 ∧ mayS d t j u = true ∧ t (u + x) < (u : Int)) = mayS d t (j + 1) x := by
  rw [mayS, decide_eq_decide]
  constructor
  · rintro ⟨v, hv, h1, h3⟩; exact ⟨v, by omega, h1, h3⟩
  · rintro ⟨v, hv, h1, h3⟩; exact ⟨v, by omega, h1, h3⟩
/-- What the next block may weigh, the first v weights of this one looked at. -/
def nextQ (d : Nat) (t : Nat → Int) (j v x : Nat) : Bool := decide (∃ u, u < v ∧ mayS d t j u = true ∧ t (u + x) < (u : Int))
end Go.Proofs.YtenpkmgbaajeeaaGreat

/- The law CodeTails: the walk. -/
namespace Go.Proofs.YtenpkmgbaajeeaaGreat
open Go.RowKit
set_option linter.unusedVariables false
set_option linter.unusedSimpArgs false

theorem frac2_open_ {W w' : World} {e : Ending} {r : (List Nat × List Nat) × Int} (h : Frac2 W w' e r) : ∃ X x Z z, e = .returned (.tuple #[.agg #[.slice X r.1.1.length x, .slice Z r.1.2.length z], .int .i64 r.2]) ∧ NR w' X x r.1.1 ∧ NR w' Z z r.1.2 ∧ Below W.heap.size W w' := by
  obtain ⟨v, rfl, X, x, Z, z, rfl, h1, h2, _, hb⟩ := h
  exact ⟨X, x, Z, z, rfl, h1.nr_, h2.nr_, hb⟩
set_option maxHeartbeats 8000000 in
set_option maxRecDepth 100000 in
theorem Complete_any (s : StV) (w : World) (h : StOK w s) :
    Calls Tryz.prog 61 #[.agg s.cs.toArray] w fun e w' => e = .returned (.tuple #[.bool (cmpSt s).1, .int .i64 (cmpSt s).2]) ∧ Below w.heap.size w w' := by
  cases hok : s.ok with
  | true =>
    have := complete_good s w h hok
    unfold cmpSt
    rw [hok]
    exact this
  | false =>
    have HCK : Hid (∀ W, Below w.heap.size w W → Calls Tryz.prog 21 #[.agg s.cs.toArray] W fun e w' => e = .returned (.int .i64 (ckSt s.ok)) ∧ Below W.heap.size W w') := fun W hW => CheckSteps_any s W (h.below hW)
    have hks := h.k16
    obtain ⟨W0, hW0⟩ : ∃ W : World, W = w.alloc (.cells s.cs.toArray 29) := ⟨_, rfl⟩
    have b0 : Hid (Below w.heap.size w W0) := by unfold Hid; rw [hW0]; exact alloc_below _ _
    have x0 : Hid (Blk W0 w.heap.size 29 s.cs.toArray) := by unfold Hid; rw [hW0]; exact Blk.new w _ _
    have HW0 := Lib.hid hW0
    have HIN := Lib.hid (StV.info (s := s) hks)
    have HS : Hid (cmpSt s = (false, 70)) := by unfold Hid cmpSt; rw [hok]; rfl
    rw [hok] at HCK
    rw [HS.out]
    generalize s.cs.toArray = cs at *
    clear hW0 h hks hok
    go_enter Tryz.func61, Tryz.ntmps61
    go_wp2_with (first
      | (rw [← HW0.out])
      | (refine wpList_load_row rfl 29 (.tmp 1) rfl (w.heap.size) rfl 29 cs (0, 0) _ x0.out Tryz.underlying29 rfl HIN.out ?_)
      | (go_at_call 21; (with_reducible refine (HCK.out _ b0.out).mono ?_); rintro e w1 ⟨rfl, hb⟩; have D1 := Lib.hid (bel_on b0.out hb); clear hb; simp only [ckSt]))
    go_ret2
    exact ⟨rfl, D1.out⟩
end Go.Proofs.YtenpkmgbaajeeaaGreat

/- The law CodeBound: the walk. -/
namespace Go.Proofs.YtenpkmgbaajeeaaGreat
open Go.RowKit
set_option linter.unusedVariables false
set_option linter.unusedSimpArgs false

theorem srch_le_ (b : Int) (l : List Int) (y : List UInt8) (n : Nat) (z : Int) : srch b l y n z ≤ sall b l n := reach_all _ _ _ _ n z
theorem bnd_range {b : Int} {l : List Int} {y : List UInt8} {n num den : Nat} (h1 : -2048 ≤ slow b l y n) (h2 : shigh b l y n ≤ 2048) : -2048 ≤ sbnd b l y n num den ∧ sbnd b l y n num den ≤ 2049 := by
  have h3 := low_high (gA b l y) (gB b l y) n
  unfold sbnd bndN
  have hle := lead_le (fun j => !inLim (gA b l y) (gB b l y) (cA b l) (cB l) n num den (lowT (gA b l y) (gB b l y) n + 1 + (j : Int))) (highT (gA b l y) (gB b l y) n - lowT (gA b l y) (gB b l y) n).toNat
  unfold slow at h1
  unfold shigh at h2
  omega
theorem chance_ok {u b : Int} {l : List Int} {y : List UInt8} (h : ckSC u b l y = 0) (z : Int) : chanceS u b l y z = (lowS (srch b l y l.length z) (sall b l l.length), 0) := by unfold chanceS; rw [if_pos h]
/-- The chances of the bound and of the number below it, against the limit. -/
theorem bound_cmp {u b : Int} {l : List Int} {y : List UInt8} {x z : List Nat} (h : ckSC u b l y = 0) (hl : limB x z = true) (q : Int) :
    cmpFS (lowS (srch b l y l.length q) (sall b l l.length)).1 (lowS (srch b l y l.length q) (sall b l l.length)).2 x z = (cmpN (srch b l y l.length q * val z) (val x * sall b l l.length), 0) ∧ (cmpN (srch b l y l.length q * val z) (val x * sall b l l.length) ≤ 0 ↔ slim b l y l.length (val x) (val z) q = true) := by
  obtain ⟨hv, _⟩ := ckSC_zero h
  obtain ⟨r1, r2, r3, r4⟩ := score_range (y := y) hv
  obtain ⟨hvf, _⟩ := limB_iff.1 hl
  refine ⟨low_cmp (by omega) (sm_allS (Nat.le_trans (srch_le_ b l y _ q) r3)) (sm_allS r3) hvf, ?_⟩
  rw [cmpN_le0]
  unfold slim
  rw [decide_eq_true_eq]
theorem chance_cmp {u b : Int} {l : List Int} {y : List UInt8} (h : ckSC u b l y = 0) (q : Int) :
    cmpFS (lowS (srch b l y l.length q) (sall b l l.length)).1 (lowS (srch b l y l.length q) (sall b l l.length)).2 (lowS (srch b l y l.length (q + 1)) (sall b l l.length)).1 (lowS (srch b l y l.length (q + 1)) (sall b l l.length)).2 = (cmpN (srch b l y l.length q * sall b l l.length) (srch b l y l.length (q + 1) * sall b l l.length), 0) ∧ 0 ≤ cmpN (srch b l y l.length q * sall b l l.length) (srch b l y l.length (q + 1) * sall b l l.length) := by
  obtain ⟨hv, _⟩ := ckSC_zero h
  obtain ⟨r1, r2, r3, r4⟩ := score_range (y := y) hv
  have s1 := sm_allS (Nat.le_trans (srch_le_ b l y _ q) r3)
  have s2 := sm_allS (Nat.le_trans (srch_le_ b l y _ (q + 1)) r3)
  refine ⟨low_cmp2 (by omega) (by omega) s1 (sm_allS r3) s2 (sm_allS r3), cmpN_ge0.2 (Nat.mul_le_mul_right _ ?_)⟩
  have : srch b l y l.length q = srch b l y l.length (q + 1) + scnt b l y l.length q := reach_step _ _ _ _ _ q
  omega
set_option maxHeartbeats 16000000 in
set_option maxRecDepth 100000 in
theorem codeBound_walk0 (u b : Int) (A : Option Addr) (c : Nat) (l : List Int) (k : List UInt8) (Y : Option Addr) (d : Nat) (y : List UInt8) (X : Option Addr) (cx : Nat) (x : List Nat) (Z : Option Addr) (cz : Nat) (z : List Nat) (zz : Int) (w0 : World) (h0 : IR w0 A c l) (hk : k.length = 16) (hy0 : BR w0 Y d y) (hx0 : NR w0 X cx x) (hz0 : NR w0 Z cz z) (hzz1 : -9223372036854775808 ≤ zz) (hzz2 : zz ≤ 9223372036854775807) :
    Calls Tryz.prog 12 #[.agg (scC u b A l.length c k).toArray, .slice Y y.length d, .agg #[.slice X x.length cx, .slice Z z.length cz], .int .i64 zz] w0 fun e w' => e = .returned (.bool true) ∧ Below w0.heap.size w0 w' := by
  obtain ⟨n, hn⟩ : ∃ n, l.length = n := ⟨_, rfl⟩
  obtain ⟨ny, hyl⟩ : ∃ n, y.length = n := ⟨_, rfl⟩
  obtain ⟨lx, hlx⟩ : ∃ n, x.length = n := ⟨_, rfl⟩
  obtain ⟨lz, hlz⟩ : ∃ n, z.length = n := ⟨_, rfl⟩
  rw [hn, hyl, hlx, hlz]
  have hlen : (n : Int) ≤ 140737488351232 := by have := h0.len; omega
  obtain ⟨w, hW0⟩ : ∃ W : World, W = (w0.alloc (.cells (scC u b A n c k).toArray 46)).alloc (.cells #[.slice X lx cx, .slice Z lz cz] 27) := ⟨_, rfl⟩
  have b0 : Hid (Below w0.heap.size w0 w) := by unfold Hid; rw [hW0]; exact alloc2_bel _ _ _
  have HXS : Hid (∀ W, Below w.heap.size w W → Blk W w0.heap.size 46 (scC u b A n c k).toArray) := fun W hW => Blk.below' (by rw [hW0]; exact blk_b0 w0 _ _ _) hW
  have HXL : Hid (∀ W, Below w.heap.size w W → Blk W (w0.heap.size + 1) 27 #[.slice X lx cx, .slice Z lz cz]) := fun W hW => Blk.below' (by rw [hW0]; exact blk_b1 w0 _ _ _) hW
  have HW0 := Lib.hid hW0
  have HIN : Hid ((Tryz.prog.info? 46).map (·.size) = some (scC u b A n c k).toArray.size) := scC_info u b A n c k hk
  have h := h0.below b0.out
  have hy := hy0.below b0.out
  have K0 : Hid (Below w.heap.size w w) := Below.refl _ _
  have hx := hx0.below b0.out
  have hz := hz0.below b0.out
  have HBD : Hid (∀ W, Below w.heap.size w W → Calls Tryz.prog 31 #[.agg (scC u b A n c k).toArray, .slice Y ny d, .agg #[.slice X lx cx, .slice Z lz cz]] W fun e w' => e = .returned (.tuple #[.int .i64 (boundS u b l y x z).1, .int .i64 (boundS u b l y x z).2]) ∧ Below W.heap.size W w') := fun W hW => Bound_any u b A c l k Y d y X cx x Z cz z W hn hyl hlx hlz (h.below hW) (hy.below hW) hk (hx.below hW) (hz.below hW)
  have HVS : Hid (∀ W, Below w.heap.size w W → Calls Tryz.prog 46 #[.agg (scC u b A n c k).toArray] W fun e w' => e = .returned (.bool (scoresB u b l)) ∧ Below W.heap.size W w') := fun W hW => refValidScores_any u b A c l k W hn (h.below hW)
  have HCP : Hid (∀ W, Below w.heap.size w W → Calls Tryz.prog 44 #[.slice Y ny d, .int .i64 (n : Int)] W fun e w' => e = .returned (.bool (copyB y n)) ∧ W = w') := fun W hW => refIsCopy_any Y d y n W hyl (hy.below hW) (by omega)
  have HLI : Hid (∀ W, Below w.heap.size w W → Calls Tryz.prog 56 #[.agg #[.slice X lx cx, .slice Z lz cz]] W fun e w' => e = .returned (.bool (limB x z)) ∧ Below W.heap.size W w') := fun W hW => refIsLimit_any X cx x Z cz z W hlx hlz (hx.below hW) (hz.below hW)
  by_cases hgood : scoresB u b l = true ∧ copyB y n = true ∧ limB x z = true
  · obtain ⟨hv, hc, hl⟩ := hgood
    have he : ckSC u b l y = 0 := ckSC_ok hv (by rw [hn]; exact hc)
    obtain ⟨r1, r2, r3, r4⟩ := score_range (y := y) hv
    have eb : boundS u b l y x z = (sbnd b l y l.length (val x) (val z), 0) := by unfold boundS; rw [if_pos he, if_pos hl]
    have hbr := bnd_range (b := b) (l := l) (y := y) (n := l.length) (num := val x) (den := val z) r1 r2
    obtain ⟨-, -, -, -, hlt⟩ := limB_sm hl
    have s1 : slim b l y l.length (val x) (val z) (sbnd b l y l.length (val x) (val z)) = true := bnd_in _ _ _ _ _ _ _
    have s2 : slim b l y l.length (val x) (val z) (sbnd b l y l.length (val x) (val z) - 1) = false := bnd_out _ _ _ _ hlt r4
    rw [eb] at HBD
    rw [hv] at HVS
    rw [hc] at HCP
    rw [hl] at HLI
    obtain ⟨bd, hbd⟩ : ∃ q, sbnd b l y l.length (val x) (val z) = q := ⟨_, rfl⟩
    rw [hbd] at HBD hbr s1 s2
    obtain ⟨v1, v2⟩ := bound_cmp he hl bd
    obtain ⟨v3, v4⟩ := bound_cmp he hl (bd - 1)
    obtain ⟨v5, v6⟩ := chance_cmp he zz
    have m1 := v2.2 s1
    have m2 : 0 < (cmpN (srch b l y l.length (bd - 1) * val z) (val x * sall b l l.length)) := by
      rcases Int.lt_or_le 0 (cmpN (srch b l y l.length (bd - 1) * val z) (val x * sall b l l.length)) with g | g
      · exact g
      · rw [v4.1 g] at s2; cases s2
    have HCH : Hid (∀ (q : Int) W, Below w.heap.size w W → Calls Tryz.prog 28 #[.agg (scC u b A n c k).toArray, .slice Y ny d, .int .i64 q] W fun e w' => ∃ X x' Z z, e = .returned (.tuple #[.agg #[.slice X (lowS (srch b l y l.length q) (sall b l l.length)).1.length x', .slice Z (lowS (srch b l y l.length q) (sall b l l.length)).2.length z], .int .i64 0]) ∧ NR w' X x' (lowS (srch b l y l.length q) (sall b l l.length)).1 ∧ NR w' Z z (lowS (srch b l y l.length q) (sall b l l.length)).2 ∧ Below W.heap.size W w') := fun q W hW => (Chance_any u b A c l k Y d y q W hn hyl (h.below hW) (hy.below hW) hk).mono fun e w' hq => by
      rw [chance_ok he] at hq
      exact frac2_open_ hq
    have HCM1 : Hid (∀ W A1 a1 B1 b1, Below w.heap.size w W → NR W A1 a1 (lowS (srch b l y l.length bd) (sall b l l.length)).1 → NR W B1 b1 (lowS (srch b l y l.length bd) (sall b l l.length)).2 → Calls Tryz.prog 54 #[.agg #[.slice A1 (lowS (srch b l y l.length bd) (sall b l l.length)).1.length a1, .slice B1 (lowS (srch b l y l.length bd) (sall b l l.length)).2.length b1], .agg #[.slice X lx cx, .slice Z lz cz]] W fun e w' => e = .returned (.tuple #[.int .i64 (cmpN (srch b l y l.length bd * val z) (val x * sall b l l.length)), .int .i64 0]) ∧ Below W.heap.size W w') := fun W A1 a1 B1 b1 hW g1 g2 => (CompareFractions_any A1 a1 _ B1 b1 _ X cx x Z cz z W rfl rfl hlx hlz g1 g2 (hx.below hW) (hz.below hW)).mono fun e w' hq => by
      rw [v1] at hq
      exact hq
    have HCM2 : Hid (∀ W A1 a1 B1 b1, Below w.heap.size w W → NR W A1 a1 (lowS (srch b l y l.length (bd - 1)) (sall b l l.length)).1 → NR W B1 b1 (lowS (srch b l y l.length (bd - 1)) (sall b l l.length)).2 → Calls Tryz.prog 54 #[.agg #[.slice A1 (lowS (srch b l y l.length (bd - 1)) (sall b l l.length)).1.length a1, .slice B1 (lowS (srch b l y l.length (bd - 1)) (sall b l l.length)).2.length b1], .agg #[.slice X lx cx, .slice Z lz cz]] W fun e w' => e = .returned (.tuple #[.int .i64 (cmpN (srch b l y l.length (bd - 1) * val z) (val x * sall b l l.length)), .int .i64 0]) ∧ Below W.heap.size W w') := fun W A1 a1 B1 b1 hW g1 g2 => (CompareFractions_any A1 a1 _ B1 b1 _ X cx x Z cz z W rfl rfl hlx hlz g1 g2 (hx.below hW) (hz.below hW)).mono fun e w' hq => by
      rw [v3] at hq
      exact hq
    have HCM3 : Hid (∀ W A1 a1 B1 b1 C1 e1 D1 d1, NR W A1 a1 (lowS (srch b l y l.length zz) (sall b l l.length)).1 → NR W B1 b1 (lowS (srch b l y l.length zz) (sall b l l.length)).2 → NR W C1 e1 (lowS (srch b l y l.length (zz + 1)) (sall b l l.length)).1 → NR W D1 d1 (lowS (srch b l y l.length (zz + 1)) (sall b l l.length)).2 → Calls Tryz.prog 54 #[.agg #[.slice A1 (lowS (srch b l y l.length zz) (sall b l l.length)).1.length a1, .slice B1 (lowS (srch b l y l.length zz) (sall b l l.length)).2.length b1], .agg #[.slice C1 (lowS (srch b l y l.length (zz + 1)) (sall b l l.length)).1.length e1, .slice D1 (lowS (srch b l y l.length (zz + 1)) (sall b l l.length)).2.length d1]] W fun e w' => e = .returned (.tuple #[.int .i64 (cmpN (srch b l y l.length zz * sall b l l.length) (srch b l y l.length (zz + 1) * sall b l l.length)), .int .i64 0]) ∧ Below W.heap.size W w') := fun W A1 a1 B1 b1 C1 e1 D1 d1 g1 g2 g3 g4 => (CompareFractions_any A1 a1 _ B1 b1 _ C1 e1 _ D1 d1 _ W rfl rfl rfl rfl g1 g2 g3 g4).mono fun e w' hq => by
      rw [v5] at hq
      exact hq
    have HCH1 := Lib.hid (HCH.out (bd - 1))
    have HCH2 := Lib.hid (HCH.out zz)
    have HCH3 := Lib.hid (HCH.out (zz + 1))
    have HCH0 := Lib.hid (HCH.out bd)
    obtain ⟨z1, hz1⟩ : ∃ q, (cmpN (srch b l y l.length bd * val z) (val x * sall b l l.length)) = q := ⟨_, rfl⟩
    obtain ⟨z2, hz2⟩ : ∃ q, (cmpN (srch b l y l.length (bd - 1) * val z) (val x * sall b l l.length)) = q := ⟨_, rfl⟩
    obtain ⟨z3, hz3⟩ : ∃ q, (cmpN (srch b l y l.length zz * sall b l l.length) (srch b l y l.length (zz + 1) * sall b l l.length)) = q := ⟨_, rfl⟩
    rw [hz1] at HCM1 m1
    rw [hz2] at HCM2 m2
    rw [hz3] at HCM3 v6
    obtain ⟨hbr1, hbr2⟩ := hbr
    clear HCH v1 v2 v3 v4 v5 s1 s2 hz1 hz2 hz3 hlt hbd eb r1 r2 r3 r4 he hv hc hl hn hyl hlx hlz h hy hx hz h0 hy0 hx0 hz0 hk hW0
    generalize (lowS (srch b l y l.length bd) (sall b l l.length)) = l1 at *
    generalize (lowS (srch b l y l.length (bd - 1)) (sall b l l.length)) = l2 at *
    generalize (lowS (srch b l y l.length zz) (sall b l l.length)) = l3 at *
    generalize (lowS (srch b l y l.length (zz + 1)) (sall b l l.length)) = l4 at *
    obtain ⟨l1a, l1b⟩ := l1
    obtain ⟨l2a, l2b⟩ := l2
    obtain ⟨l3a, l3b⟩ := l3
    obtain ⟨l4a, l4b⟩ := l4
    dsimp only at *
    generalize l1a.length = p1a at *
    generalize l1b.length = p1b at *
    generalize l2a.length = p2a at *
    generalize l2b.length = p2b at *
    generalize l3a.length = p3a at *
    generalize l3b.length = p3b at *
    generalize l4a.length = p4a at *
    generalize l4b.length = p4b at *
    have nm1 : ¬ (0 < z1) := by omega
    have nm2 : ¬ (z2 ≤ 0) := by omega
    go_enter Tryz.func12, Tryz.ntmps12
    go_wp2_with (rw [← HW0.out])
    refine (alive_any _).mono ?_
    rintro e w1 ⟨rfl, hb1⟩
    have K1 : Hid (Below w.heap.size w w1) := bel_on K0.out hb1
    clear hb1
    go_wp2_with (first | (refine wpList_load_row rfl 46 (.tmp 4) rfl w0.heap.size rfl 46 (scC u b A n c k).toArray (0, 0) _ (HXS.out _ K1.out) Tryz.underlying46 rfl HIN.out ?_) | (refine wpList_load_row rfl 27 (.tmp 6) rfl (w0.heap.size + 1) rfl 27 #[.slice X lx cx, .slice Z lz cz] (0, 0) _ (HXL.out _ K1.out) Tryz.underlying27 rfl (by kernel_rfl) ?_))
    refine (HBD.out _ K1.out).mono ?_
    rintro e w2 ⟨rfl, hb2⟩
    have K2 : Hid (Below w.heap.size w w2) := bel_on K1.out hb2
    clear hb2
    go_wp2_with (refine wpList_load_row rfl 46 (.tmp 4) rfl w0.heap.size rfl 46 (scC u b A n c k).toArray (0, 0) _ (HXS.out _ K2.out) Tryz.underlying46 rfl HIN.out ?_)
    refine (HVS.out _ K2.out).mono ?_
    rintro e w3 ⟨rfl, hb3⟩
    have K3 : Hid (Below w.heap.size w w3) := bel_on K2.out hb3
    have c2 : w3.cell? ⟨w0.heap.size, 2, none⟩ = some (.slice A n c) := (HXS.out _ K3.out).cell 2
    clear hb3
    go_wp2_with fail
    refine (HCP.out _ K3.out).mono ?_
    rintro e w4 ⟨rfl, rfl⟩
    clear c2
    have l0 := (HXL.out _ K3.out).cell 0
    have l1 := (HXL.out _ K3.out).cell 1
    go_wp2_with fail
    clear l0 l1
    refine (HLI.out _ K3.out).mono ?_
    rintro e w5 ⟨rfl, hb5⟩
    have K5 : Hid (Below w.heap.size w w5) := bel_on K3.out hb5
    clear hb5
    go_wp2_with (refine wpList_load_row rfl 46 (.tmp 4) rfl w0.heap.size rfl 46 (scC u b A n c k).toArray (0, 0) _ (HXS.out _ K5.out) Tryz.underlying46 rfl HIN.out ?_)
    refine (HCH0.out _ K5.out).mono ?_
    rintro e w6 ⟨X6, x6, Z6, z6, rfl, gx6, gz6, hb6⟩
    obtain ⟨w6b, hw6⟩ : ∃ W, W = w6.alloc (.cells #[.slice X6 p1a x6, .slice Z6 p1b z6] 27) := ⟨_, rfl⟩
    have d6 : Below w6.heap.size w6 w6b := by rw [hw6]; exact alloc_bel _ _
    have hbb6 := bel_on hb6 d6
    have K6 : Hid (Below w.heap.size w w6b) := bel_on K5.out hbb6
    have T6 : Hid (Blk w6b w6.heap.size 27 #[.slice X6 p1a x6, .slice Z6 p1b z6]) := by unfold Hid; rw [hw6]; exact Blk.new _ _ _
    have GX6 := Lib.hid (gx6.below d6)
    have GZ6 := Lib.hid (gz6.below d6)
    have HW6 := Lib.hid hw6
    clear hw6 d6 hbb6 hb6 gx6 gz6
    go_wp2_with (first | (rw [← HW6.out]) | (refine wpList_load_row rfl 46 (.tmp 4) rfl w0.heap.size rfl 46 (scC u b A n c k).toArray (0, 0) _ (HXS.out _ K6.out) Tryz.underlying46 rfl HIN.out ?_))
    refine (HCH1.out _ K6.out).mono ?_
    rintro e w7 ⟨X7, x7, Z7, z7, rfl, gx7, gz7, hb7⟩
    obtain ⟨w7b, hw7⟩ : ∃ W, W = w7.alloc (.cells #[.slice X7 p2a x7, .slice Z7 p2b z7] 27) := ⟨_, rfl⟩
    have d7 : Below w7.heap.size w7 w7b := by rw [hw7]; exact alloc_bel _ _
    have hbb7 := bel_on hb7 d7
    have K7 : Hid (Below w.heap.size w w7b) := bel_on K6.out hbb7
    have T7 : Hid (Blk w7b w7.heap.size 27 #[.slice X7 p2a x7, .slice Z7 p2b z7]) := by unfold Hid; rw [hw7]; exact Blk.new _ _ _
    have GX7 := Lib.hid (gx7.below d7)
    have GZ7 := Lib.hid (gz7.below d7)
    have T6b := Lib.hid (T6.out.below' hbb7)
    have GX6b := Lib.hid (GX6.out.below hbb7)
    have GZ6b := Lib.hid (GZ6.out.below hbb7)
    have HW7 := Lib.hid hw7
    clear hw7 d7 hbb7 hb7 gx7 gz7
    have q0 := T6b.out.cell 0
    have q1 := T6b.out.cell 1
    go_wp2_with (first | (rw [← HW7.out]) | (refine wpList_load_row rfl 27 (.tmp 6) rfl (w0.heap.size + 1) rfl 27 #[.slice X lx cx, .slice Z lz cz] (0, 0) _ (HXL.out _ K7.out) Tryz.underlying27 rfl (by kernel_rfl) ?_))
    refine (HCM1.out _ _ _ _ _ K7.out GX6b.out GZ6b.out).mono ?_
    rintro e w8 ⟨rfl, hb8⟩
    have K8 : Hid (Below w.heap.size w w8) := bel_on K7.out hb8
    have T7b := Lib.hid (T7.out.below' hb8)
    have GX7b := Lib.hid (GX7.out.below hb8)
    have GZ7b := Lib.hid (GZ7.out.below hb8)
    have q2 := T7b.out.cell 0
    have q3 := T7b.out.cell 1
    clear hb8 q0 q1
    go_wp2_with (refine wpList_load_row rfl 27 (.tmp 6) rfl (w0.heap.size + 1) rfl 27 #[.slice X lx cx, .slice Z lz cz] (0, 0) _ (HXL.out _ K8.out) Tryz.underlying27 rfl (by kernel_rfl) ?_)
    refine (HCM2.out _ _ _ _ _ K8.out GX7b.out GZ7b.out).mono ?_
    rintro e w9 ⟨rfl, hb9⟩
    have K9 : Hid (Below w.heap.size w w9) := bel_on K8.out hb9
    clear hb9 q2 q3
    by_cases hzb : zz > 1152921504606846976 ∨ zz < -1152921504606846976
    · by_cases hzb1 : zz > 1152921504606846976
      · go_wp2_with fail
        go_ret
        exact ⟨by simp, bel_on b0.out K9.out⟩
      · have hzb2 : zz < -1152921504606846976 := by omega
        go_wp2_with fail
        go_ret
        exact ⟨by simp, bel_on b0.out K9.out⟩
    · have hzb1 : ¬ (1152921504606846976 < zz) := by omega
      have hzb2 : ¬ (zz < -1152921504606846976) := by omega
      have hzb3 : zz ≤ 1152921504606846976 := by omega
      have hzb4 : -1152921504606846976 ≤ zz := by omega
      clear hzb
      go_wp2_with (refine wpList_load_row rfl 46 (.tmp 4) rfl w0.heap.size rfl 46 (scC u b A n c k).toArray (0, 0) _ (HXS.out _ K9.out) Tryz.underlying46 rfl HIN.out ?_)
      refine (HCH2.out _ K9.out).mono ?_
      rintro e w10 ⟨X10, x10, Z10, z10, rfl, gx10, gz10, hb10⟩
      obtain ⟨w10b, hw10⟩ : ∃ W, W = w10.alloc (.cells #[.slice X10 p3a x10, .slice Z10 p3b z10] 27) := ⟨_, rfl⟩
      have d10 : Below w10.heap.size w10 w10b := by rw [hw10]; exact alloc_bel _ _
      have hbb10 := bel_on hb10 d10
      have K10 : Hid (Below w.heap.size w w10b) := bel_on K9.out hbb10
      have T10 : Hid (Blk w10b w10.heap.size 27 #[.slice X10 p3a x10, .slice Z10 p3b z10]) := by unfold Hid; rw [hw10]; exact Blk.new _ _ _
      have GX10 := Lib.hid (gx10.below d10)
      have GZ10 := Lib.hid (gz10.below d10)
      have HW10 := Lib.hid hw10
      clear hw10 d10 hbb10 hb10 gx10 gz10
      go_wp2_with (first | (rw [← HW10.out]) | (refine wpList_load_row rfl 46 (.tmp 4) rfl w0.heap.size rfl 46 (scC u b A n c k).toArray (0, 0) _ (HXS.out _ K10.out) Tryz.underlying46 rfl HIN.out ?_))
      refine (HCH3.out _ K10.out).mono ?_
      rintro e w11 ⟨X11, x11, Z11, z11, rfl, gx11, gz11, hb11⟩
      obtain ⟨w11b, hw11⟩ : ∃ W, W = w11.alloc (.cells #[.slice X11 p4a x11, .slice Z11 p4b z11] 27) := ⟨_, rfl⟩
      have d11 : Below w11.heap.size w11 w11b := by rw [hw11]; exact alloc_bel _ _
      have hbb11 := bel_on hb11 d11
      have K11 : Hid (Below w.heap.size w w11b) := bel_on K10.out hbb11
      have T11 : Hid (Blk w11b w11.heap.size 27 #[.slice X11 p4a x11, .slice Z11 p4b z11]) := by unfold Hid; rw [hw11]; exact Blk.new _ _ _
      have GX11 := Lib.hid (gx11.below d11)
      have GZ11 := Lib.hid (gz11.below d11)
      have T10b := Lib.hid (T10.out.below' hbb11)
      have GX10b := Lib.hid (GX10.out.below hbb11)
      have GZ10b := Lib.hid (GZ10.out.below hbb11)
      have HW11 := Lib.hid hw11
      clear hw11 d11 hbb11 hb11 gx11 gz11
      have q0 := T10b.out.cell 0
      have q1 := T10b.out.cell 1
      have q2 := T11.out.cell 0
      have q3 := T11.out.cell 1
      go_wp2_with (rw [← HW11.out])
      refine (HCM3.out _ _ _ _ _ _ _ _ _ GX10b.out GZ10b.out GX11.out GZ11.out).mono ?_
      rintro e w12 ⟨rfl, hb12⟩
      have K12 : Hid (Below w.heap.size w w12) := bel_on K11.out hb12
      clear hb12 q0 q1 q2 q3
      go_wp2_with fail
      go_ret
      exact ⟨by simp, bel_on b0.out K12.out⟩
  · cases hv : scoresB u b l
    · have eb : boundS u b l y x z = (0, 70) := by unfold boundS; rw [ckSC_bad hv]; rfl
      rw [eb] at HBD
      rw [hv] at HVS
      clear eb hn hyl hlx hlz h hy hx hz h0 hy0 hx0 hz0 hk hW0 hgood
      go_enter Tryz.func12, Tryz.ntmps12
      go_wp2_with (rw [← HW0.out])
      refine (alive_any _).mono ?_
      rintro e w1 ⟨rfl, hb1⟩
      have K1 : Hid (Below w.heap.size w w1) := bel_on K0.out hb1
      clear hb1
      go_wp2_with (first | (refine wpList_load_row rfl 46 (.tmp 4) rfl w0.heap.size rfl 46 (scC u b A n c k).toArray (0, 0) _ (HXS.out _ K1.out) Tryz.underlying46 rfl HIN.out ?_) | (refine wpList_load_row rfl 27 (.tmp 6) rfl (w0.heap.size + 1) rfl 27 #[.slice X lx cx, .slice Z lz cz] (0, 0) _ (HXL.out _ K1.out) Tryz.underlying27 rfl (by kernel_rfl) ?_))
      refine (HBD.out _ K1.out).mono ?_
      rintro e w2 ⟨rfl, hb2⟩
      have K2 : Hid (Below w.heap.size w w2) := bel_on K1.out hb2
      clear hb2
      go_wp2_with (refine wpList_load_row rfl 46 (.tmp 4) rfl w0.heap.size rfl 46 (scC u b A n c k).toArray (0, 0) _ (HXS.out _ K2.out) Tryz.underlying46 rfl HIN.out ?_)
      refine (HVS.out _ K2.out).mono ?_
      rintro e w3 ⟨rfl, hb3⟩
      have K3 : Hid (Below w.heap.size w w3) := bel_on K2.out hb3
      have c2 : w3.cell? ⟨w0.heap.size, 2, none⟩ = some (.slice A n c) := (HXS.out _ K3.out).cell 2
      clear hb3
      go_wp2_with fail
      go_ret
      exact ⟨by simp, bel_on b0.out K3.out⟩
    · cases hc : copyB y n
      · have eb : boundS u b l y x z = (0, 71) := by unfold boundS; rw [ckSC_copy hv (by rw [hn]; exact hc)]; rfl
        rw [eb] at HBD
        rw [hv] at HVS
        rw [hc] at HCP
        clear eb hn hyl hlx hlz h hy hx hz h0 hy0 hx0 hz0 hk hW0 hgood
        go_enter Tryz.func12, Tryz.ntmps12
        go_wp2_with (rw [← HW0.out])
        refine (alive_any _).mono ?_
        rintro e w1 ⟨rfl, hb1⟩
        have K1 : Hid (Below w.heap.size w w1) := bel_on K0.out hb1
        clear hb1
        go_wp2_with (first | (refine wpList_load_row rfl 46 (.tmp 4) rfl w0.heap.size rfl 46 (scC u b A n c k).toArray (0, 0) _ (HXS.out _ K1.out) Tryz.underlying46 rfl HIN.out ?_) | (refine wpList_load_row rfl 27 (.tmp 6) rfl (w0.heap.size + 1) rfl 27 #[.slice X lx cx, .slice Z lz cz] (0, 0) _ (HXL.out _ K1.out) Tryz.underlying27 rfl (by kernel_rfl) ?_))
        refine (HBD.out _ K1.out).mono ?_
        rintro e w2 ⟨rfl, hb2⟩
        have K2 : Hid (Below w.heap.size w w2) := bel_on K1.out hb2
        clear hb2
        go_wp2_with (refine wpList_load_row rfl 46 (.tmp 4) rfl w0.heap.size rfl 46 (scC u b A n c k).toArray (0, 0) _ (HXS.out _ K2.out) Tryz.underlying46 rfl HIN.out ?_)
        refine (HVS.out _ K2.out).mono ?_
        rintro e w3 ⟨rfl, hb3⟩
        have K3 : Hid (Below w.heap.size w w3) := bel_on K2.out hb3
        have c2 : w3.cell? ⟨w0.heap.size, 2, none⟩ = some (.slice A n c) := (HXS.out _ K3.out).cell 2
        clear hb3
        go_wp2_with fail
        refine (HCP.out _ K3.out).mono ?_
        rintro e w4 ⟨rfl, rfl⟩
        clear c2
        go_wp2_with fail
        go_ret
        exact ⟨by simp, bel_on b0.out K3.out⟩
      · have hl : limB x z = false := by
          cases hl : limB x z
          · rfl
          · exact absurd ⟨hv, hc, hl⟩ hgood
        have eb : boundS u b l y x z = (0, 2) := by unfold boundS; rw [ckSC_ok hv (by rw [hn]; exact hc), if_pos rfl, hl]; rfl
        rw [eb] at HBD
        rw [hv] at HVS
        rw [hc] at HCP
        rw [hl] at HLI
        clear eb hn hyl hlx hlz h hy hx hz h0 hy0 hx0 hz0 hk hW0 hgood
        go_enter Tryz.func12, Tryz.ntmps12
        go_wp2_with (rw [← HW0.out])
        refine (alive_any _).mono ?_
        rintro e w1 ⟨rfl, hb1⟩
        have K1 : Hid (Below w.heap.size w w1) := bel_on K0.out hb1
        clear hb1
        go_wp2_with (first | (refine wpList_load_row rfl 46 (.tmp 4) rfl w0.heap.size rfl 46 (scC u b A n c k).toArray (0, 0) _ (HXS.out _ K1.out) Tryz.underlying46 rfl HIN.out ?_) | (refine wpList_load_row rfl 27 (.tmp 6) rfl (w0.heap.size + 1) rfl 27 #[.slice X lx cx, .slice Z lz cz] (0, 0) _ (HXL.out _ K1.out) Tryz.underlying27 rfl (by kernel_rfl) ?_))
        refine (HBD.out _ K1.out).mono ?_
        rintro e w2 ⟨rfl, hb2⟩
        have K2 : Hid (Below w.heap.size w w2) := bel_on K1.out hb2
        clear hb2
        go_wp2_with (refine wpList_load_row rfl 46 (.tmp 4) rfl w0.heap.size rfl 46 (scC u b A n c k).toArray (0, 0) _ (HXS.out _ K2.out) Tryz.underlying46 rfl HIN.out ?_)
        refine (HVS.out _ K2.out).mono ?_
        rintro e w3 ⟨rfl, hb3⟩
        have K3 : Hid (Below w.heap.size w w3) := bel_on K2.out hb3
        have c2 : w3.cell? ⟨w0.heap.size, 2, none⟩ = some (.slice A n c) := (HXS.out _ K3.out).cell 2
        clear hb3
        go_wp2_with fail
        refine (HCP.out _ K3.out).mono ?_
        rintro e w4 ⟨rfl, rfl⟩
        clear c2
        have l0 := (HXL.out _ K3.out).cell 0
        have l1 := (HXL.out _ K3.out).cell 1
        go_wp2_with fail
        clear l0 l1
        refine (HLI.out _ K3.out).mono ?_
        rintro e w5 ⟨rfl, hb5⟩
        have K5 : Hid (Below w.heap.size w w5) := bel_on K3.out hb5
        clear hb5
        go_wp2_with fail
        go_ret
        exact ⟨by simp, bel_on b0.out K5.out⟩
theorem codeBound_walk (u b : Int) (A : Option Addr) (c : Nat) (l : List Int) (k : List UInt8) (Y : Option Addr) (d : Nat) (y : List UInt8) (X : Option Addr) (cx : Nat) (x : List Nat) (Z : Option Addr) (cz : Nat) (z : List Nat) (zz : Int) (w : World) (h : IR w A c l) (hk : k.length = 16) (hy : BR w Y d y) (hx : NR w X cx x) (hz : NR w Z cz z) (h1 : -9223372036854775808 ≤ zz) (h2 : zz ≤ 9223372036854775807) :
    Calls Tryz.prog 12 #[.agg (scC u b A l.length c k).toArray, .slice Y y.length d, .agg #[.slice X x.length cx, .slice Z z.length cz], .int .i64 zz] w fun e w' => e = .returned (.bool true) ∧ Below w.heap.size w w' := codeBound_walk0 u b A c l k Y d y X cx x Z cz z zz w h hk hy hx hz h1 h2
end Go.Proofs.YtenpkmgbaajeeaaGreat
