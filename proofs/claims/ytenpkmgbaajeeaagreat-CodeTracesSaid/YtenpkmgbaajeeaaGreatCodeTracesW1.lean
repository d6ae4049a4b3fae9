/-
  Lemmas and contracts, joined.
-/
import Derived.Lib.SmallJoins
import Derived.Deep.QuietTactic
import Derived.BigQuiet
import Derived.Test.YtenpkmgbaajeeaaGreatCn1
import Derived.Test.YtenpkmgbaajeeaaGreatCw1
import Derived.Test.YtenpkmgbaajeeaaGreatCp1
import Derived.Test.YtenpkmgbaajeeaaGreatCc1
import Derived.Test.YtenpkmgbaajeeaaGreatCa2
import Derived.Test.YtenpkmgbaajeeaaGreatCc3
set_option linter.unusedSimpArgs false
set_option linter.unusedVariables false
set_option linter.unnecessarySimpa false
/- What the frames of the laws share: fractions among the arguments, opened. -/
namespace Go.Proofs.YtenpkmgbaajeeaaGreat
open Go.ChangeShapes Go.WideShapes Go.ChangeAt Go.RowKit
set_option linter.unusedVariables false

theorem cellsFrac : Tryz.prog.cellsOf 27 = 2 := by kernel_rfl
set_option maxRecDepth 100000 in
theorem open_frac {H : Type} {enc : TypeId × Value → H} {W : World} {b0 : Nat} {v : Value} {d : DataW H} {ps : List MemPlace} (hval : Value.okWide Tryz.prog W .any b0 27 v) (hd : DataW.Trod enc Tryz.prog W 0 (fun _ => true) true 27 v d ps)
    (hw : ∀ n ∈ d.weights Tryz.prog 27, n ≤ reachBytes) : ∃ A c x B e y, v = .agg #[.slice A (List.length x) c, .slice B (List.length y) e] ∧ NR W A c x ∧ NR W B e y := by
  obtain ⟨v0, v1, y0, y1, n, rfl, rfl, _, h0, h1⟩ := Go.Joins.open_agg2 Tryz.underlying27 (by kernel_rfl) cellsFrac hval hd
  have hw' : ∀ n ∈ DataW.weightsEach Tryz.prog [25, 25] [y0.1, y1.1], n ≤ reachBytes := by simpa [DataW.weights, Tryz.underlying27] using hw
  obtain ⟨A, c, x, e1, hx⟩ := nat_of_trod h0 (fun m hm => hw' m (DataW.weights_mem_each (j := 0) rfl rfl m hm))
  obtain ⟨B, e, y, e2, hy⟩ := nat_of_trod h1 (fun m hm => hw' m (DataW.weights_mem_each (j := 1) rfl rfl m hm))
  injection e1 with e1
  injection e2 with e2
  subst e1 e2
  exact ⟨A, c, x, B, e, y, rfl, hx, hy⟩
end Go.Proofs.YtenpkmgbaajeeaaGreat

/- What the frames of the laws share: a code of scores among the arguments, opened. -/
namespace Go.Proofs.YtenpkmgbaajeeaaGreat
open Go.ChangeShapes Go.WideShapes Go.ChangeAt Go.RowKit Go.Deep
set_option linter.unusedVariables false

theorem cells_key : Tryz.prog.cellsOf 23 = 16 := by kernel_rfl
theorem cells_scores : Tryz.prog.cellsOf 46 = 19 := by kernel_rfl
theorem cells_ints : Tryz.prog.cellsOf 38 = 1 := by kernel_rfl

/-- A code of scores, among cells. -/
theorem scores_of_trod {H : Type} {enc : TypeId × Value → H} {W : World} {fuel : Nat} {cs : List Value} {x : DataW H × List MemPlace} (h : DataW.trod enc Tryz.prog W 0 (fun _ => true) true fuel 46 cs = some x)
    (hw : ∀ n ∈ x.1.weights Tryz.prog 46, n ≤ reachBytes) : ∃ u b A c l k, cs = scC u b A (List.length l) c k ∧ IR W A c l ∧ k.length = 16 ∧ (-9223372036854775808 ≤ u ∧ u ≤ 9223372036854775807) ∧ (-9223372036854775808 ≤ b ∧ b ≤ 9223372036854775807) := by
  obtain ⟨y0, y1, y2, y3, n, rfl, hl, h0, h1, h2, h3⟩ := Go.Joins.trod_struct4 Tryz.underlying46 h
  have hw' : ∀ n ∈ DataW.weightsEach Tryz.prog [3, 3, 38, 23] [y0.1, y1.1, y2.1, y3.1], n ≤ reachBytes := by simpa [DataW.weights, Tryz.underlying46] using hw
  dsimp only at h0 h1 h2 h3
  rw [cells_int] at h0 h1
  rw [cells_ints] at h2
  rw [cells_key] at h3
  rw [cells_scores] at hl
  obtain ⟨u, e0, hu⟩ := int_of_trod h0
  obtain ⟨b, e1, hb⟩ := int_of_trod h1
  obtain ⟨A, c, l, e2, hI, _⟩ := ints_of_trod Tryz.underlying38 h2 (fun m hm => hw' m (DataW.weights_mem_each (j := 2) rfl rfl m hm))
  obtain ⟨k, hk, e3⟩ := key_of_trod h3
  refine ⟨u, b, A, c, l, k, ?_, hI, hk, hu, hb⟩
  match cs, hl with
  | c0 :: c1 :: c2 :: r, hl =>
    simp at e0 e1 e2
    have hr : r.length = 16 := by simpa using hl
    rw [show List.drop 3 (c0 :: c1 :: c2 :: r) = r from rfl, List.take_of_length_le (by omega)] at e3
    rw [e0, e1, e2, e3]
    rfl
set_option maxRecDepth 100000 in
theorem open_scores {H : Type} {enc : TypeId × Value → H} {W : World} {b0 : Nat} {v : Value} {d : DataW H} {ps : List MemPlace} (hval : Value.okWide Tryz.prog W .any b0 46 v) (hd : DataW.Trod enc Tryz.prog W 0 (fun _ => true) true 46 v d ps)
    (hw : ∀ n ∈ d.weights Tryz.prog 46, n ≤ reachBytes) : ∃ u b A c l k, v = .agg (scC u b A (List.length l) c k).toArray ∧ IR W A c l ∧ k.length = 16 ∧ (-9223372036854775808 ≤ u ∧ u ≤ 9223372036854775807) ∧ (-9223372036854775808 ≤ b ∧ b ≤ 9223372036854775807) := by
  obtain ⟨cs, rfl, hsz⟩ := okWide_struct Tryz.underlying46 hval
  obtain ⟨fuel, hf⟩ := hd
  obtain ⟨u, b, A, c, l, k, e, h1, h2, h3, h4⟩ := scores_of_trod hf hw
  refine ⟨u, b, A, c, l, k, ?_, h1, h2, h3, h4⟩
  rw [← e]
  simp [Value.cells]
end Go.Proofs.YtenpkmgbaajeeaaGreat

/- Whether a code of steps is complete: the reference's, and both for any code. -/
namespace Go.Proofs.YtenpkmgbaajeeaaGreat
open Go.RowKit
set_option linter.unusedVariables false
set_option linter.unusedSimpArgs false

def thL (t : Nat → Int) (n : Nat) : List Int := (List.range n).map t
theorem thL_length (t : Nat → Int) (n : Nat) : (thL t n).length = n := by simp [thL]
theorem thL_succ (t : Nat → Int) (n : Nat) : thL t (n + 1) = thL t n ++ [t n] := by simp [thL, List.range_succ]
theorem thL_it {t : Nat → Int} {n i : Nat} (h : i < n) : it (thL t n) i = t i := by rw [it_in (by rw [thL_length]; exact h)]; simp [thL]
theorem mayS_or {d : Nat} {t : Nat → Int} {j v x : Nat} : (decide (∃ u, u < v ∧ mayS d t j u = true ∧ t (u + x) < (u : Int)) || (mayS d t j v && decide (t (v + x) < (v : Int)))) = decide (∃ u, u < v + 1 ∧ mayS d t j u = true ∧ t (u + x) < (u : Int)) := by
  rw [Bool.eq_iff_iff, Bool.or_eq_true, Bool.and_eq_true, decide_eq_true_eq, decide_eq_true_eq, decide_eq_true_eq]
  constructor
  · rintro (⟨u, h1, h2, h3⟩ | ⟨h1, h2⟩)
    · exact ⟨u, by omega, h2, h3⟩
    · exact ⟨v, by omega, h1, h2⟩
  · rintro ⟨u, h1, h2, h3⟩
    by_cases e : u = v
    · subst e; exact .inr ⟨h2, h3⟩
    · exact .inl ⟨u, by omega, h2, h3⟩
theorem mayS_fin {d : Nat} {t : Nat → Int} {j x : Nat} : decide (∃ u, u < d + 1 ∧ mayS d t j u = true ∧ t (u + x) < (u : Int)) = mayS d t (j + 1) x := by
  rw [mayS, decide_eq_decide]
  constructor
  · rintro ⟨v, hv, h1, h3⟩; exact ⟨v, by omega, h1, h3⟩
  · rintro ⟨v, hv, h1, h3⟩; exact ⟨v, by omega, h1, h3⟩
/-- What the next block may weigh, the first v weights of this one looked at. -/
def nextQ (d : Nat) (t : Nat → Int) (j v x : Nat) : Bool := decide (∃ u, u < v ∧ mayS d t j u = true ∧ t (u + x) < (u : Int))
end Go.Proofs.YtenpkmgbaajeeaaGreat

/- The law CodeTails: the walk. -/
namespace Go.Proofs.YtenpkmgbaajeeaaGreat
open Go.RowKit
set_option linter.unusedVariables false
set_option linter.unusedSimpArgs false

theorem frac2_open_ {W w' : World} {e : Ending} {r : (List Nat × List Nat) × Int} (h : Frac2 W w' e r) : ∃ X x Z z, e = .returned (.tuple #[.agg #[.slice X r.1.1.length x, .slice Z r.1.2.length z], .int .i64 r.2]) ∧ NR w' X x r.1.1 ∧ NR w' Z z r.1.2 ∧ Below W.heap.size W w' := by
  obtain ⟨v, rfl, X, x, Z, z, rfl, h1, h2, _, hb⟩ := h
  exact ⟨X, x, Z, z, rfl, h1.nr_, h2.nr_, hb⟩
set_option maxHeartbeats 8000000 in
set_option maxRecDepth 100000 in
theorem Complete_any (s : StV) (w : World) (h : StOK w s) :
    Calls Tryz.prog 61 #[.agg s.cs.toArray] w fun e w' => e = .returned (.tuple #[.bool (cmpSt s).1, .int .i64 (cmpSt s).2]) ∧ Below w.heap.size w w' := by
  cases hok : s.ok with
  | true =>
    have := complete_good s w h hok
    unfold cmpSt
    rw [hok]
    exact this
  | false =>
    have HCK : Hid (∀ W, Below w.heap.size w W → Calls Tryz.prog 21 #[.agg s.cs.toArray] W fun e w' => e = .returned (.int .i64 (ckSt s.ok)) ∧ Below W.heap.size W w') := fun W hW => CheckSteps_any s W (h.below hW)
    have hks := h.k16
    obtain ⟨W0, hW0⟩ : ∃ W : World, W = w.alloc (.cells s.cs.toArray 29) := ⟨_, rfl⟩
    have b0 : Hid (Below w.heap.size w W0) := by unfold Hid; rw [hW0]; exact alloc_below _ _
    have x0 : Hid (Blk W0 w.heap.size 29 s.cs.toArray) := by unfold Hid; rw [hW0]; exact Blk.new w _ _
    have HW0 := Lib.hid hW0
    have HIN := Lib.hid (StV.info (s := s) hks)
    have HS : Hid (cmpSt s = (false, 70)) := by unfold Hid cmpSt; rw [hok]; rfl
    rw [hok] at HCK
    rw [HS.out]
    generalize s.cs.toArray = cs at *
    clear hW0 h hks hok
    go_enter Tryz.func61, Tryz.ntmps61
    go_wp2_with (first
      | (rw [← HW0.out])
      | (refine wpList_load_row rfl 29 (.tmp 1) rfl (w.heap.size) rfl 29 cs (0, 0) _ x0.out Tryz.underlying29 rfl HIN.out ?_)
      | (go_at_call 21; (with_reducible refine (HCK.out _ b0.out).mono ?_); rintro e w1 ⟨rfl, hb⟩; have D1 := Lib.hid (bel_on b0.out hb); clear hb; simp only [ckSt]))
    go_ret2
    exact ⟨rfl, D1.out⟩
end Go.Proofs.YtenpkmgbaajeeaaGreat

/- The law CodeBound: the walk. -/
namespace Go.Proofs.YtenpkmgbaajeeaaGreat
open Go.RowKit
set_option linter.unusedVariables false
set_option linter.unusedSimpArgs false

theorem srch_le_ (b : Int) (l : List Int) (y : List UInt8) (n : Nat) (z : Int) : srch b l y n z ≤ sall b l n := reach_all _ _ _ _ n z
theorem bnd_range {b : Int} {l : List Int} {y : List UInt8} {n num den : Nat} (h1 : -2048 ≤ slow b l y n) (h2 : shigh b l y n ≤ 2048) : -2048 ≤ sbnd b l y n num den ∧ sbnd b l y n num den ≤ 2049 := by
  have h3 := low_high (gA b l y) (gB b l y) n
  unfold sbnd bndN
  have hle := lead_le (fun j => !inLim (gA b l y) (gB b l y) (cA b l) (cB l) n num den (lowT (gA b l y) (gB b l y) n + 1 + (j : Int))) (highT (gA b l y) (gB b l y) n - lowT (gA b l y) (gB b l y) n).toNat
  unfold slow at h1
  unfold shigh at h2
  omega
theorem chance_ok {u b : Int} {l : List Int} {y : List UInt8} (h : ckSC u b l y = 0) (z : Int) : chanceS u b l y z = (lowS (srch b l y l.length z) (sall b l l.length), 0) := by unfold chanceS; rw [if_pos h]
/-- The chances of the bound and of the number below it, against the limit. -/
theorem bound_cmp {u b : Int} {l : List Int} {y : List UInt8} {x z : List Nat} (h : ckSC u b l y = 0) (hl : limB x z = true) (q : Int) :
    cmpFS (lowS (srch b l y l.length q) (sall b l l.length)).1 (lowS (srch b l y l.length q) (sall b l l.length)).2 x z = (cmpN (srch b l y l.length q * val z) (val x * sall b l l.length), 0) ∧ (cmpN (srch b l y l.length q * val z) (val x * sall b l l.length) ≤ 0 ↔ slim b l y l.length (val x) (val z) q = true) := by
  obtain ⟨hv, _⟩ := ckSC_zero h
  obtain ⟨r1, r2, r3, r4⟩ := score_range (y := y) hv
  obtain ⟨hvf, _⟩ := limB_iff.1 hl
  refine ⟨low_cmp (by omega) (sm_allS (Nat.le_trans (srch_le_ b l y _ q) r3)) (sm_allS r3) hvf, ?_⟩
  rw [cmpN_le0]
  unfold slim
  rw [decide_eq_true_eq]
theorem chance_cmp {u b : Int} {l : List Int} {y : List UInt8} (h : ckSC u b l y = 0) (q : Int) :
    cmpFS (lowS (srch b l y l.length q) (sall b l l.length)).1 (lowS (srch b l y l.length q) (sall b l l.length)).2 (lowS (srch b l y l.length (q + 1)) (sall b l l.length)).1 (lowS (srch b l y l.length (q + 1)) (sall b l l.length)).2 = (cmpN (srch b l y l.length q * sall b l l.length) (srch b l y l.length (q + 1) * sall b l l.length), 0) ∧ 0 ≤ cmpN (srch b l y l.length q * sall b l l.length) (srch b l y l.length (q + 1) * sall b l l.length) := by
  obtain ⟨hv, _⟩ := ckSC_zero h
  obtain ⟨r1, r2, r3, r4⟩ := score_range (y := y) hv
  have s1 := sm_allS (Nat.le_trans (srch_le_ b l y _ q) r3)
  have s2 := sm_allS (Nat.le_trans (srch_le_ b l y _ (q + 1)) r3)
  refine ⟨low_cmp2 (by omega) (by omega) s1 (sm_allS r3) s2 (sm_allS r3), cmpN_ge0.2 (Nat.mul_le_mul_right _ ?_)⟩
  have : srch b l y l.length q = srch b l y l.length (q + 1) + scnt b l y l.length q := reach_step _ _ _ _ _ q
  omega
set_option maxHeartbeats 16000000 in
set_option maxRecDepth 100000 in
theorem codeBound_walk0 (u b : Int) (A : Option Addr) (c : Nat) (l : List Int) (k : List UInt8) (Y : Option Addr) (d : Nat) (y : List UInt8) (X : Option Addr) (cx : Nat) (x : List Nat) (Z : Option Addr) (cz : Nat) (z : List Nat) (zz : Int) (w0 : World) (h0 : IR w0 A c l) (hk : k.length = 16) (hy0 : BR w0 Y d y) (hx0 : NR w0 X cx x) (hz0 : NR w0 Z cz z) (hzz1 : -9223372036854775808 ≤ zz) (hzz2 : zz ≤ 9223372036854775807) :
    Calls Tryz.prog 12 #[.agg (scC u b A l.length c k).toArray, .slice Y y.length d, .agg #[.slice X x.length cx, .slice Z z.length cz], .int .i64 zz] w0 fun e w' => e = .returned (.bool true) ∧ Below w0.heap.size w0 w' := by
  obtain ⟨n, hn⟩ : ∃ n, l.length = n := ⟨_, rfl⟩
  obtain ⟨ny, hyl⟩ : ∃ n, y.length = n := ⟨_, rfl⟩
  obtain ⟨lx, hlx⟩ : ∃ n, x.length = n := ⟨_, rfl⟩
  obtain ⟨lz, hlz⟩ : ∃ n, z.length = n := ⟨_, rfl⟩
  rw [hn, hyl, hlx, hlz]
  have hlen : (n : Int) ≤ 140737488351232 := by have := h0.len; omega
  obtain ⟨w, hW0⟩ : ∃ W : World, W = (w0.alloc (.cells (scC u b A n c k).toArray 46)).alloc (.cells #[.slice X lx cx, .slice Z lz cz] 27) := ⟨_, rfl⟩
  have b0 : Hid (Below w0.heap.size w0 w) := by unfold Hid; rw [hW0]; exact alloc2_bel _ _ _
  have HXS : Hid (∀ W, Below w.heap.size w W → Blk W w0.heap.size 46 (scC u b A n c k).toArray) := fun W hW => Blk.below' (by rw [hW0]; exact blk_b0 w0 _ _ _) hW
  have HXL : Hid (∀ W, Below w.heap.size w W → Blk W (w0.heap.size + 1) 27 #[.slice X lx cx, .slice Z lz cz]) := fun W hW => Blk.below' (by rw [hW0]; exact blk_b1 w0 _ _ _) hW
  have HW0 := Lib.hid hW0
  have HIN : Hid ((Tryz.prog.info? 46).map (·.size) = some (scC u b A n c k).toArray.size) := scC_info u b A n c k hk
  have h := h0.below b0.out
  have hy := hy0.below b0.out
  have K0 : Hid (Below w.heap.size w w) := Below.refl _ _
  have hx := hx0.below b0.out
  have hz := hz0.below b0.out
  have HBD : Hid (∀ W, Below w.heap.size w W → Calls Tryz.prog 31 #[.agg (scC u b A n c k).toArray, .slice Y ny d, .agg #[.slice X lx cx, .slice Z lz cz]] W fun e w' => e = .returned (.tuple #[.int .i64 (boundS u b l y x z).1, .int .i64 (boundS u b l y x z).2]) ∧ Below W.heap.size W w') := fun W hW => Bound_any u b A c l k Y d y X cx x Z cz z W hn hyl hlx hlz (h.below hW) (hy.below hW) hk (hx.below hW) (hz.below hW)
  have HVS : Hid (∀ W, Below w.heap.size w W → Calls Tryz.prog 46 #[.agg (scC u b A n c k).toArray] W fun e w' => e = .returned (.bool (scoresB u b l)) ∧ Below W.heap.size W w') := fun W hW => refValidScores_any u b A c l k W hn (h.below hW)
  have HCP : Hid (∀ W, Below w.heap.size w W → Calls Tryz.prog 44 #[.slice Y ny d, .int .i64 (n : Int)] W fun e w' => e = .returned (.bool (copyB y n)) ∧ W = w') := fun W hW => refIsCopy_any Y d y n W hyl (hy.below hW) (by omega)
  have HLI : Hid (∀ W, Below w.heap.size w W → Calls Tryz.prog 56 #[.agg #[.slice X lx cx, .slice Z lz cz]] W fun e w' => e = .returned (.bool (limB x z)) ∧ Below W.heap.size W w') := fun W hW => refIsLimit_any X cx x Z cz z W hlx hlz (hx.below hW) (hz.below hW)
  by_cases hgood : scoresB u b l = true ∧ copyB y n = true ∧ limB x z = true
  · obtain ⟨hv, hc, hl⟩ := hgood
    have he : ckSC u b l y = 0 := ckSC_ok hv (by rw [hn]; exact hc)
    obtain ⟨r1, r2, r3, r4⟩ := score_range (y := y) hv
    have eb : boundS u b l y x z = (sbnd b l y l.length (val x) (val z), 0) := by unfold boundS; rw [if_pos he, if_pos hl]
    have hbr := bnd_range (b := b) (l := l) (y := y) (n := l.length) (num := val x) (den := val z) r1 r2
    obtain ⟨-, -, -, -, hlt⟩ := limB_sm hl
    have s1 : slim b l y l.length (val x) (val z) (sbnd b l y l.length (val x) (val z)) = true := bnd_in _ _ _ _ _ _ _
    have s2 : slim b l y l.length (val x) (val z) (sbnd b l y l.length (val x) (val z) - 1) = false := bnd_out _ _ _ _ hlt r4
    rw [eb] at HBD
    rw [hv] at HVS
    rw [hc] at HCP
    rw [hl] at HLI
    obtain ⟨bd, hbd⟩ : ∃ q, sbnd b l y l.length (val x) (val z) = q := ⟨_, rfl⟩
    rw [hbd] at HBD hbr s1 s2
    obtain ⟨v1, v2⟩ := bound_cmp he hl bd
    obtain ⟨v3, v4⟩ := bound_cmp he hl (bd - 1)
    obtain ⟨v5, v6⟩ := chance_cmp he zz
    have m1 := v2.2 s1
    have m2 : 0 < (cmpN (srch b l y l.length (bd - 1) * val z) (val x * sall b l l.length)) := by
      rcases Int.lt_or_le 0 (cmpN (srch b l y l.length (bd - 1) * val z) (val x * sall b l l.length)) with g | g
      · exact g
      · rw [v4.1 g] at s2; cases s2
    have HCH : Hid (∀ (q : Int) W, Below w.heap.size w W → Calls Tryz.prog 28 #[.agg (scC u b A n c k).toArray, .slice Y ny d, .int .i64 q] W fun e w' => ∃ X x' Z z, e = .returned (.tuple #[.agg #[.slice X (lowS (srch b l y l.length q) (sall b l l.length)).1.length x', .slice Z (lowS (srch b l y l.length q) (sall b l l.length)).2.length z], .int .i64 0]) ∧ NR w' X x' (lowS (srch b l y l.length q) (sall b l l.length)).1 ∧ NR w' Z z (lowS (srch b l y l.length q) (sall b l l.length)).2 ∧ Below W.heap.size W w') := fun q W hW => (Chance_any u b A c l k Y d y q W hn hyl (h.below hW) (hy.below hW) hk).mono fun e w' hq => by
      rw [chance_ok he] at hq
      exact frac2_open_ hq
    have HCM1 : Hid (∀ W A1 a1 B1 b1, Below w.heap.size w W → NR W A1 a1 (lowS (srch b l y l.length bd) (sall b l l.length)).1 → NR W B1 b1 (lowS (srch b l y l.length bd) (sall b l l.length)).2 → Calls Tryz.prog 54 #[.agg #[.slice A1 (lowS (srch b l y l.length bd) (sall b l l.length)).1.length a1, .slice B1 (lowS (srch b l y l.length bd) (sall b l l.length)).2.length b1], .agg #[.slice X lx cx, .slice Z lz cz]] W fun e w' => e = .returned (.tuple #[.int .i64 (cmpN (srch b l y l.length bd * val z) (val x * sall b l l.length)), .int .i64 0]) ∧ Below W.heap.size W w') := fun W A1 a1 B1 b1 hW g1 g2 => (CompareFractions_any A1 a1 _ B1 b1 _ X cx x Z cz z W rfl rfl hlx hlz g1 g2 (hx.below hW) (hz.below hW)).mono fun e w' hq => by
      rw [v1] at hq
      exact hq
    have HCM2 : Hid (∀ W A1 a1 B1 b1, Below w.heap.size w W → NR W A1 a1 (lowS (srch b l y l.length (bd - 1)) (sall b l l.length)).1 → NR W B1 b1 (lowS (srch b l y l.length (bd - 1)) (sall b l l.length)).2 → Calls Tryz.prog 54 #[.agg #[.slice A1 (lowS (srch b l y l.length (bd - 1)) (sall b l l.length)).1.length a1, .slice B1 (lowS (srch b l y l.length (bd - 1)) (sall b l l.length)).2.length b1], .agg #[.slice X lx cx, .slice Z lz cz]] W fun e w' => e = .returned (.tuple #[.int .i64 (cmpN (srch b l y l.length (bd - 1) * val z) (val x * sall b l l.length)), .int .i64 0]) ∧ Below W.heap.size W w') := fun W A1 a1 B1 b1 hW g1 g2 => (CompareFractions_any A1 a1 _ B1 b1 _ X cx x Z cz z W rfl rfl hlx hlz g1 g2 (hx.below hW) (hz.below hW)).mono fun e w' hq => by
      rw [v3] at hq
      exact hq
    have HCM3 : Hid (∀ W A1 a1 B1 b1 C1 e1 D1 d1, NR W A1 a1 (lowS (srch b l y l.length zz) (sall b l l.length)).1 → NR W B1 b1 (lowS (srch b l y l.length zz) (sall b l l.length)).2 → NR W C1 e1 (lowS (srch b l y l.length (zz + 1)) (sall b l l.length)).1 → NR W D1 d1 (lowS (srch b l y l.length (zz + 1)) (sall b l l.length)).2 → Calls Tryz.prog 54 #[.agg #[.slice A1 (lowS (srch b l y l.length zz) (sall b l l.length)).1.length a1, .slice B1 (lowS (srch b l y l.length zz) (sall b l l.length)).2.length b1], .agg #[.slice C1 (lowS (srch b l y l.length (zz + 1)) (sall b l l.length)).1.length e1, .slice D1 (lowS (srch b l y l.length (zz + 1)) (sall b l l.length)).2.length d1]] W fun e w' => e = .returned (.tuple #[.int .i64 (cmpN (srch b l y l.length zz * sall b l l.length) (srch b l y l.length (zz + 1) * sall b l l.length)), .int .i64 0]) ∧ Below W.heap.size W w') := fun W A1 a1 B1 b1 C1 e1 D1 d1 g1 g2 g3 g4 => (CompareFractions_any A1 a1 _ B1 b1 _ C1 e1 _ D1 d1 _ W rfl rfl rfl rfl g1 g2 g3 g4).mono fun e w' hq => by
      rw [v5] at hq
      exact hq
    have HCH1 := Lib.hid (HCH.out (bd - 1))
    have HCH2 := Lib.hid (HCH.out zz)
    have HCH3 := Lib.hid (HCH.out (zz + 1))
    have HCH0 := Lib.hid (HCH.out bd)
    obtain ⟨z1, hz1⟩ : ∃ q, (cmpN (srch b l y l.length bd * val z) (val x * sall b l l.length)) = q := ⟨_, rfl⟩
    obtain ⟨z2, hz2⟩ : ∃ q, (cmpN (srch b l y l.length (bd - 1) * val z) (val x * sall b l l.length)) = q := ⟨_, rfl⟩
    obtain ⟨z3, hz3⟩ : ∃ q, (cmpN (srch b l y l.length zz * sall b l l.length) (srch b l y l.length (zz + 1) * sall b l l.length)) = q := ⟨_, rfl⟩
    rw [hz1] at HCM1 m1
    rw [hz2] at HCM2 m2
    rw [hz3] at HCM3 v6
    obtain ⟨hbr1, hbr2⟩ := hbr
    clear HCH v1 v2 v3 v4 v5 s1 s2 hz1 hz2 hz3 hlt hbd eb r1 r2 r3 r4 he hv hc hl hn hyl hlx hlz h hy hx hz h0 hy0 hx0 hz0 hk hW0
    generalize (lowS (srch b l y l.length bd) (sall b l l.length)) = l1 at *
    generalize (lowS (srch b l y l.length (bd - 1)) (sall b l l.length)) = l2 at *
    generalize (lowS (srch b l y l.length zz) (sall b l l.length)) = l3 at *
    generalize (lowS (srch b l y l.length (zz + 1)) (sall b l l.length)) = l4 at *
    obtain ⟨l1a, l1b⟩ := l1
    obtain ⟨l2a, l2b⟩ := l2
    obtain ⟨l3a, l3b⟩ := l3
    obtain ⟨l4a, l4b⟩ := l4
    dsimp only at *
    generalize l1a.length = p1a at *
    generalize l1b.length = p1b at *
    generalize l2a.length = p2a at *
    generalize l2b.length = p2b at *
    generalize l3a.length = p3a at *
    generalize l3b.length = p3b at *
    generalize l4a.length = p4a at *
    generalize l4b.length = p4b at *
    have nm1 : ¬ (0 < z1) := by omega
    have nm2 : ¬ (z2 ≤ 0) := by omega
    go_enter Tryz.func12, Tryz.ntmps12
    go_wp2_with (rw [← HW0.out])
    refine (alive_any _).mono ?_
    rintro e w1 ⟨rfl, hb1⟩
    have K1 : Hid (Below w.heap.size w w1) := bel_on K0.out hb1
    clear hb1
    go_wp2_with (first | (refine wpList_load_row rfl 46 (.tmp 4) rfl w0.heap.size rfl 46 (scC u b A n c k).toArray (0, 0) _ (HXS.out _ K1.out) Tryz.underlying46 rfl HIN.out ?_) | (refine wpList_load_row rfl 27 (.tmp 6) rfl (w0.heap.size + 1) rfl 27 #[.slice X lx cx, .slice Z lz cz] (0, 0) _ (HXL.out _ K1.out) Tryz.underlying27 rfl (by kernel_rfl) ?_))
    refine (HBD.out _ K1.out).mono ?_
    rintro e w2 ⟨rfl, hb2⟩
    have K2 : Hid (Below w.heap.size w w2) := bel_on K1.out hb2
    clear hb2
    go_wp2_with (refine wpList_load_row rfl 46 (.tmp 4) rfl w0.heap.size rfl 46 (scC u b A n c k).toArray (0, 0) _ (HXS.out _ K2.out) Tryz.underlying46 rfl HIN.out ?_)
    refine (HVS.out _ K2.out).mono ?_
    rintro e w3 ⟨rfl, hb3⟩
    have K3 : Hid (Below w.heap.size w w3) := bel_on K2.out hb3
    have c2 : w3.cell? ⟨w0.heap.size, 2, none⟩ = some (.slice A n c) := (HXS.out _ K3.out).cell 2
    clear hb3
    go_wp2_with fail
    refine (HCP.out _ K3.out).mono ?_
    rintro e w4 ⟨rfl, rfl⟩
    clear c2
    have l0 := (HXL.out _ K3.out).cell 0
    have l1 := (HXL.out _ K3.out).cell 1
    go_wp2_with fail
    clear l0 l1
    refine (HLI.out _ K3.out).mono ?_
    rintro e w5 ⟨rfl, hb5⟩
    have K5 : Hid (Below w.heap.size w w5) := bel_on K3.out hb5
    clear hb5
    go_wp2_with (refine wpList_load_row rfl 46 (.tmp 4) rfl w0.heap.size rfl 46 (scC u b A n c k).toArray (0, 0) _ (HXS.out _ K5.out) Tryz.underlying46 rfl HIN.out ?_)
    refine (HCH0.out _ K5.out).mono ?_
    rintro e w6 ⟨X6, x6, Z6, z6, rfl, gx6, gz6, hb6⟩
    obtain ⟨w6b, hw6⟩ : ∃ W, W = w6.alloc (.cells #[.slice X6 p1a x6, .slice Z6 p1b z6] 27) := ⟨_, rfl⟩
    have d6 : Below w6.heap.size w6 w6b := by rw [hw6]; exact alloc_bel _ _
    have hbb6 := bel_on hb6 d6
    have K6 : Hid (Below w.heap.size w w6b) := bel_on K5.out hbb6
    have T6 : Hid (Blk w6b w6.heap.size 27 #[.slice X6 p1a x6, .slice Z6 p1b z6]) := by unfold Hid; rw [hw6]; exact Blk.new _ _ _
    have GX6 := Lib.hid (gx6.below d6)
    have GZ6 := Lib.hid (gz6.below d6)
    have HW6 := Lib.hid hw6
    clear hw6 d6 hbb6 hb6 gx6 gz6
    go_wp2_with (first | (rw [← HW6.out]) | (refine wpList_load_row rfl 46 (.tmp 4) rfl w0.heap.size rfl 46 (scC u b A n c k).toArray (0, 0) _ (HXS.out _ K6.out) Tryz.underlying46 rfl HIN.out ?_))
    refine (HCH1.out _ K6.out).mono ?_
    rintro e w7 ⟨X7, x7, Z7, z7, rfl, gx7, gz7, hb7⟩
    obtain ⟨w7b, hw7⟩ : ∃ W, W = w7.alloc (.cells #[.slice X7 p2a x7, .slice Z7 p2b z7] 27) := ⟨_, rfl⟩
    have d7 : Below w7.heap.size w7 w7b := by rw [hw7]; exact alloc_bel _ _
    have hbb7 := bel_on hb7 d7
    have K7 : Hid (Below w.heap.size w w7b) := bel_on K6.out hbb7
    have T7 : Hid (Blk w7b w7.heap.size 27 #[.slice X7 p2a x7, .slice Z7 p2b z7]) := by unfold Hid; rw [hw7]; exact Blk.new _ _ _
    have GX7 := Lib.hid (gx7.below d7)
    have GZ7 := Lib.hid (gz7.below d7)
    have T6b := Lib.hid (T6.out.below' hbb7)
    have GX6b := Lib.hid (GX6.out.below hbb7)
    have GZ6b := Lib.hid (GZ6.out.below hbb7)
    have HW7 := Lib.hid hw7
    clear hw7 d7 hbb7 hb7 gx7 gz7
    have q0 := T6b.out.cell 0
    have q1 := T6b.out.cell 1
    go_wp2_with (first | (rw [← HW7.out]) | (refine wpList_load_row rfl 27 (.tmp 6) rfl (w0.heap.size + 1) rfl 27 #[.slice X lx cx, .slice Z lz cz] (0, 0) _ (HXL.out _ K7.out) Tryz.underlying27 rfl (by kernel_rfl) ?_))
    refine (HCM1.out _ _ _ _ _ K7.out GX6b.out GZ6b.out).mono ?_
    rintro e w8 ⟨rfl, hb8⟩
    have K8 : Hid (Below w.heap.size w w8) := bel_on K7.out hb8
    have T7b := Lib.hid (T7.out.below' hb8)
    have GX7b := Lib.hid (GX7.out.below hb8)
    have GZ7b := Lib.hid (GZ7.out.below hb8)
    have q2 := T7b.out.cell 0
    have q3 := T7b.out.cell 1
    clear hb8 q0 q1
    go_wp2_with (refine wpList_load_row rfl 27 (.tmp 6) rfl (w0.heap.size + 1) rfl 27 #[.slice X lx cx, .slice Z lz cz] (0, 0) _ (HXL.out _ K8.out) Tryz.underlying27 rfl (by kernel_rfl) ?_)
    refine (HCM2.out _ _ _ _ _ K8.out GX7b.out GZ7b.out).mono ?_
    rintro e w9 ⟨rfl, hb9⟩
    have K9 : Hid (Below w.heap.size w w9) := bel_on K8.out hb9
    clear hb9 q2 q3
    by_cases hzb : zz > 1152921504606846976 ∨ zz < -1152921504606846976
    · by_cases hzb1 : zz > 1152921504606846976
      · go_wp2_with fail
        go_ret
        exact ⟨by simp, bel_on b0.out K9.out⟩
      · have hzb2 : zz < -1152921504606846976 := by omega
        go_wp2_with fail
        go_ret
        exact ⟨by simp, bel_on b0.out K9.out⟩
    · have hzb1 : ¬ (1152921504606846976 < zz) := by omega
      have hzb2 : ¬ (zz < -1152921504606846976) := by omega
      have hzb3 : zz ≤ 1152921504606846976 := by omega
      have hzb4 : -1152921504606846976 ≤ zz := by omega
      clear hzb
      go_wp2_with (refine wpList_load_row rfl 46 (.tmp 4) rfl w0.heap.size rfl 46 (scC u b A n c k).toArray (0, 0) _ (HXS.out _ K9.out) Tryz.underlying46 rfl HIN.out ?_)
      refine (HCH2.out _ K9.out).mono ?_
      rintro e w10 ⟨X10, x10, Z10, z10, rfl, gx10, gz10, hb10⟩
      obtain ⟨w10b, hw10⟩ : ∃ W, W = w10.alloc (.cells #[.slice X10 p3a x10, .slice Z10 p3b z10] 27) := ⟨_, rfl⟩
      have d10 : Below w10.heap.size w10 w10b := by rw [hw10]; exact alloc_bel _ _
      have hbb10 := bel_on hb10 d10
      have K10 : Hid (Below w.heap.size w w10b) := bel_on K9.out hbb10
      have T10 : Hid (Blk w10b w10.heap.size 27 #[.slice X10 p3a x10, .slice Z10 p3b z10]) := by unfold Hid; rw [hw10]; exact Blk.new _ _ _
      have GX10 := Lib.hid (gx10.below d10)
      have GZ10 := Lib.hid (gz10.below d10)
      have HW10 := Lib.hid hw10
      clear hw10 d10 hbb10 hb10 gx10 gz10
      go_wp2_with (first | (rw [← HW10.out]) | (refine wpList_load_row rfl 46 (.tmp 4) rfl w0.heap.size rfl 46 (scC u b A n c k).toArray (0, 0) _ (HXS.out _ K10.out) Tryz.underlying46 rfl HIN.out ?_))
      refine (HCH3.out _ K10.out).mono ?_
      rintro e w11 ⟨X11, x11, Z11, z11, rfl, gx11, gz11, hb11⟩
      obtain ⟨w11b, hw11⟩ : ∃ W, W = w11.alloc (.cells #[.slice X11 p4a x11, .slice Z11 p4b z11] 27) := ⟨_, rfl⟩
      have d11 : Below w11.heap.size w11 w11b := by rw [hw11]; exact alloc_bel _ _
      have hbb11 := bel_on hb11 d11
      have K11 : Hid (Below w.heap.size w w11b) := bel_on K10.out hbb11
      have T11 : Hid (Blk w11b w11.heap.size 27 #[.slice X11 p4a x11, .slice Z11 p4b z11]) := by unfold Hid; rw [hw11]; exact Blk.new _ _ _
      have GX11 := Lib.hid (gx11.below d11)
      have GZ11 := Lib.hid (gz11.below d11)
      have T10b := Lib.hid (T10.out.below' hbb11)
      have GX10b := Lib.hid (GX10.out.below hbb11)
      have GZ10b := Lib.hid (GZ10.out.below hbb11)
      have HW11 := Lib.hid hw11
      clear hw11 d11 hbb11 hb11 gx11 gz11
      have q0 := T10b.out.cell 0
      have q1 := T10b.out.cell 1
      have q2 := T11.out.cell 0
      have q3 := T11.out.cell 1
      go_wp2_with (rw [← HW11.out])
      refine (HCM3.out _ _ _ _ _ _ _ _ _ GX10b.out GZ10b.out GX11.out GZ11.out).mono ?_
      rintro e w12 ⟨rfl, hb12⟩
      have K12 : Hid (Below w.heap.size w w12) := bel_on K11.out hb12
      clear hb12 q0 q1 q2 q3
      go_wp2_with fail
      go_ret
      exact ⟨by simp, bel_on b0.out K12.out⟩
  · cases hv : scoresB u b l
    · have eb : boundS u b l y x z = (0, 70) := by unfold boundS; rw [ckSC_bad hv]; rfl
      rw [eb] at HBD
      rw [hv] at HVS
      clear eb hn hyl hlx hlz h hy hx hz h0 hy0 hx0 hz0 hk hW0 hgood
      go_enter Tryz.func12, Tryz.ntmps12
      go_wp2_with (rw [← HW0.out])
      refine (alive_any _).mono ?_
      rintro e w1 ⟨rfl, hb1⟩
      have K1 : Hid (Below w.heap.size w w1) := bel_on K0.out hb1
      clear hb1
      go_wp2_with (first | (refine wpList_load_row rfl 46 (.tmp 4) rfl w0.heap.size rfl 46 (scC u b A n c k).toArray (0, 0) _ (HXS.out _ K1.out) Tryz.underlying46 rfl HIN.out ?_) | (refine wpList_load_row rfl 27 (.tmp 6) rfl (w0.heap.size + 1) rfl 27 #[.slice X lx cx, .slice Z lz cz] (0, 0) _ (HXL.out _ K1.out) Tryz.underlying27 rfl (by kernel_rfl) ?_))
      refine (HBD.out _ K1.out).mono ?_
      rintro e w2 ⟨rfl, hb2⟩
      have K2 : Hid (Below w.heap.size w w2) := bel_on K1.out hb2
      clear hb2
      go_wp2_with (refine wpList_load_row rfl 46 (.tmp 4) rfl w0.heap.size rfl 46 (scC u b A n c k).toArray (0, 0) _ (HXS.out _ K2.out) Tryz.underlying46 rfl HIN.out ?_)
      refine (HVS.out _ K2.out).mono ?_
      rintro e w3 ⟨rfl, hb3⟩
      have K3 : Hid (Below w.heap.size w w3) := bel_on K2.out hb3
      have c2 : w3.cell? ⟨w0.heap.size, 2, none⟩ = some (.slice A n c) := (HXS.out _ K3.out).cell 2
      clear hb3
      go_wp2_with fail
      go_ret
      exact ⟨by simp, bel_on b0.out K3.out⟩
    · cases hc : copyB y n
      · have eb : boundS u b l y x z = (0, 71) := by unfold boundS; rw [ckSC_copy hv (by rw [hn]; exact hc)]; rfl
        rw [eb] at HBD
        rw [hv] at HVS
        rw [hc] at HCP
        clear eb hn hyl hlx hlz h hy hx hz h0 hy0 hx0 hz0 hk hW0 hgood
        go_enter Tryz.func12, Tryz.ntmps12
        go_wp2_with (rw [← HW0.out])
        refine (alive_any _).mono ?_
        rintro e w1 ⟨rfl, hb1⟩
        have K1 : Hid (Below w.heap.size w w1) := bel_on K0.out hb1
        clear hb1
        go_wp2_with (first | (refine wpList_load_row rfl 46 (.tmp 4) rfl w0.heap.size rfl 46 (scC u b A n c k).toArray (0, 0) _ (HXS.out _ K1.out) Tryz.underlying46 rfl HIN.out ?_) | (refine wpList_load_row rfl 27 (.tmp 6) rfl (w0.heap.size + 1) rfl 27 #[.slice X lx cx, .slice Z lz cz] (0, 0) _ (HXL.out _ K1.out) Tryz.underlying27 rfl (by kernel_rfl) ?_))
        refine (HBD.out _ K1.out).mono ?_
        rintro e w2 ⟨rfl, hb2⟩
        have K2 : Hid (Below w.heap.size w w2) := bel_on K1.out hb2
        clear hb2
        go_wp2_with (refine wpList_load_row rfl 46 (.tmp 4) rfl w0.heap.size rfl 46 (scC u b A n c k).toArray (0, 0) _ (HXS.out _ K2.out) Tryz.underlying46 rfl HIN.out ?_)
        refine (HVS.out _ K2.out).mono ?_
        rintro e w3 ⟨rfl, hb3⟩
        have K3 : Hid (Below w.heap.size w w3) := bel_on K2.out hb3
        have c2 : w3.cell? ⟨w0.heap.size, 2, none⟩ = some (.slice A n c) := (HXS.out _ K3.out).cell 2
        clear hb3
        go_wp2_with fail
        refine (HCP.out _ K3.out).mono ?_
        rintro e w4 ⟨rfl, rfl⟩
        clear c2
        go_wp2_with fail
        go_ret
        exact ⟨by simp, bel_on b0.out K3.out⟩
      · have hl : limB x z = false := by
          cases hl : limB x z
          · rfl
          · exact absurd ⟨hv, hc, hl⟩ hgood
        have eb : boundS u b l y x z = (0, 2) := by unfold boundS; rw [ckSC_ok hv (by rw [hn]; exact hc), if_pos rfl, hl]; rfl
        rw [eb] at HBD
        rw [hv] at HVS
        rw [hc] at HCP
        rw [hl] at HLI
        clear eb hn hyl hlx hlz h hy hx hz h0 hy0 hx0 hz0 hk hW0 hgood
        go_enter Tryz.func12, Tryz.ntmps12
        go_wp2_with (rw [← HW0.out])
        refine (alive_any _).mono ?_
        rintro e w1 ⟨rfl, hb1⟩
        have K1 : Hid (Below w.heap.size w w1) := bel_on K0.out hb1
        clear hb1
        go_wp2_with (first | (refine wpList_load_row rfl 46 (.tmp 4) rfl w0.heap.size rfl 46 (scC u b A n c k).toArray (0, 0) _ (HXS.out _ K1.out) Tryz.underlying46 rfl HIN.out ?_) | (refine wpList_load_row rfl 27 (.tmp 6) rfl (w0.heap.size + 1) rfl 27 #[.slice X lx cx, .slice Z lz cz] (0, 0) _ (HXL.out _ K1.out) Tryz.underlying27 rfl (by kernel_rfl) ?_))
        refine (HBD.out _ K1.out).mono ?_
        rintro e w2 ⟨rfl, hb2⟩
        have K2 : Hid (Below w.heap.size w w2) := bel_on K1.out hb2
        clear hb2
        go_wp2_with (refine wpList_load_row rfl 46 (.tmp 4) rfl w0.heap.size rfl 46 (scC u b A n c k).toArray (0, 0) _ (HXS.out _ K2.out) Tryz.underlying46 rfl HIN.out ?_)
        refine (HVS.out _ K2.out).mono ?_
        rintro e w3 ⟨rfl, hb3⟩
        have K3 : Hid (Below w.heap.size w w3) := bel_on K2.out hb3
        have c2 : w3.cell? ⟨w0.heap.size, 2, none⟩ = some (.slice A n c) := (HXS.out _ K3.out).cell 2
        clear hb3
        go_wp2_with fail
        refine (HCP.out _ K3.out).mono ?_
        rintro e w4 ⟨rfl, rfl⟩
        clear c2
        have l0 := (HXL.out _ K3.out).cell 0
        have l1 := (HXL.out _ K3.out).cell 1
        go_wp2_with fail
        clear l0 l1
        refine (HLI.out _ K3.out).mono ?_
        rintro e w5 ⟨rfl, hb5⟩
        have K5 : Hid (Below w.heap.size w w5) := bel_on K3.out hb5
        clear hb5
        go_wp2_with fail
        go_ret
        exact ⟨by simp, bel_on b0.out K5.out⟩
theorem codeBound_walk (u b : Int) (A : Option Addr) (c : Nat) (l : List Int) (k : List UInt8) (Y : Option Addr) (d : Nat) (y : List UInt8) (X : Option Addr) (cx : Nat) (x : List Nat) (Z : Option Addr) (cz : Nat) (z : List Nat) (zz : Int) (w : World) (h : IR w A c l) (hk : k.length = 16) (hy : BR w Y d y) (hx : NR w X cx x) (hz : NR w Z cz z) (h1 : -9223372036854775808 ≤ zz) (h2 : zz ≤ 9223372036854775807) :
    Calls Tryz.prog 12 #[.agg (scC u b A l.length c k).toArray, .slice Y y.length d, .agg #[.slice X x.length cx, .slice Z z.length cz], .int .i64 zz] w fun e w' => e = .returned (.bool true) ∧ Below w.heap.size w w' := codeBound_walk0 u b A c l k Y d y X cx x Z cz z zz w h hk hy hx hz h1 h2
end Go.Proofs.YtenpkmgbaajeeaaGreat

/- The law CodeThreshold: the walk. -/
namespace Go.Proofs.YtenpkmgbaajeeaaGreat
open Go.RowKit
set_option linter.unusedVariables false
set_option linter.unusedSimpArgs false

theorem bin_sm {d : Nat} (h : d ≤ 64) : Sm (bin (2 * d) d) := sm_bin (by omega)
theorem bin_ne (d : Nat) : bin (2 * d) d ≠ 0 := by have := bin_pos (a := 2 * d) (b := d) (by omega); omega
theorem divs_sm {d k X : Nat} (hd : d ≤ 64) (hk : k ≤ 2 * d) (hX : X ≤ k + 1) : Sm (divsN d k X) := (bin_sm hd).mono (by have := divsN_sym hk hX; omega)
/-- The tail of the threshold is at most the limit, and that of the next number is above it. -/
theorem thr_tails {s : StV} (hok : s.ok = true) {d K : Nat} (hd : s.b = (d : Int)) (hK : K ≤ 2 * d) : ∃ X : Nat, s.th K + 1 = (X : Int) ∧ X + 1 ≤ K + 1 ∧ -1 ≤ s.th K ∧ s.th K < K ∧
    cmpFS (lowS (divsN d K X) (bin (2 * d) d)).1 (lowS (divsN d K X) (bin (2 * d) d)).2 s.x s.y = (cmpN (divsN d K X * val s.y) (val s.x * bin (2 * d) d), 0) ∧ cmpN (divsN d K X * val s.y) (val s.x * bin (2 * d) d) ≤ 0 ∧
    cmpFS (lowS (divsN d K (X + 1)) (bin (2 * d) d)).1 (lowS (divsN d K (X + 1)) (bin (2 * d) d)).2 s.x s.y = (cmpN (divsN d K (X + 1) * val s.y) (val s.x * bin (2 * d) d), 0) ∧ 0 < cmpN (divsN d K (X + 1) * val s.y) (val s.x * bin (2 * d) d) := by
  obtain ⟨⟨q1, q2, q3, q4⟩, hl⟩ := StV.parts hok
  obtain ⟨hv, h2, h3, h4⟩ := limB_iff.1 hl
  have e : s.th K = thS d K (val s.x) (val s.y) := by unfold StV.th; rw [hd, Int.toNat_natCast]
  have h5 := thS_ge d K (val s.x) (val s.y)
  have h6 := thS_lt hK h4
  have h7 := thS_over h6
  rw [e]
  obtain ⟨X, hX⟩ : ∃ X : Nat, thS d K (val s.x) (val s.y) + 1 = (X : Int) := ⟨(thS d K (val s.x) (val s.y) + 1).toNat, by omega⟩
  rw [show (thS d K (val s.x) (val s.y) + 2).toNat = X + 1 from by omega] at h7
  refine ⟨X, hX, by omega, h5, h6, low_cmp (bin_ne d) (divs_sm (by omega) hK (by omega)) (bin_sm (by omega)) hv, cmpN_le0.2 ?_, low_cmp (bin_ne d) (divs_sm (by omega) hK (by omega)) (bin_sm (by omega)) hv, cmpN_gt0.2 h7⟩
  cases X with
  | zero => simp [divsN, sumN]
  | succ X => exact thS_under (by omega)
set_option maxHeartbeats 8000000 in
set_option maxRecDepth 100000 in
theorem codeThreshold_walk0 (s : StV) (k : Int) (w0 : World) (h0 : StOK w0 s) (hk1 : -9223372036854775808 ≤ k) (hk2 : k ≤ 9223372036854775807) :
    Calls Tryz.prog 10 #[.agg s.cs.toArray, .int .i64 k] w0 fun e w' => e = .returned (.bool true) ∧ Below w0.heap.size w0 w' := by
  have hk := h0.k16
  obtain ⟨w, hW0⟩ : ∃ W : World, W = w0.alloc (.cells s.cs.toArray 29) := ⟨_, rfl⟩
  have b0 : Hid (Below w0.heap.size w0 w) := by unfold Hid; rw [hW0]; exact alloc_bel _ _
  have x0 : Hid (Blk w w0.heap.size 29 s.cs.toArray) := by unfold Hid; rw [hW0]; exact Blk.new w0 _ _
  have h := h0.below b0.out
  have HW0 := Lib.hid hW0
  have HIN := Lib.hid (StV.info (s := s) hk)
  have K0 : Hid (Below w.heap.size w w) := Below.refl _ _
  have HX : Hid (∀ W, Below w.heap.size w W → Blk W w0.heap.size 29 s.cs.toArray) := fun W hW => x0.out.below' hW
  have HTH : Hid (∀ W, Below w.heap.size w W → Calls Tryz.prog 50 #[.agg s.cs.toArray, .int .i64 k] W fun e w' => e = .returned (.tuple #[.int .i64 (thrS s k).1, .int .i64 (thrS s k).2]) ∧ Below W.heap.size W w') := fun W hW => Threshold_any s k W (h.below hW)
  have HVS : Hid (∀ W, Below w.heap.size w W → Calls Tryz.prog 43 #[.agg s.cs.toArray] W fun e w' => e = .returned (.bool s.ok) ∧ Below W.heap.size W w') := fun W hW => refValidSteps_any s W (h.below hW)
  by_cases hok : s.ok = true
  · obtain ⟨⟨q1, q2, q3, q4⟩, -⟩ := StV.parts hok
    obtain ⟨D, hD⟩ : ∃ D : Nat, s.b = (D : Int) := ⟨s.b.toNat, by omega⟩
    have HCL : Hid (∀ W, Below w.heap.size w W → W.cell? ⟨w0.heap.size, 0, none⟩ = some (.int .i64 s.u) ∧ W.cell? ⟨w0.heap.size, 1, none⟩ = some (.int .i64 (D : Int)) ∧ W.cell? ⟨w0.heap.size, 18, none⟩ = some (.slice s.A s.x.length s.ca) ∧ W.cell? ⟨w0.heap.size, 19, none⟩ = some (.slice s.Bd s.y.length s.cb)) := fun W hW => by
      have := StV.cells hk (x0.out.below' hW)
      rw [hD] at this
      exact this
    by_cases hr : k < 0 ∨ 2 * s.b < k
    · have e1 : thrS s k = (0, 2) := by unfold thrS; rw [if_pos hok, if_pos hr]
      rw [e1] at HTH
      rw [hok] at HVS
      rw [hD] at hr
      have hD64 : (D : Int) ≤ 64 := by omega
      generalize s.cs.toArray = cs at *
      clear hok hW0 h h0 hk q1 q2 q3 q4
      go_enter Tryz.func10, Tryz.ntmps10
      go_wp2_with (rw [← HW0.out])
      refine (alive_any _).mono ?_
      rintro e w1 ⟨rfl, hb1⟩
      have K1 : Hid (Below w.heap.size w w1) := hb1
      have X1 := Lib.hid (HX.out _ K1.out)
      clear hb1
      go_wp2_with (refine wpList_load_row rfl 29 (.tmp 2) rfl w0.heap.size rfl 29 cs (0, 0) _ X1.out Tryz.underlying29 rfl HIN.out ?_)
      refine (HTH.out _ K1.out).mono ?_
      rintro e w2 ⟨rfl, hb2⟩
      have K2 : Hid (Below w.heap.size w w2) := bel_on K1.out hb2
      have X2 := Lib.hid (HX.out _ K2.out)
      clear hb2
      go_wp2_with (refine wpList_load_row rfl 29 (.tmp 2) rfl w0.heap.size rfl 29 cs (0, 0) _ X2.out Tryz.underlying29 rfl HIN.out ?_)
      refine (HVS.out _ K2.out).mono ?_
      rintro e w3 ⟨rfl, hb3⟩
      have K3 : Hid (Below w.heap.size w w3) := bel_on K2.out hb3
      obtain ⟨-, c1, -, -⟩ := HCL.out _ K3.out
      clear hb3
      by_cases hk0 : k < 0
      · go_wp2_with fail
        go_ret
        exact ⟨by simp, bel_on b0.out K3.out⟩
      · have hk3 : 2 * (D : Int) < k := by omega
        go_wp2_with fail
        go_ret
        exact ⟨by simp, bel_on b0.out K3.out⟩
    · obtain ⟨K, rfl⟩ : ∃ K : Nat, k = (K : Int) := ⟨k.toNat, by omega⟩
      have e1 : thrS s K = (s.th K, 0) := by unfold thrS; rw [if_pos hok, if_neg hr, Int.toNat_natCast]
      obtain ⟨X, hX, hXK, t1, t2, r1, r2, r3, r4⟩ := thr_tails hok hD (show K ≤ 2 * D by omega)
      have u1 := tailS_yes hX (show 1 ≤ D by omega) (by omega) (show K ≤ 2 * D by omega) (show X ≤ K + 1 by omega)
      have u2 := tailS_yes (show s.th K + 1 + 1 = ((X + 1 : Nat) : Int) by omega) (show 1 ≤ D by omega) (by omega) (show K ≤ 2 * D by omega) hXK
      rw [e1] at HTH
      rw [hok] at HVS
      have HCM1 : Hid (∀ W A a B b, Below w.heap.size w W → NR W A a (lowS (divsN D K X) (bin (2 * D) D)).1 → NR W B b (lowS (divsN D K X) (bin (2 * D) D)).2 → Calls Tryz.prog 54 #[.agg #[.slice A (lowS (divsN D K X) (bin (2 * D) D)).1.length a, .slice B (lowS (divsN D K X) (bin (2 * D) D)).2.length b], .agg #[.slice s.A s.x.length s.ca, .slice s.Bd s.y.length s.cb]] W fun e w' => e = .returned (.tuple #[.int .i64 (cmpN (divsN D K X * val s.y) (val s.x * bin (2 * D) D)), .int .i64 0]) ∧ Below W.heap.size W w') := fun W A a B b hW g1 g2 => (CompareFractions_any A a _ B b _ s.A s.ca s.x s.Bd s.cb s.y W rfl rfl rfl rfl g1 g2 (h.hx.below hW) (h.hy.below hW)).mono fun e w' hq => by
        rw [r1] at hq
        exact hq
      have HCM2 : Hid (∀ W A a B b, Below w.heap.size w W → NR W A a (lowS (divsN D K (X + 1)) (bin (2 * D) D)).1 → NR W B b (lowS (divsN D K (X + 1)) (bin (2 * D) D)).2 → Calls Tryz.prog 54 #[.agg #[.slice A (lowS (divsN D K (X + 1)) (bin (2 * D) D)).1.length a, .slice B (lowS (divsN D K (X + 1)) (bin (2 * D) D)).2.length b], .agg #[.slice s.A s.x.length s.ca, .slice s.Bd s.y.length s.cb]] W fun e w' => e = .returned (.tuple #[.int .i64 (cmpN (divsN D K (X + 1) * val s.y) (val s.x * bin (2 * D) D)), .int .i64 0]) ∧ Below W.heap.size W w') := fun W A a B b hW g1 g2 => (CompareFractions_any A a _ B b _ s.A s.ca s.x s.Bd s.cb s.y W rfl rfl rfl rfl g1 g2 (h.hx.below hW) (h.hy.below hW)).mono fun e w' hq => by
        rw [r3] at hq
        exact hq
      obtain ⟨z1, hz1⟩ : ∃ z, cmpN (divsN D K X * val s.y) (val s.x * bin (2 * D) D) = z := ⟨_, rfl⟩
      obtain ⟨z2, hz2⟩ : ∃ z, cmpN (divsN D K (X + 1) * val s.y) (val s.x * bin (2 * D) D) = z := ⟨_, rfl⟩
      rw [hz1] at HCM1 r2
      rw [hz2] at HCM2 r4
      obtain ⟨th, hth⟩ : ∃ q, s.th K = q := ⟨_, rfl⟩
      rw [hth] at HTH t1 t2 u1 u2
      have HT1 : Hid (∀ W, Calls Tryz.prog 55 #[.int .i64 (D : Int), .int .i64 (K : Int), .int .i64 th] W fun e w' => ∃ X x' Z z, e = .returned (.tuple #[.agg #[.slice X (tailS (D : Int) (K : Int) th).1.1.length x', .slice Z (tailS (D : Int) (K : Int) th).1.2.length z], .int .i64 (tailS (D : Int) (K : Int) th).2]) ∧ NR w' X x' (tailS (D : Int) (K : Int) th).1.1 ∧ NR w' Z z (tailS (D : Int) (K : Int) th).1.2 ∧ Below W.heap.size W w') := fun W => (Tail_any (D : Int) (K : Int) th W).mono fun e w' h => frac2_open_ h
      have HT2 : Hid (∀ W, Calls Tryz.prog 55 #[.int .i64 (D : Int), .int .i64 (K : Int), .int .i64 (th + 1)] W fun e w' => ∃ X x' Z z, e = .returned (.tuple #[.agg #[.slice X (tailS (D : Int) (K : Int) (th + 1)).1.1.length x', .slice Z (tailS (D : Int) (K : Int) (th + 1)).1.2.length z], .int .i64 (tailS (D : Int) (K : Int) (th + 1)).2]) ∧ NR w' X x' (tailS (D : Int) (K : Int) (th + 1)).1.1 ∧ NR w' Z z (tailS (D : Int) (K : Int) (th + 1)).1.2 ∧ Below W.heap.size W w') := fun W => (Tail_any (D : Int) (K : Int) (th + 1) W).mono fun e w' h => frac2_open_ h
      rw [u1] at HT1
      rw [u2] at HT2
      dsimp only at HT1 HT2
      have g1 : ¬ ((K : Int) < 0) := by omega
      have g2 : ¬ (2 * (D : Int) < (K : Int)) := by omega
      have g3 : (D : Int) ≤ 64 := by omega
      have g4 : (K : Int) ≤ 128 := by omega
      have g5 : th ≤ 128 := by omega
      generalize (lowS (divsN D K X) (bin (2 * D) D)) = l1 at *
      generalize (lowS (divsN D K (X + 1)) (bin (2 * D) D)) = l2 at *
      obtain ⟨l1a, l1b⟩ := l1
      obtain ⟨l2a, l2b⟩ := l2
      dsimp only at *
      generalize l1a.length = n1a at *
      generalize l1b.length = n1b at *
      generalize l2a.length = n2a at *
      generalize l2b.length = n2b at *
      generalize s.x.length = lx at *
      generalize s.y.length = ly at *
      generalize s.cs.toArray = cs at *
      clear hok hW0 h h0 hk q1 q2 q3 q4 hr hX hXK r1 r3 u1 u2 hz1 hz2 hth e1
      go_enter Tryz.func10, Tryz.ntmps10
      go_wp2_with (rw [← HW0.out])
      refine (alive_any _).mono ?_
      rintro e w1 ⟨rfl, hb1⟩
      have K1 : Hid (Below w.heap.size w w1) := hb1
      have X1 := Lib.hid (HX.out _ K1.out)
      clear hb1
      go_wp2_with (refine wpList_load_row rfl 29 (.tmp 2) rfl w0.heap.size rfl 29 cs (0, 0) _ X1.out Tryz.underlying29 rfl HIN.out ?_)
      refine (HTH.out _ K1.out).mono ?_
      rintro e w2 ⟨rfl, hb2⟩
      have K2' : Hid (Below w.heap.size w w2) := bel_on K1.out hb2
      have X2 := Lib.hid (HX.out _ K2'.out)
      clear hb2
      go_wp2_with (refine wpList_load_row rfl 29 (.tmp 2) rfl w0.heap.size rfl 29 cs (0, 0) _ X2.out Tryz.underlying29 rfl HIN.out ?_)
      refine (HVS.out _ K2'.out).mono ?_
      rintro e w2b ⟨rfl, hb2⟩
      have K2 : Hid (Below w.heap.size w w2b) := bel_on K2'.out hb2
      obtain ⟨-, c1, -, -⟩ := HCL.out _ K2.out
      clear hb2
      go_wp2_with fail
      clear c1
      refine (HT1.out _).mono ?_
      rintro e w3 ⟨X3, x3, Z3, z3, rfl, gx3, gz3, hb3⟩
      obtain ⟨w3b, hw3⟩ : ∃ W, W = w3.alloc (.cells #[.slice X3 n1a x3, .slice Z3 n1b z3] 27) := ⟨_, rfl⟩
      have d3 : Below w3.heap.size w3 w3b := by rw [hw3]; exact alloc_bel _ _
      have hbb3 := bel_on hb3 d3
      have K3 : Hid (Below w.heap.size w w3b) := bel_on K2.out hbb3
      have T3 : Hid (Blk w3b w3.heap.size 27 #[.slice X3 n1a x3, .slice Z3 n1b z3]) := by unfold Hid; rw [hw3]; exact Blk.new _ _ _
      have GX3 := Lib.hid (gx3.below d3)
      have GZ3 := Lib.hid (gz3.below d3)
      have HW3 := Lib.hid hw3
      clear hw3 d3 hbb3 hb3 gx3 gz3
      have q0 := T3.out.cell 0
      have q1 := T3.out.cell 1
      obtain ⟨c0, c1, c18, c19⟩ := HCL.out _ K3.out
      go_wp2_with (rw [← HW3.out])
      refine (HCM1.out _ _ _ _ _ K3.out GX3.out GZ3.out).mono ?_
      rintro e w4 ⟨rfl, hb4⟩
      have K4 : Hid (Below w.heap.size w w4) := bel_on K3.out hb4
      clear hb4 q0 q1 c0 c1 c18 c19
      obtain ⟨-, c1, -, -⟩ := HCL.out _ K4.out
      go_wp2_with fail
      clear c1
      refine (HT2.out _).mono ?_
      rintro e w5 ⟨X5, x5, Z5, z5, rfl, gx5, gz5, hb5⟩
      obtain ⟨w5b, hw5⟩ : ∃ W, W = w5.alloc (.cells #[.slice X5 n2a x5, .slice Z5 n2b z5] 27) := ⟨_, rfl⟩
      have d5 : Below w5.heap.size w5 w5b := by rw [hw5]; exact alloc_bel _ _
      have hbb5 := bel_on hb5 d5
      have K5 : Hid (Below w.heap.size w w5b) := bel_on K4.out hbb5
      have T5 : Hid (Blk w5b w5.heap.size 27 #[.slice X5 n2a x5, .slice Z5 n2b z5]) := by unfold Hid; rw [hw5]; exact Blk.new _ _ _
      have GX5 := Lib.hid (gx5.below d5)
      have GZ5 := Lib.hid (gz5.below d5)
      have HW5 := Lib.hid hw5
      clear hw5 d5 hbb5 hb5 gx5 gz5
      have q0 := T5.out.cell 0
      have q1 := T5.out.cell 1
      obtain ⟨c0, c1, c18, c19⟩ := HCL.out _ K5.out
      go_wp2_with (rw [← HW5.out])
      refine (HCM2.out _ _ _ _ _ K5.out GX5.out GZ5.out).mono ?_
      rintro e w6 ⟨rfl, hb6⟩
      have K6 : Hid (Below w.heap.size w w6) := bel_on K5.out hb6
      clear hb6 q0 q1 c0 c1 c18 c19
      go_wp2_with fail
      go_ret
      exact ⟨by simp, bel_on b0.out K6.out⟩
  · have hok2 : s.ok = false := by simpa using hok
    have e1 : thrS s k = (0, 70) := by unfold thrS; rw [if_neg hok]
    rw [e1] at HTH
    rw [hok2] at HVS
    generalize s.cs.toArray = cs at *
    clear hok hok2 hW0 h h0 hk
    go_enter Tryz.func10, Tryz.ntmps10
    go_wp2_with (rw [← HW0.out])
    refine (alive_any _).mono ?_
    rintro e w1 ⟨rfl, hb1⟩
    have K1 : Hid (Below w.heap.size w w1) := hb1
    have X1 := Lib.hid (HX.out _ K1.out)
    clear hb1
    go_wp2_with (refine wpList_load_row rfl 29 (.tmp 2) rfl w0.heap.size rfl 29 cs (0, 0) _ X1.out Tryz.underlying29 rfl HIN.out ?_)
    refine (HTH.out _ K1.out).mono ?_
    rintro e w2 ⟨rfl, hb2⟩
    have K2 : Hid (Below w.heap.size w w2) := bel_on K1.out hb2
    have X2 := Lib.hid (HX.out _ K2.out)
    clear hb2
    go_wp2_with (refine wpList_load_row rfl 29 (.tmp 2) rfl w0.heap.size rfl 29 cs (0, 0) _ X2.out Tryz.underlying29 rfl HIN.out ?_)
    refine (HVS.out _ K2.out).mono ?_
    rintro e w3 ⟨rfl, hb3⟩
    have K3 : Hid (Below w.heap.size w w3) := bel_on K2.out hb3
    clear hb3
    go_wp2_with fail
    go_ret
    exact ⟨by simp, bel_on b0.out K3.out⟩
theorem codeThreshold_walk (s : StV) (k : Int) (w : World) (h : StOK w s) (h1 : -9223372036854775808 ≤ k) (h2 : k ≤ 9223372036854775807) :
    Calls Tryz.prog 10 #[.agg s.cs.toArray, .int .i64 k] w fun e w' => e = .returned (.bool true) ∧ Below w.heap.size w w' := codeThreshold_walk0 s k w h h1 h2
end Go.Proofs.YtenpkmgbaajeeaaGreat

/- The law CodeComplete: the walk. -/
namespace Go.Proofs.YtenpkmgbaajeeaaGreat
open Go.RowKit
set_option linter.unusedVariables false
set_option linter.unusedSimpArgs false

theorem namesF_up (P : Nat → Bool) : ∀ n i, i + 1 < (namesF P n).length → it (namesF P n) i < it (namesF P n) (i + 1)
  | 0, i, h => by simp [namesF] at h
  | n + 1, i, h => by
    cases e : P n
    · rw [namesF_no e] at h ⊢
      exact namesF_up P n i h
    · rw [namesF_yes e] at h ⊢
      simp only [List.length_append, List.length_cons, List.length_nil] at h
      by_cases g : i + 1 < (namesF P n).length
      · have h1 := namesF_up P n i g
        rw [it_in (by omega), it_in g] at h1
        rw [it_in (by simp; omega), it_in (by simp; omega), List.getElem_append_left (by omega), List.getElem_append_left g]
        exact h1
      · have e2 : i + 1 = (namesF P n).length := by omega
        rw [it_in (by simp; omega), it_in (by simp; omega), List.getElem_append_left (by omega), List.getElem_append_right (by omega)]
        obtain ⟨u, hu, -, hx⟩ := namesF_mem.1 (List.getElem_mem (l := namesF P n) (n := i) (by omega))
        rw [hx]
        simp only [← e2, Nat.sub_self, List.getElem_cons_zero]
        omega
theorem StV.nms_at (s : StV) (y : List UInt8) {i : Nat} (h : i < (s.nms y).length) : 0 ≤ it (s.nms y) i ∧ it (s.nms y) i < s.u.toNat := by
  obtain ⟨u, hu, -, hx⟩ := namesF_mem.1 (List.getElem_mem (l := s.nms y) (n := i) h)
  rw [it_in h, hx]
  omega
theorem StV.nms_up (s : StV) (y : List UInt8) {i : Nat} (h : i + 1 < (s.nms y).length) : it (s.nms y) i < it (s.nms y) (i + 1) := namesF_up _ _ i h
theorem StV.nms_some {s : StV} (hok : s.ok = true) (y : List UInt8) (hc : s.cmp = true) : 0 < (s.nms y).length := by
  obtain ⟨⟨q1, q2, q3, q4⟩, -⟩ := StV.parts hok
  unfold StV.cmp at hc
  rw [Bool.not_eq_true'] at hc
  obtain ⟨u, hu, hn⟩ := complete_names (users := s.u.toNat) (w := s.wts y) (by omega) (fun b hb => StV.wts_le hok y b hb) hc
  have : (u : Int) ∈ s.nms y := namesF_mem.2 ⟨u, hu, hn, rfl⟩
  exact List.length_pos_of_mem this
set_option maxHeartbeats 8000000 in
set_option maxRecDepth 100000 in
theorem codeComplete_walk0 (s : StV) (Y : Option Addr) (d : Nat) (y : List UInt8) (w0 : World) (h0 : StOK w0 s) (hy0 : BR w0 Y d y) :
    Calls Tryz.prog 15 #[.agg s.cs.toArray, .slice Y y.length d] w0 fun e w' => e = .returned (.bool true) ∧ Below w0.heap.size w0 w' := by
  obtain ⟨ny, hyl⟩ : ∃ n, y.length = n := ⟨_, rfl⟩
  rw [hyl]
  have hk := h0.k16
  obtain ⟨w, hW0⟩ : ∃ W : World, W = w0.alloc (.cells s.cs.toArray 29) := ⟨_, rfl⟩
  have b0 : Hid (Below w0.heap.size w0 w) := by unfold Hid; rw [hW0]; exact alloc_bel _ _
  have HX : Hid (∀ W, Below w.heap.size w W → Blk W w0.heap.size 29 s.cs.toArray) := fun W hW => Blk.below' (by rw [hW0]; exact Blk.new w0 _ _) hW
  have h := h0.below b0.out
  have HW0 := Lib.hid hW0
  have HIN := Lib.hid (StV.info (s := s) hk)
  have K0 : Hid (Below w.heap.size w w) := Below.refl _ _
  have hy := hy0.below b0.out
  have HVS : Hid (∀ W, Below w.heap.size w W → Calls Tryz.prog 43 #[.agg s.cs.toArray] W fun e w' => e = .returned (.bool s.ok) ∧ Below W.heap.size W w') := fun W hW => refValidSteps_any s W (h.below hW)
  by_cases hok : s.ok = true
  · obtain ⟨⟨q1, q2, q3, q4⟩, -⟩ := StV.parts hok
    obtain ⟨hn1, hnl, hnu⟩ := StV.n_le hok
    have HCL : Hid (∀ W, Below w.heap.size w W → W.cell? ⟨w0.heap.size, 0, none⟩ = some (.int .i64 s.u) ∧ W.cell? ⟨w0.heap.size, 1, none⟩ = some (.int .i64 s.b) ∧ W.cell? ⟨w0.heap.size, 18, none⟩ = some (.slice s.A s.x.length s.ca) ∧ W.cell? ⟨w0.heap.size, 19, none⟩ = some (.slice s.Bd s.y.length s.cb)) := fun W hW => by
      have := StV.cells hk (HX.out W hW)
      skip
      exact this
    have HCP : Hid (∀ W, Below w.heap.size w W → Calls Tryz.prog 61 #[.agg s.cs.toArray] W fun e w' => e = .returned (.tuple #[.bool s.cmp, .int .i64 0]) ∧ Below W.heap.size W w') := fun W hW => complete_good s W (h.below hW) hok
    have HIC : Hid (∀ W, Below w.heap.size w W → Calls Tryz.prog 44 #[.slice Y ny d, .int .i64 (s.n : Int)] W fun e w' => e = .returned (.bool (copyB y s.n)) ∧ W = w') := fun W hW => refIsCopy_any Y d y s.n W hyl (hy.below hW) (by omega)
    rw [hok] at HVS
    obtain ⟨v, hv⟩ : ∃ v, s.u - 1 = v := ⟨_, rfl⟩
    have ev : IntKind.i64.wrap (s.u - 1) = v := by rw [IntKind.wrap_i64]; omega
    rw [hv] at hnu
    have evb : IntKind.i64.wrap (v * s.b) = (s.n : Int) := by rw [← hnu, IntKind.wrap_i64]; omega
    have ev2 : IntKind.i64.wrap v = v := by rw [IntKind.wrap_i64]; omega
    have evb' : v * s.b = (s.n : Int) := hnu.symm
    have evn : IntKind.i64.wrap (s.n : Int) = (s.n : Int) := by rw [IntKind.wrap_i64]; omega
    clear hv
    cases hc : copyB y s.n
    · rw [hc] at HIC
      generalize s.n = n at *
      generalize s.u = u at *
      generalize s.b = b at *
      generalize s.cmp = cm at *
      generalize s.x.length = lx at *
      generalize s.y.length = ly at *
      generalize s.cs.toArray = cs at *
      clear hok hW0 h h0 hy hy0 hk hc hnl hn1 hnu hyl
      go_enter Tryz.func15, Tryz.ntmps15
      go_wp2_with (rw [← HW0.out])
      refine (alive_any _).mono ?_
      rintro e w1 ⟨rfl, hb1⟩
      have K1 : Hid (Below w.heap.size w w1) := bel_on K0.out hb1
      clear hb1
      go_wp2_with (refine wpList_load_row rfl 29 (.tmp 2) rfl w0.heap.size rfl 29 cs (0, 0) _ (HX.out _ K1.out) Tryz.underlying29 rfl HIN.out ?_)
      refine (HCP.out _ K1.out).mono ?_
      rintro e w2 ⟨rfl, hb2⟩
      have K2 : Hid (Below w.heap.size w w2) := bel_on K1.out hb2
      clear hb2
      go_wp2_with (refine wpList_load_row rfl 29 (.tmp 2) rfl w0.heap.size rfl 29 cs (0, 0) _ (HX.out _ K2.out) Tryz.underlying29 rfl HIN.out ?_)
      refine (HVS.out _ K2.out).mono ?_
      rintro e w3 ⟨rfl, hb3⟩
      have K3 : Hid (Below w.heap.size w w3) := bel_on K2.out hb3
      obtain ⟨c0, c1, -, -⟩ := HCL.out _ K3.out
      clear hb3
      go_wp2_with fail
      clear c0 c1
      refine (HIC.out _ K3.out).mono ?_
      rintro e w4 ⟨rfl, rfl⟩
      go_wp2_with fail
      go_ret
      exact ⟨by simp, bel_on b0.out K3.out⟩
    · have HTS : Hid (∀ W, Below w.heap.size w W → Calls Tryz.prog 26 #[.agg s.cs.toArray, .slice Y ny d] W fun e w' => ∃ A c, (e = .returned (.tuple #[.slice A (s.nms y).length c, .int .i64 0]) ∧ IR w' A c (s.nms y)) ∧ Below W.heap.size W w') := fun W hW => (TraceSteps_any s Y d y W (h.below hW) hyl (hy.below hW)).mono fun e w' ⟨⟨A, c', he, ho⟩, h2⟩ => by
        have : s.nmsR y = (s.nms y, 0) := by unfold StV.nmsR; rw [if_neg (by rw [hok]; simp), if_neg (by rw [hc]; simp)]
        rw [this] at he ho
        exact ⟨A, c', ⟨he, ho⟩, h2⟩
      have HAT : Hid (∀ i, i < (s.nms y).length → 0 ≤ it (s.nms y) i ∧ it (s.nms y) i < s.u) := fun i hi => by
        have := s.nms_at y hi
        omega
      have HUP : Hid (∀ i, i + 1 < (s.nms y).length → it (s.nms y) i < it (s.nms y) (i + 1)) := fun i hi => s.nms_up y hi
      have HNS : Hid (s.cmp = true → 0 < (s.nms y).length) := StV.nms_some hok y
      have hsm := (StV.nms_small hok y).1
      rw [hc] at HIC
      generalize s.nms y = nm at *
      obtain ⟨nl, hnm⟩ : ∃ nl, nm.length = nl := ⟨_, rfl⟩
      rw [hnm] at HTS HAT HUP HNS hsm
      have HNL := Lib.hid hnm
      have hsmi : (nl : Int) ≤ 16 := by omega
      generalize s.n = n at *
      generalize s.u = u at *
      generalize s.b = b at *
      generalize s.cmp = cm at *
      generalize s.x.length = lx at *
      generalize s.y.length = ly at *
      generalize s.cs.toArray = cs at *
      clear hok hW0 h h0 hy hy0 hk hc hnl hn1 hnu hyl hnm hsm
      go_enter Tryz.func15, Tryz.ntmps15
      go_wp2_with (rw [← HW0.out])
      refine (alive_any _).mono ?_
      rintro e w1 ⟨rfl, hb1⟩
      have K1 : Hid (Below w.heap.size w w1) := bel_on K0.out hb1
      clear hb1
      go_wp2_with (refine wpList_load_row rfl 29 (.tmp 2) rfl w0.heap.size rfl 29 cs (0, 0) _ (HX.out _ K1.out) Tryz.underlying29 rfl HIN.out ?_)
      refine (HCP.out _ K1.out).mono ?_
      rintro e w2 ⟨rfl, hb2⟩
      have K2 : Hid (Below w.heap.size w w2) := bel_on K1.out hb2
      clear hb2
      go_wp2_with (refine wpList_load_row rfl 29 (.tmp 2) rfl w0.heap.size rfl 29 cs (0, 0) _ (HX.out _ K2.out) Tryz.underlying29 rfl HIN.out ?_)
      refine (HVS.out _ K2.out).mono ?_
      rintro e w3 ⟨rfl, hb3⟩
      have K3 : Hid (Below w.heap.size w w3) := bel_on K2.out hb3
      obtain ⟨c0, c1, -, -⟩ := HCL.out _ K3.out
      clear hb3
      go_wp2_with fail
      clear c0 c1
      refine (HIC.out _ K3.out).mono ?_
      rintro e w4 ⟨rfl, rfl⟩
      go_wp2_with (refine wpList_load_row rfl 29 (.tmp 2) rfl w0.heap.size rfl 29 cs (0, 0) _ (HX.out _ K3.out) Tryz.underlying29 rfl HIN.out ?_)
      refine (HTS.out _ K3.out).mono ?_
      rintro e w5 ⟨A, cA, ⟨rfl, hI⟩, hb5⟩
      have K5 : Hid (Below w.heap.size w w5) := bel_on K3.out hb5
      have HI : Hid (∀ W, Below w5.heap.size w5 W → IR W A cA nm) := fun W hW => hI.below hW
      clear hb5 hI evb evb' ev ev2 evn
      go_wp2_with fail
      go_loopw [10] (fun vi wr => ∃ i : Nat, i ≤ nl ∧ vi = .int .i64 (i : Int) ∧ Below w5.heap.size w5 wr) (fun vi _ => nl - (intOf vi).toNat)
      case atStart => exact ⟨0, by omega, rfl, Below.refl _ _⟩
      case round =>
        obtain ⟨i, hi, rfl, hbel⟩ := hrel
        have hlt := hbel
        by_cases hin : i < nl
        · have hii : (i : Int) < nl := by omega
          have hi0 : (0 : Int) ≤ i := by omega
          obtain ⟨r1, r2⟩ := HAT.out i hin
          obtain ⟨p, o, rfl, -, g1⟩ := (HI.out _ hbel).at_ (i := i) (by rw [HNL.out]; exact hin)
          obtain ⟨X, hX⟩ : ∃ X, it nm i = X := ⟨_, rfl⟩
          rw [hX] at g1 r1 r2
          have rn1 : decide (X < 0) = false := by simp; omega
          have rn2 : decide (u ≤ X) = false := by simp; omega
          have c0 : wr.cell? ⟨w0.heap.size, 0, none⟩ = some (.int .i64 u) := (HCL.out _ (bel_on K5.out hbel)).1
          by_cases hip : i = 0
          · have hn0 : decide ((0 : Int) < (i : Int)) = false := by simp; omega
            have hn0' : decide (0 < i) = false := by simp; omega
            clear hin hX r1 r2 hip hlt
            go_wp2_with fail
            go_quiet (fail)
            go_wp2_with fail
            go_roundw
            case rel => exact ⟨i + 1, by omega, by go_num, below_drewN hbel _⟩
            case measure => simp [intOf]; omega
          · obtain ⟨j, rfl⟩ : ∃ j, i = j + 1 := ⟨i - 1, by omega⟩
            have hup := HUP.out j hin
            obtain ⟨p', o', e', -, g2⟩ := (HI.out _ hbel).at_ (i := j) (by rw [HNL.out]; omega)
            injection e' with e'
            injection e' with e1 e2
            subst e1 e2
            rw [hX] at hup
            obtain ⟨Z, hZ⟩ : ∃ Z, it nm j = Z := ⟨_, rfl⟩
            rw [hZ] at g2 hup
            have rn3 : decide (X ≤ Z) = false := by simp; omega
            obtain ⟨i, hij⟩ : ∃ i, j + 1 = i := ⟨_, rfl⟩
            rw [hij] at g1 hii hi hin hi0 ⊢
            have hn0 : decide ((0 : Int) < (i : Int)) = true := by simp; omega
            have hn0' : decide (0 < i) = true := by simp; omega
            have hj0 : (0 : Int) ≤ j := by omega
            have hjn : (j : Int) < nl := by omega
            have ej : IntKind.i64.wrap ((i : Int) - 1) = (j : Int) := by rw [IntKind.wrap_i64]; omega
            have ej2 : (i : Int) - 1 = (j : Int) := by omega
            clear hin hX r1 r2 hip hlt hup hZ hij
            go_wp2_with fail
            go_quiet (fail)
            clear ej2
            go_wp2_with fail
            go_roundw
            case rel => exact ⟨i + 1, by omega, by go_num, below_drewN hbel _⟩
            case measure => simp [intOf]; omega
        · obtain rfl : i = nl := by omega
          have hx5 : ¬ ((i : Int) < (i : Int)) := by omega
          have hpos : cm = true → (0 : Int) < i := fun g => by have := HNS.out g; omega
          cases cm
          · clear hpos
            go_wp2_with fail
            go_ret
            exact ⟨by simp, bel_on b0.out (bel_on K5.out hbel)⟩
          · have hpos' := hpos rfl
            clear hpos
            go_wp2_with fail
            go_ret
            exact ⟨by simp; omega, bel_on b0.out (bel_on K5.out hbel)⟩
  · have hok2 : s.ok = false := by simpa using hok
    have HCP : Hid (∀ W, Below w.heap.size w W → Calls Tryz.prog 61 #[.agg s.cs.toArray] W fun e w' => e = .returned (.tuple #[.bool (cmpSt s).1, .int .i64 (cmpSt s).2]) ∧ Below W.heap.size W w') := fun W hW => Complete_any s W (h.below hW)
    rw [hok2] at HVS
    generalize cmpSt s = cm at *
    generalize s.cs.toArray = cs at *
    clear hok hok2 hW0 h h0 hy hy0 hk hyl
    go_enter Tryz.func15, Tryz.ntmps15
    go_wp2_with (rw [← HW0.out])
    refine (alive_any _).mono ?_
    rintro e w1 ⟨rfl, hb1⟩
    have K1 : Hid (Below w.heap.size w w1) := bel_on K0.out hb1
    clear hb1
    go_wp2_with (refine wpList_load_row rfl 29 (.tmp 2) rfl w0.heap.size rfl 29 cs (0, 0) _ (HX.out _ K1.out) Tryz.underlying29 rfl HIN.out ?_)
    refine (HCP.out _ K1.out).mono ?_
    rintro e w2 ⟨rfl, hb2⟩
    have K2 : Hid (Below w.heap.size w w2) := bel_on K1.out hb2
    clear hb2
    go_wp2_with (refine wpList_load_row rfl 29 (.tmp 2) rfl w0.heap.size rfl 29 cs (0, 0) _ (HX.out _ K2.out) Tryz.underlying29 rfl HIN.out ?_)
    refine (HVS.out _ K2.out).mono ?_
    rintro e w3 ⟨rfl, hb3⟩
    have K3 : Hid (Below w.heap.size w w3) := bel_on K2.out hb3
    clear hb3
    go_wp2_with fail
    go_ret
    exact ⟨by simp, bel_on b0.out K3.out⟩
theorem codeComplete_walk (s : StV) (Y : Option Addr) (d : Nat) (y : List UInt8) (w : World) (h : StOK w s) (hy : BR w Y d y) :
    Calls Tryz.prog 15 #[.agg s.cs.toArray, .slice Y y.length d] w fun e w' => e = .returned (.bool true) ∧ Below w.heap.size w w' := codeComplete_walk0 s Y d y w h hy
end Go.Proofs.YtenpkmgbaajeeaaGreat

/- The law CodeTraces: the walk. -/
namespace Go.Proofs.YtenpkmgbaajeeaaGreat
open Go.RowKit
set_option linter.unusedVariables false
set_option linter.unusedSimpArgs false

/-- Whether a number is among the first of a list. -/
def hasS (l : List Int) (v : Int) : Nat → Bool
  | 0 => false
  | i + 1 => hasS l v i || decide (it l i = v)
theorem hasS_iff {l : List Int} {v : Int} : ∀ {i : Nat}, hasS l v i = true ↔ ∃ j, j < i ∧ it l j = v
  | 0 => by simp [hasS]
  | i + 1 => by
    rw [hasS, Bool.or_eq_true, hasS_iff, decide_eq_true_eq]
    constructor
    · rintro (⟨j, h1, h2⟩ | h)
      · exact ⟨j, by omega, h2⟩
      · exact ⟨i, by omega, h⟩
    · rintro ⟨j, h1, h2⟩
      by_cases e : j = i
      · subst e; exact .inr h2
      · exact .inl ⟨j, by omega, h2⟩
theorem hasS_names {P : Nat → Bool} {n v : Nat} (hv : v < n) : hasS (namesF P n) (v : Int) (namesF P n).length = P v := by
  rw [Bool.eq_iff_iff, hasS_iff]
  constructor
  · rintro ⟨j, h1, h2⟩
    rw [it_in h1] at h2
    obtain ⟨u, _, h3, h4⟩ := namesF_mem.1 (List.getElem_mem h1)
    have : u = v := by omega
    subst this
    exact h3
  · intro h
    have := namesF_mem.2 ⟨v, hv, h, rfl⟩
    obtain ⟨j, h1, h2⟩ := List.getElem_of_mem this
    exact ⟨j, h1, by rw [it_in h1, h2]⟩
theorem slim_iff {b : Int} {l : List Int} {y : List UInt8} {n num den : Nat} (hl : num < den) (hc : 0 < sall b l n) {q : Int} : slim b l y n num den q = true ↔ sbnd b l y n num den ≤ q := by
  constructor
  · intro h
    rcases Int.lt_or_le q (sbnd b l y n num den) with g | g
    · have h1 : slim b l y n num den (sbnd b l y n num den - 1) = true := inLim_mono _ _ _ _ (by omega) h
      have h2 : slim b l y n num den (sbnd b l y n num den - 1) = false := bnd_out _ _ _ _ hl hc
      rw [h1] at h2
      cases h2
    · exact g
  · intro h
    exact inLim_mono _ _ _ _ h (bnd_in _ _ _ _ _ _ _ : slim b l y n num den (sbnd b l y n num den) = true)
theorem names_small {P : Nat → Bool} {n : Nat} (hn : n ≤ 64) : (namesF P n).length ≤ 64 ∧ ∀ x ∈ namesF P n, 0 ≤ x ∧ x ≤ 64 := by
  refine ⟨Nat.le_trans (namesF_length _ _) hn, fun x hx => ?_⟩
  obtain ⟨u, hu, _, rfl⟩ := namesF_mem.1 hx
  omega
set_option maxHeartbeats 16000000 in
set_option maxRecDepth 100000 in
theorem codeTraces_walk0 (u b : Int) (A : Option Addr) (c : Nat) (l : List Int) (k : List UInt8) (Y : Option Addr) (d : Nat) (y : List UInt8) (X : Option Addr) (cx : Nat) (x : List Nat) (Z : Option Addr) (cz : Nat) (z : List Nat) (v : Int) (w0 : World) (h0 : IR w0 A c l) (hk : k.length = 16) (hy0 : BR w0 Y d y) (hx0 : NR w0 X cx x) (hz0 : NR w0 Z cz z) (hv1 : -9223372036854775808 ≤ v) (hv2 : v ≤ 9223372036854775807) :
    Calls Tryz.prog 17 #[.agg (scC u b A l.length c k).toArray, .slice Y y.length d, .agg #[.slice X x.length cx, .slice Z z.length cz], .int .i64 v] w0 fun e w' => e = .returned (.bool true) ∧ Below w0.heap.size w0 w' := by
  obtain ⟨n, hn⟩ : ∃ n, l.length = n := ⟨_, rfl⟩
  obtain ⟨ny, hyl⟩ : ∃ n, y.length = n := ⟨_, rfl⟩
  obtain ⟨lx, hlx⟩ : ∃ n, x.length = n := ⟨_, rfl⟩
  obtain ⟨lz, hlz⟩ : ∃ n, z.length = n := ⟨_, rfl⟩
  rw [hn, hyl, hlx, hlz]
  have hlen : (n : Int) ≤ 140737488351232 := by have := h0.len; omega
  obtain ⟨w, hW0⟩ : ∃ W : World, W = (w0.alloc (.cells (scC u b A n c k).toArray 46)).alloc (.cells #[.slice X lx cx, .slice Z lz cz] 27) := ⟨_, rfl⟩
  have b0 : Hid (Below w0.heap.size w0 w) := by unfold Hid; rw [hW0]; exact alloc2_bel _ _ _
  have HXS : Hid (∀ W, Below w.heap.size w W → Blk W w0.heap.size 46 (scC u b A n c k).toArray) := fun W hW => Blk.below' (by rw [hW0]; exact blk_b0 w0 _ _ _) hW
  have HXL : Hid (∀ W, Below w.heap.size w W → Blk W (w0.heap.size + 1) 27 #[.slice X lx cx, .slice Z lz cz]) := fun W hW => Blk.below' (by rw [hW0]; exact blk_b1 w0 _ _ _) hW
  have HW0 := Lib.hid hW0
  have HIN : Hid ((Tryz.prog.info? 46).map (·.size) = some (scC u b A n c k).toArray.size) := scC_info u b A n c k hk
  have h := h0.below b0.out
  have hy := hy0.below b0.out
  have K0 : Hid (Below w.heap.size w w) := Below.refl _ _
  have hx := hx0.below b0.out
  have hz := hz0.below b0.out
  have HTR : Hid (∀ W, Below w.heap.size w W → Calls Tryz.prog 33 #[.agg (scC u b A n c k).toArray, .slice Y ny d, .agg #[.slice X lx cx, .slice Z lz cz]] W fun e w' => IntsOwn W.heap.size (nmsC u b l k y x z) e w' ∧ Below W.heap.size W w') := fun W hW => TraceScores_own u b A c l k Y d y X cx x Z cz z W hn hyl hlx hlz (h.below hW) (hy.below hW) hk (hx.below hW) (hz.below hW)
  have HTR0 : Hid (∀ W, Below w.heap.size w W → Calls Tryz.prog 33 #[.agg (scC u b A n c k).toArray, .slice Y ny d, .agg #[.slice X lx cx, .slice Z lz cz]] W fun e w' => ∃ A1 c1, e = .returned (.tuple #[.slice A1 (nmsC u b l k y x z).1.length c1, .int .i64 (nmsC u b l k y x z).2]) ∧ Below W.heap.size W w') := fun W hW => (HTR.out W hW).mono fun e w' ⟨⟨A1, c1, he, _⟩, h2⟩ => ⟨A1, c1, he, h2⟩
  have HVS : Hid (∀ W, Below w.heap.size w W → Calls Tryz.prog 46 #[.agg (scC u b A n c k).toArray] W fun e w' => e = .returned (.bool (scoresB u b l)) ∧ Below W.heap.size W w') := fun W hW => refValidScores_any u b A c l k W hn (h.below hW)
  have HCP : Hid (∀ W, Below w.heap.size w W → Calls Tryz.prog 44 #[.slice Y ny d, .int .i64 (n : Int)] W fun e w' => e = .returned (.bool (copyB y n)) ∧ W = w') := fun W hW => refIsCopy_any Y d y n W hyl (hy.below hW) (by omega)
  have HLI : Hid (∀ W, Below w.heap.size w W → Calls Tryz.prog 56 #[.agg #[.slice X lx cx, .slice Z lz cz]] W fun e w' => e = .returned (.bool (limB x z)) ∧ Below W.heap.size W w') := fun W hW => refIsLimit_any X cx x Z cz z W hlx hlz (hx.below hW) (hz.below hW)
  cases hv : scoresB u b l
  · rw [hv] at HVS
    generalize nmsC u b l k y x z = ns at *
    obtain ⟨nsa, nsb⟩ := ns
    dsimp only at *
    generalize nsa.length = nsl at *
    clear hn hyl hlx hlz h hy hx hz h0 hy0 hx0 hz0 hk hW0 HTR
    go_enter Tryz.func17, Tryz.ntmps17
    go_wp2_with (rw [← HW0.out])
    refine (alive_any _).mono ?_
    rintro e w1 ⟨rfl, hb1⟩
    have K1 : Hid (Below w.heap.size w w1) := bel_on K0.out hb1
    clear hb1
    go_wp2_with (first | (refine wpList_load_row rfl 46 (.tmp 4) rfl w0.heap.size rfl 46 (scC u b A n c k).toArray (0, 0) _ (HXS.out _ K1.out) Tryz.underlying46 rfl HIN.out ?_) | (refine wpList_load_row rfl 27 (.tmp 6) rfl (w0.heap.size + 1) rfl 27 #[.slice X lx cx, .slice Z lz cz] (0, 0) _ (HXL.out _ K1.out) Tryz.underlying27 rfl (by kernel_rfl) ?_))
    refine (HTR0.out _ K1.out).mono ?_
    rintro e w2 ⟨A1, c1, rfl, hb2⟩
    have K2 : Hid (Below w.heap.size w w2) := bel_on K1.out hb2
    clear hb2
    go_wp2_with (refine wpList_load_row rfl 46 (.tmp 4) rfl w0.heap.size rfl 46 (scC u b A n c k).toArray (0, 0) _ (HXS.out _ K2.out) Tryz.underlying46 rfl HIN.out ?_)
    refine (HVS.out _ K2.out).mono ?_
    rintro e w3 ⟨rfl, hb3⟩
    have K3 : Hid (Below w.heap.size w w3) := bel_on K2.out hb3
    have c2 : w3.cell? ⟨w0.heap.size, 2, none⟩ = some (.slice A n c) := (HXS.out _ K3.out).cell 2
    clear hb3
    go_wp2_with fail
    go_ret
    exact ⟨by simp, bel_on b0.out K3.out⟩
  cases hc : copyB y n
  · rw [hv] at HVS
    rw [hc] at HCP
    generalize nmsC u b l k y x z = ns at *
    obtain ⟨nsa, nsb⟩ := ns
    dsimp only at *
    generalize nsa.length = nsl at *
    clear hn hyl hlx hlz h hy hx hz h0 hy0 hx0 hz0 hk hW0 HTR
    go_enter Tryz.func17, Tryz.ntmps17
    go_wp2_with (rw [← HW0.out])
    refine (alive_any _).mono ?_
    rintro e w1 ⟨rfl, hb1⟩
    have K1 : Hid (Below w.heap.size w w1) := bel_on K0.out hb1
    clear hb1
    go_wp2_with (first | (refine wpList_load_row rfl 46 (.tmp 4) rfl w0.heap.size rfl 46 (scC u b A n c k).toArray (0, 0) _ (HXS.out _ K1.out) Tryz.underlying46 rfl HIN.out ?_) | (refine wpList_load_row rfl 27 (.tmp 6) rfl (w0.heap.size + 1) rfl 27 #[.slice X lx cx, .slice Z lz cz] (0, 0) _ (HXL.out _ K1.out) Tryz.underlying27 rfl (by kernel_rfl) ?_))
    refine (HTR0.out _ K1.out).mono ?_
    rintro e w2 ⟨A1, c1, rfl, hb2⟩
    have K2 : Hid (Below w.heap.size w w2) := bel_on K1.out hb2
    clear hb2
    go_wp2_with (refine wpList_load_row rfl 46 (.tmp 4) rfl w0.heap.size rfl 46 (scC u b A n c k).toArray (0, 0) _ (HXS.out _ K2.out) Tryz.underlying46 rfl HIN.out ?_)
    refine (HVS.out _ K2.out).mono ?_
    rintro e w3 ⟨rfl, hb3⟩
    have K3 : Hid (Below w.heap.size w w3) := bel_on K2.out hb3
    have c2 : w3.cell? ⟨w0.heap.size, 2, none⟩ = some (.slice A n c) := (HXS.out _ K3.out).cell 2
    clear hb3
    go_wp2_with fail
    refine (HCP.out _ K3.out).mono ?_
    rintro e w4 ⟨rfl, rfl⟩
    clear c2
    go_wp2_with fail
    go_ret
    exact ⟨by simp, bel_on b0.out K3.out⟩
  cases hl : limB x z
  · rw [hv] at HVS
    rw [hc] at HCP
    rw [hl] at HLI
    generalize nmsC u b l k y x z = ns at *
    obtain ⟨nsa, nsb⟩ := ns
    dsimp only at *
    generalize nsa.length = nsl at *
    clear hn hyl hlx hlz h hy hx hz h0 hy0 hx0 hz0 hk hW0 HTR
    go_enter Tryz.func17, Tryz.ntmps17
    go_wp2_with (rw [← HW0.out])
    refine (alive_any _).mono ?_
    rintro e w1 ⟨rfl, hb1⟩
    have K1 : Hid (Below w.heap.size w w1) := bel_on K0.out hb1
    clear hb1
    go_wp2_with (first | (refine wpList_load_row rfl 46 (.tmp 4) rfl w0.heap.size rfl 46 (scC u b A n c k).toArray (0, 0) _ (HXS.out _ K1.out) Tryz.underlying46 rfl HIN.out ?_) | (refine wpList_load_row rfl 27 (.tmp 6) rfl (w0.heap.size + 1) rfl 27 #[.slice X lx cx, .slice Z lz cz] (0, 0) _ (HXL.out _ K1.out) Tryz.underlying27 rfl (by kernel_rfl) ?_))
    refine (HTR0.out _ K1.out).mono ?_
    rintro e w2 ⟨A1, c1, rfl, hb2⟩
    have K2 : Hid (Below w.heap.size w w2) := bel_on K1.out hb2
    clear hb2
    go_wp2_with (refine wpList_load_row rfl 46 (.tmp 4) rfl w0.heap.size rfl 46 (scC u b A n c k).toArray (0, 0) _ (HXS.out _ K2.out) Tryz.underlying46 rfl HIN.out ?_)
    refine (HVS.out _ K2.out).mono ?_
    rintro e w3 ⟨rfl, hb3⟩
    have K3 : Hid (Below w.heap.size w w3) := bel_on K2.out hb3
    have c2 : w3.cell? ⟨w0.heap.size, 2, none⟩ = some (.slice A n c) := (HXS.out _ K3.out).cell 2
    clear hb3
    go_wp2_with fail
    refine (HCP.out _ K3.out).mono ?_
    rintro e w4 ⟨rfl, rfl⟩
    clear c2
    have l0 := (HXL.out _ K3.out).cell 0
    have l1 := (HXL.out _ K3.out).cell 1
    go_wp2_with fail
    clear l0 l1
    refine (HLI.out _ K3.out).mono ?_
    rintro e w5 ⟨rfl, hb5⟩
    have K5 : Hid (Below w.heap.size w w5) := bel_on K3.out hb5
    clear hb5
    go_wp2_with fail
    go_ret
    exact ⟨by simp, bel_on b0.out K5.out⟩
  by_cases hvn : v < 0
  · rw [hv] at HVS
    rw [hc] at HCP
    rw [hl] at HLI
    generalize nmsC u b l k y x z = ns at *
    obtain ⟨nsa, nsb⟩ := ns
    dsimp only at *
    generalize nsa.length = nsl at *
    clear hn hyl hlx hlz h hy hx hz h0 hy0 hx0 hz0 hk hW0 HTR
    go_enter Tryz.func17, Tryz.ntmps17
    go_wp2_with (rw [← HW0.out])
    refine (alive_any _).mono ?_
    rintro e w1 ⟨rfl, hb1⟩
    have K1 : Hid (Below w.heap.size w w1) := bel_on K0.out hb1
    clear hb1
    go_wp2_with (first | (refine wpList_load_row rfl 46 (.tmp 4) rfl w0.heap.size rfl 46 (scC u b A n c k).toArray (0, 0) _ (HXS.out _ K1.out) Tryz.underlying46 rfl HIN.out ?_) | (refine wpList_load_row rfl 27 (.tmp 6) rfl (w0.heap.size + 1) rfl 27 #[.slice X lx cx, .slice Z lz cz] (0, 0) _ (HXL.out _ K1.out) Tryz.underlying27 rfl (by kernel_rfl) ?_))
    refine (HTR0.out _ K1.out).mono ?_
    rintro e w2 ⟨A1, c1, rfl, hb2⟩
    have K2 : Hid (Below w.heap.size w w2) := bel_on K1.out hb2
    clear hb2
    go_wp2_with (refine wpList_load_row rfl 46 (.tmp 4) rfl w0.heap.size rfl 46 (scC u b A n c k).toArray (0, 0) _ (HXS.out _ K2.out) Tryz.underlying46 rfl HIN.out ?_)
    refine (HVS.out _ K2.out).mono ?_
    rintro e w3 ⟨rfl, hb3⟩
    have K3 : Hid (Below w.heap.size w w3) := bel_on K2.out hb3
    have c2 : w3.cell? ⟨w0.heap.size, 2, none⟩ = some (.slice A n c) := (HXS.out _ K3.out).cell 2
    clear hb3
    go_wp2_with fail
    refine (HCP.out _ K3.out).mono ?_
    rintro e w4 ⟨rfl, rfl⟩
    clear c2
    have l0 := (HXL.out _ K3.out).cell 0
    have l1 := (HXL.out _ K3.out).cell 1
    go_wp2_with fail
    clear l0 l1
    refine (HLI.out _ K3.out).mono ?_
    rintro e w5 ⟨rfl, hb5⟩
    have K5 : Hid (Below w.heap.size w w5) := bel_on K3.out hb5
    clear hb5
    go_wp2_with fail
    go_ret
    exact ⟨by simp, bel_on b0.out K5.out⟩
  by_cases hvu : u ≤ v
  · rw [hv] at HVS
    rw [hc] at HCP
    rw [hl] at HLI
    have hv0 : ¬ (v < 0) := by omega
    generalize nmsC u b l k y x z = ns at *
    obtain ⟨nsa, nsb⟩ := ns
    dsimp only at *
    generalize nsa.length = nsl at *
    clear hn hyl hlx hlz h hy hx hz h0 hy0 hx0 hz0 hk hW0 HTR
    go_enter Tryz.func17, Tryz.ntmps17
    go_wp2_with (rw [← HW0.out])
    refine (alive_any _).mono ?_
    rintro e w1 ⟨rfl, hb1⟩
    have K1 : Hid (Below w.heap.size w w1) := bel_on K0.out hb1
    clear hb1
    go_wp2_with (first | (refine wpList_load_row rfl 46 (.tmp 4) rfl w0.heap.size rfl 46 (scC u b A n c k).toArray (0, 0) _ (HXS.out _ K1.out) Tryz.underlying46 rfl HIN.out ?_) | (refine wpList_load_row rfl 27 (.tmp 6) rfl (w0.heap.size + 1) rfl 27 #[.slice X lx cx, .slice Z lz cz] (0, 0) _ (HXL.out _ K1.out) Tryz.underlying27 rfl (by kernel_rfl) ?_))
    refine (HTR0.out _ K1.out).mono ?_
    rintro e w2 ⟨A1, c1, rfl, hb2⟩
    have K2 : Hid (Below w.heap.size w w2) := bel_on K1.out hb2
    clear hb2
    go_wp2_with (refine wpList_load_row rfl 46 (.tmp 4) rfl w0.heap.size rfl 46 (scC u b A n c k).toArray (0, 0) _ (HXS.out _ K2.out) Tryz.underlying46 rfl HIN.out ?_)
    refine (HVS.out _ K2.out).mono ?_
    rintro e w3 ⟨rfl, hb3⟩
    have K3 : Hid (Below w.heap.size w w3) := bel_on K2.out hb3
    have c2 : w3.cell? ⟨w0.heap.size, 2, none⟩ = some (.slice A n c) := (HXS.out _ K3.out).cell 2
    clear hb3
    go_wp2_with fail
    refine (HCP.out _ K3.out).mono ?_
    rintro e w4 ⟨rfl, rfl⟩
    clear c2
    have l0 := (HXL.out _ K3.out).cell 0
    have l1 := (HXL.out _ K3.out).cell 1
    go_wp2_with fail
    clear l0 l1
    refine (HLI.out _ K3.out).mono ?_
    rintro e w5 ⟨rfl, hb5⟩
    have K5 : Hid (Below w.heap.size w w5) := bel_on K3.out hb5
    have c0 : w5.cell? ⟨w0.heap.size, 0, none⟩ = some (.int .i64 u) := (HXS.out _ K5.out).cell 0
    clear hb5
    go_wp2_with fail
    go_ret
    exact ⟨by simp, bel_on b0.out K5.out⟩
  obtain ⟨V, rfl⟩ : ∃ V : Nat, v = (V : Int) := ⟨v.toNat, by omega⟩
  obtain ⟨⟨o1, o2, o3, o4, o5, o6⟩, o7⟩ := scoresB_parts hv
  obtain ⟨un, hun⟩ : ∃ un : Nat, u = (un : Int) := ⟨u.toNat, by omega⟩
  have hun64 : un ≤ 64 := by omega
  have hVu : V < un := by omega
  have he : ckSC u b l y = 0 := ckSC_ok hv (by rw [hn]; exact hc)
  obtain ⟨hyn, hcy⟩ := copyB_sym hc
  obtain rfl : ny = n := by omega
  obtain ⟨wd, hwd⟩ : ∃ wd, scoreWordS k b l (V : Int) = wd := ⟨_, rfl⟩
  have hwl : wd.length = ny := by rw [← hwd, scoreWordS_length, hn]
  have hwb : ∀ i, bt wd i ≤ 1 := fun i => by rw [← hwd]; exact scoreWordS_bit k b l V i
  have hww : wordB wd l.length = true := by unfold wordB; rw [hn, Bool.and_eq_true, decide_eq_true_eq]; exact ⟨hwl, symB_iff.2 fun i _ => hwb i⟩
  have hwc : copyB wd l.length = true := by unfold copyB; rw [hn, Bool.and_eq_true, decide_eq_true_eq]; exact ⟨hwl, symB_iff.2 fun i _ => Nat.le_trans (hwb i) (by omega)⟩
  have hew : ckSC u b l wd = 0 := ckSC_ok hv hwc
  obtain ⟨r1, r2, r3, r4⟩ := score_range (y := y) hv
  obtain ⟨-, -, -, -, hlt⟩ := limB_sm hl
  have eb1 : boundS u b l y x z = (sbnd b l y l.length (val x) (val z), 0) := by unfold boundS; rw [if_pos he, if_pos hl]
  have eb2 : boundS u b l wd x z = (sbnd b l wd l.length (val x) (val z), 0) := by unfold boundS; rw [if_pos hew, if_pos hl]
  have en1 : nmsC u b l k y x z = (namesF (namedS b l k y (sbnd b l y l.length (val x) (val z))) un, 0) := by unfold nmsC; rw [eb1, if_pos rfl, hun, Int.toNat_natCast]
  have en2 : nmsC u b l k wd x z = (namesF (namedS b l k wd (sbnd b l wd l.length (val x) (val z))) un, 0) := by unfold nmsC; rw [eb2, if_pos rfl, hun, Int.toNat_natCast]
  have HTR1 : Hid (∀ W, Below w.heap.size w W → Calls Tryz.prog 33 #[.agg (scC u b A ny c k).toArray, .slice Y ny d, .agg #[.slice X lx cx, .slice Z lz cz]] W fun e w' => ∃ A1 c1, e = .returned (.tuple #[.slice A1 (namesF (namedS b l k y (sbnd b l y l.length (val x) (val z))) un).length c1, .int .i64 0]) ∧ IR w' A1 c1 (namesF (namedS b l k y (sbnd b l y l.length (val x) (val z))) un) ∧ Below W.heap.size W w') := fun W hW => (TraceScores_own u b A c l k Y d y X cx x Z cz z W hn hyl hlx hlz (h.below hW) (hy.below hW) hk (hx.below hW) (hz.below hW)).mono fun e w' ⟨⟨A1, c1, he1, ho⟩, h2⟩ => by
      rw [en1] at he1 ho
      dsimp only at he1 ho
      exact ⟨A1, c1, he1, ho.ir (by have := names_small (P := namedS b l k y (sbnd b l y l.length (val x) (val z))) hun64; omega) (fun q hq => by have := (names_small hun64).2 q hq; omega), h2⟩
  have HTR2 : Hid (∀ W AV cV, Below w.heap.size w W → BR W AV cV wd → Calls Tryz.prog 33 #[.agg (scC u b A ny c k).toArray, .slice AV ny cV, .agg #[.slice X lx cx, .slice Z lz cz]] W fun e w' => ∃ A1 c1, e = .returned (.tuple #[.slice A1 (namesF (namedS b l k wd (sbnd b l wd l.length (val x) (val z))) un).length c1, .int .i64 0]) ∧ IR w' A1 c1 (namesF (namedS b l k wd (sbnd b l wd l.length (val x) (val z))) un) ∧ Below W.heap.size W w') := fun W AV cV hW hV => (TraceScores_own u b A c l k AV cV wd X cx x Z cz z W hn hwl hlx hlz (h.below hW) hV hk (hx.below hW) (hz.below hW)).mono fun e w' ⟨⟨A1, c1, he1, ho⟩, h2⟩ => by
      rw [en2] at he1 ho
      dsimp only at he1 ho
      exact ⟨A1, c1, he1, ho.ir (by have := names_small (P := namedS b l k wd (sbnd b l wd l.length (val x) (val z))) hun64; omega) (fun q hq => by have := (names_small hun64).2 q hq; omega), h2⟩
  have HBD : Hid (∀ W, Below w.heap.size w W → Calls Tryz.prog 31 #[.agg (scC u b A ny c k).toArray, .slice Y ny d, .agg #[.slice X lx cx, .slice Z lz cz]] W fun e w' => e = .returned (.tuple #[.int .i64 (sbnd b l y l.length (val x) (val z)), .int .i64 0]) ∧ Below W.heap.size W w') := fun W hW => by
    have := Bound_any u b A c l k Y d y X cx x Z cz z W hn hyl hlx hlz (h.below hW) (hy.below hW) hk (hx.below hW) (hz.below hW)
    rw [eb1] at this
    exact this
  have HSW : Hid (∀ W, Below w.heap.size w W → Calls Tryz.prog 63 #[.agg (scC u b A ny c k).toArray, .int .i64 (V : Int)] W fun e w' => ∃ A1 c1, e = .returned (.tuple #[.slice A1 ny c1, .int .i64 0]) ∧ BR w' A1 c1 wd ∧ Below W.heap.size W w') := fun W hW => (ScoreWord_any u b A c l k (V : Int) W hn (h.below hW) hk).mono fun e w' ⟨⟨A1, c1, he1, ho⟩, h2⟩ => by
    have e1 : swS u b l k (V : Int) = (wd, 0) := by unfold swS; rw [if_pos hv, if_pos ⟨by omega, by omega⟩, hwd]
    rw [e1] at he1 ho
    dsimp only at he1 ho
    rw [hwl] at he1
    exact ⟨A1, c1, he1, ho.br (by omega), h2⟩
  obtain ⟨sc, hsc⟩ : ∃ q, sumS b l wd y l.length = q := ⟨_, rfl⟩
  obtain ⟨tp, htp⟩ : ∃ q, sumS b l wd wd l.length = q := ⟨_, rfl⟩
  have HSC1 : Hid (∀ W AV cV, Below w.heap.size w W → BR W AV cV wd → Calls Tryz.prog 47 #[.agg (scC u b A ny c k).toArray, .slice AV ny cV, .slice Y ny d] W fun e w' => e = .returned (.tuple #[.int .i64 sc, .int .i64 0]) ∧ Below W.heap.size W w') := fun W AV cV hW hV => by
    have := Score_any u b A c l k AV cV wd Y d y W hn hwl hyl (h.below hW) hV (hy.below hW) hk
    rw [scS_yes hv hww (by rw [hn]; exact hc), hsc] at this
    exact this
  have HSC2 : Hid (∀ W AV cV, Below w.heap.size w W → BR W AV cV wd → Calls Tryz.prog 47 #[.agg (scC u b A ny c k).toArray, .slice AV ny cV, .slice AV ny cV] W fun e w' => e = .returned (.tuple #[.int .i64 tp, .int .i64 0]) ∧ Below W.heap.size W w') := fun W AV cV hW hV => by
    have := Score_any u b A c l k AV cV wd AV cV wd W hn hwl hwl (h.below hW) hV hV hk
    rw [scS_yes hv hww hwc, htp] at this
    exact this
  obtain ⟨m1, m2⟩ := bound_cmp hew hl tp
  rw [slim_iff hlt r4] at m2
  have HCH : Hid (∀ W AV cV, Below w.heap.size w W → BR W AV cV wd → Calls Tryz.prog 28 #[.agg (scC u b A ny c k).toArray, .slice AV ny cV, .int .i64 tp] W fun e w' => ∃ X x' Z z, e = .returned (.tuple #[.agg #[.slice X (lowS (srch b l wd l.length tp) (sall b l l.length)).1.length x', .slice Z (lowS (srch b l wd l.length tp) (sall b l l.length)).2.length z], .int .i64 0]) ∧ NR w' X x' (lowS (srch b l wd l.length tp) (sall b l l.length)).1 ∧ NR w' Z z (lowS (srch b l wd l.length tp) (sall b l l.length)).2 ∧ Below W.heap.size W w') := fun W AV cV hW hV => (Chance_any u b A c l k AV cV wd tp W hn hwl (h.below hW) hV hk).mono fun e w' hq => by
      rw [chance_ok hew] at hq
      exact frac2_open_ hq
  have HCM : Hid (∀ W A1 a1 B1 b1, Below w.heap.size w W → NR W A1 a1 (lowS (srch b l wd l.length tp) (sall b l l.length)).1 → NR W B1 b1 (lowS (srch b l wd l.length tp) (sall b l l.length)).2 → Calls Tryz.prog 54 #[.agg #[.slice A1 (lowS (srch b l wd l.length tp) (sall b l l.length)).1.length a1, .slice B1 (lowS (srch b l wd l.length tp) (sall b l l.length)).2.length b1], .agg #[.slice X lx cx, .slice Z lz cz]] W fun e w' => e = .returned (.tuple #[.int .i64 (cmpN (srch b l wd l.length tp * val z) (val x * sall b l l.length)), .int .i64 0]) ∧ Below W.heap.size W w') := fun W A1 a1 B1 b1 hW g1 g2 => (CompareFractions_any A1 a1 _ B1 b1 _ X cx x Z cz z W rfl rfl hlx hlz g1 g2 (hx.below hW) (hz.below hW)).mono fun e w' hq => by
      rw [m1] at hq
      exact hq
  obtain ⟨z2, hz2⟩ : ∃ q, (cmpN (srch b l wd l.length tp * val z) (val x * sall b l l.length)) = q := ⟨_, rfl⟩
  rw [hz2] at HCM m2
  obtain ⟨bd, hbd⟩ : ∃ q, sbnd b l y l.length (val x) (val z) = q := ⟨_, rfl⟩
  obtain ⟨be, hbe⟩ : ∃ q, sbnd b l wd l.length (val x) (val z) = q := ⟨_, rfl⟩
  rw [hbd] at HTR1 HBD
  rw [hbe] at HTR2 m2
  have HP1' : hasS (namesF (namedS b l k y bd) un) (V : Int) (namesF (namedS b l k y bd) un).length = decide (bd ≤ sc) := by rw [hasS_names hVu]; unfold namedS; rw [hwd, hsc]
  have HP2' : hasS (namesF (namedS b l k wd be) un) (V : Int) (namesF (namedS b l k wd be) un).length = decide (be ≤ tp) := by rw [hasS_names hVu]; unfold namedS; rw [hwd, htp]
  have HUP : Hid (∀ i, i + 1 < (namesF (namedS b l k y bd) un).length → it (namesF (namedS b l k y bd) un) i < it (namesF (namedS b l k y bd) un) (i + 1)) := fun i hi => namesF_up _ _ i hi
  have hs1 := (names_small (P := namedS b l k y bd) hun64).1
  have hs2 := (names_small (P := namedS b l k wd be) hun64).1
  generalize namesF (namedS b l k y bd) un = nm at *
  generalize namesF (namedS b l k wd be) un = no at *
  obtain ⟨nl, hnl⟩ : ∃ nl, nm.length = nl := ⟨_, rfl⟩
  obtain ⟨nk, hnk⟩ : ∃ nk, no.length = nk := ⟨_, rfl⟩
  rw [hnl] at HTR1 HP1' HUP hs1
  rw [hnk] at HTR2 HP2' hs2
  have HNL := Lib.hid hnl
  have HNK := Lib.hid hnk
  have HP1 := Lib.hid HP1'
  have HP2 := Lib.hid HP2'
  have HZ2 := Lib.hid m2
  have hnli : (nl : Int) ≤ 64 := by omega
  have hnki : (nk : Int) ≤ 64 := by omega
  have hv0 : ¬ ((V : Int) < 0) := by omega
  have hv3 : ¬ (u ≤ (V : Int)) := by omega
  rw [hv] at HVS
  rw [hc] at HCP
  rw [hl] at HLI
  generalize (lowS (srch b l wd l.length tp) (sall b l l.length)) = l1 at *
  obtain ⟨l1a, l1b⟩ := l1
  dsimp only at *
  generalize l1a.length = p1a at *
  generalize l1b.length = p1b at *
  clear HTR HTR0 m1 m2 HP1' HP2' hs1 hs2 hnl hnk hz2 hbd hbe en1 en2 eb1 eb2 hlt r1 r2 r3 r4 hew hwc hww hwb hwl hwd hsc htp he hyn hcy hVu hun64 hun o1 o2 o3 o4 o5 o6 o7 hvn hvu hv hc hl hn hyl hlx hlz h hy hx hz h0 hy0 hx0 hz0 hk hW0 hv1 hv2
  go_enter Tryz.func17, Tryz.ntmps17
  go_wp2_with (rw [← HW0.out])
  refine (alive_any _).mono ?_
  rintro e w1 ⟨rfl, hb1⟩
  have K1 : Hid (Below w.heap.size w w1) := bel_on K0.out hb1
  clear hb1
  go_wp2_with (first | (refine wpList_load_row rfl 46 (.tmp 4) rfl w0.heap.size rfl 46 (scC u b A ny c k).toArray (0, 0) _ (HXS.out _ K1.out) Tryz.underlying46 rfl HIN.out ?_) | (refine wpList_load_row rfl 27 (.tmp 6) rfl (w0.heap.size + 1) rfl 27 #[.slice X lx cx, .slice Z lz cz] (0, 0) _ (HXL.out _ K1.out) Tryz.underlying27 rfl (by kernel_rfl) ?_))
  refine (HTR1.out _ K1.out).mono ?_
  rintro e w2 ⟨A1, c1, rfl, hi2, hb2⟩
  have K2 : Hid (Below w.heap.size w w2) := bel_on K1.out hb2
  have I2 := Lib.hid hi2
  clear hb2 hi2
  go_wp2_with (refine wpList_load_row rfl 46 (.tmp 4) rfl w0.heap.size rfl 46 (scC u b A ny c k).toArray (0, 0) _ (HXS.out _ K2.out) Tryz.underlying46 rfl HIN.out ?_)
  refine (HVS.out _ K2.out).mono ?_
  rintro e w3 ⟨rfl, hb3⟩
  have K3 : Hid (Below w.heap.size w w3) := bel_on K2.out hb3
  have I3 := Lib.hid (I2.out.below hb3)
  have c2 : w3.cell? ⟨w0.heap.size, 2, none⟩ = some (.slice A ny c) := (HXS.out _ K3.out).cell 2
  clear hb3
  go_wp2_with fail
  refine (HCP.out _ K3.out).mono ?_
  rintro e w4 ⟨rfl, rfl⟩
  clear c2
  have l0 := (HXL.out _ K3.out).cell 0
  have l1 := (HXL.out _ K3.out).cell 1
  go_wp2_with fail
  clear l0 l1
  refine (HLI.out _ K3.out).mono ?_
  rintro e w5 ⟨rfl, hb5⟩
  have K5 : Hid (Below w.heap.size w w5) := bel_on K3.out hb5
  have I5 := Lib.hid (I3.out.below hb5)
  have c0 : w5.cell? ⟨w0.heap.size, 0, none⟩ = some (.int .i64 u) := (HXS.out _ K5.out).cell 0
  clear hb5
  go_wp2_with (first | (refine wpList_load_row rfl 46 (.tmp 4) rfl w0.heap.size rfl 46 (scC u b A ny c k).toArray (0, 0) _ (HXS.out _ K5.out) Tryz.underlying46 rfl HIN.out ?_) | (refine wpList_load_row rfl 27 (.tmp 6) rfl (w0.heap.size + 1) rfl 27 #[.slice X lx cx, .slice Z lz cz] (0, 0) _ (HXL.out _ K5.out) Tryz.underlying27 rfl (by kernel_rfl) ?_))
  refine (HBD.out _ K5.out).mono ?_
  rintro e w6 ⟨rfl, hb6⟩
  have K6 : Hid (Below w.heap.size w w6) := bel_on K5.out hb6
  have I6 := Lib.hid (I5.out.below hb6)
  clear hb6 c0
  go_wp2_with (refine wpList_load_row rfl 46 (.tmp 4) rfl w0.heap.size rfl 46 (scC u b A ny c k).toArray (0, 0) _ (HXS.out _ K6.out) Tryz.underlying46 rfl HIN.out ?_)
  refine (HSW.out _ K6.out).mono ?_
  rintro e w7 ⟨AW, cW, rfl, hv7, hb7⟩
  have K7 : Hid (Below w.heap.size w w7) := bel_on K6.out hb7
  have I7 := Lib.hid (I6.out.below hb7)
  have V7 := Lib.hid hv7
  clear hb7 hv7
  go_wp2_with (refine wpList_load_row rfl 46 (.tmp 4) rfl w0.heap.size rfl 46 (scC u b A ny c k).toArray (0, 0) _ (HXS.out _ K7.out) Tryz.underlying46 rfl HIN.out ?_)
  refine (HSC1.out _ _ _ K7.out V7.out).mono ?_
  rintro e w8 ⟨rfl, hb8⟩
  have K8 : Hid (Below w.heap.size w w8) := bel_on K7.out hb8
  have I8 := Lib.hid (I7.out.below hb8)
  have V8 := Lib.hid (V7.out.below hb8)
  clear hb8
  go_wp2_with fail
  go_loopw [18, 19] (fun vf vi wr => ∃ i : Nat, i ≤ nl ∧ vi = .int .i64 (i : Int) ∧ vf = .bool (hasS nm V i) ∧ Below w8.heap.size w8 wr) (fun _ vi _ => nl - (intOf vi).toNat)
  case atStart => exact ⟨0, by omega, rfl, rfl, Below.refl _ _⟩
  case round =>
    obtain ⟨i, hi, rfl, rfl, hbel⟩ := hrel
    by_cases hin : i < nl
    · have hii : (i : Int) < nl := by omega
      have hi0 : (0 : Int) ≤ i := by omega
      obtain ⟨p, o, rfl, -, g1⟩ := (I8.out.below hbel).at_ (i := i) (by rw [HNL.out]; exact hin)
      obtain ⟨Xi, hX⟩ : ∃ q, it nm i = q := ⟨_, rfl⟩
      obtain ⟨B, hB⟩ : ∃ B, hasS nm V i = B := ⟨_, rfl⟩
      have HX := Lib.hid hX
      have HB := Lib.hid hB
      rw [hX] at g1
      rw [hB]
      by_cases hip : i = 0
      · have hn0 : decide ((0 : Int) < (i : Int)) = false := by simp; omega
        have hn0' : decide (0 < i) = false := by simp; omega
        clear hin hX hB hip
        cases B
        · by_cases hXV : Xi = (V : Int)
          · have HS1 : Hid (hasS nm V (i + 1) = true) := by unfold Hid hasS; rw [HX.out, hXV]; simp
            subst hXV
            go_wp2_with fail
            go_quiet (fail)
            go_wp2_with fail
            go_roundw
            case rel => exact ⟨i + 1, by omega, by go_num, by rw [HS1.out], below_drewN hbel _⟩
            case measure => simp [intOf]; omega
          · have HS1 : Hid (hasS nm V (i + 1) = false) := by unfold Hid hasS; rw [HX.out, HB.out]; simp [hXV]
            have te1 : decide (Xi = (V : Int)) = false := by simp [hXV]
            have te2 : (Xi == (V : Int)) = false := by simp [hXV]
            go_wp2_with fail
            go_quiet (fail)
            go_wp2_with fail
            go_roundw
            case rel => exact ⟨i + 1, by omega, by go_num, by rw [HS1.out], below_drewN hbel _⟩
            case measure => simp [intOf]; omega
        · have HS1 : Hid (hasS nm V (i + 1) = true) := by unfold Hid hasS; rw [HB.out]; rfl
          go_wp2_with fail
          go_quiet (fail)
          go_wp2_with fail
          go_roundw
          case rel => exact ⟨i + 1, by omega, by go_num, by rw [HS1.out], below_drewN hbel _⟩
          case measure => simp [intOf]; omega
      · obtain ⟨j, rfl⟩ : ∃ j, i = j + 1 := ⟨i - 1, by omega⟩
        have hup := HUP.out j hin
        obtain ⟨p', o', e', -, g2⟩ := (I8.out.below hbel).at_ (i := j) (by rw [HNL.out]; omega)
        injection e' with e'
        injection e' with e1 e2
        subst e1 e2
        rw [hX] at hup
        obtain ⟨Zp, hZ⟩ : ∃ q, it nm j = q := ⟨_, rfl⟩
        rw [hZ] at g2 hup
        obtain ⟨i, hij⟩ : ∃ i, j + 1 = i := ⟨_, rfl⟩
        rw [hij] at g1 hii hi hin hi0 HX HB ⊢
        have hj0 : (0 : Int) ≤ j := by omega
        have hjn : (j : Int) < nl := by omega
        have ej : IntKind.i64.wrap ((i : Int) - 1) = (j : Int) := by rw [IntKind.wrap_i64]; omega
        have ej2 : (i : Int) - 1 = (j : Int) := by omega
        have hi1 : 1 ≤ i := by omega
        clear hin hX hB hZ hij
        cases B
        · by_cases hXV : Xi = (V : Int)
          · have HS1 : Hid (hasS nm V (i + 1) = true) := by unfold Hid hasS; rw [HX.out, hXV]; simp
            subst hXV
            have rn3 : decide ((V : Int) ≤ Zp) = false := by simp; omega
            have hn0 : decide ((0 : Int) < (i : Int)) = true := by simp; omega
            have hn0' : decide (0 < i) = true := by simp; omega
            go_wp2_with fail
            go_quiet (fail)
            clear ej2
            go_wp2_with fail
            go_roundw
            case rel => exact ⟨i + 1, by omega, by go_num, by rw [HS1.out], below_drewN hbel _⟩
            case measure => simp [intOf]; omega
          · have HS1 : Hid (hasS nm V (i + 1) = false) := by unfold Hid hasS; rw [HX.out, HB.out]; simp [hXV]
            have te1 : decide (Xi = (V : Int)) = false := by simp [hXV]
            have te2 : (Xi == (V : Int)) = false := by simp [hXV]
            have rn3 : decide (Xi ≤ Zp) = false := by simp; omega
            have hn0 : decide ((0 : Int) < (i : Int)) = true := by simp; omega
            have hn0' : decide (0 < i) = true := by simp; omega
            go_wp2_with fail
            go_quiet (fail)
            clear ej2
            go_wp2_with fail
            go_roundw
            case rel => exact ⟨i + 1, by omega, by go_num, by rw [HS1.out], below_drewN hbel _⟩
            case measure => simp [intOf]; omega
        · have HS1 : Hid (hasS nm V (i + 1) = true) := by unfold Hid hasS; rw [HB.out]; rfl
          have rn3 : decide (Xi ≤ Zp) = false := by simp; omega
          have hn0 : decide ((0 : Int) < (i : Int)) = true := by simp; omega
          have hn0' : decide (0 < i) = true := by simp; omega
          go_wp2_with fail
          go_quiet (fail)
          clear ej2
          go_wp2_with fail
          go_roundw
          case rel => exact ⟨i + 1, by omega, by go_num, by rw [HS1.out], below_drewN hbel _⟩
          case measure => simp [intOf]; omega
    · obtain rfl : i = nl := by omega
      have hx5 : ¬ ((i : Int) < (i : Int)) := by omega
      have K9x : Hid (Below w.heap.size w wr) := bel_on K8.out hbel
      have V9x := Lib.hid (V8.out.below hbel)
      rw [HP1.out]
      by_cases hle : bd ≤ sc
      · rw [decide_eq_true hle]
        go_wp2_with (first | (refine wpList_load_row rfl 46 (.tmp 4) rfl w0.heap.size rfl 46 (scC u b A ny c k).toArray (0, 0) _ (HXS.out _ K9x.out) Tryz.underlying46 rfl HIN.out ?_) | (refine wpList_load_row rfl 27 (.tmp 6) rfl (w0.heap.size + 1) rfl 27 #[.slice X lx cx, .slice Z lz cz] (0, 0) _ (HXL.out _ K9x.out) Tryz.underlying27 rfl (by kernel_rfl) ?_))
        refine (HTR2.out _ _ _ K9x.out V9x.out).mono ?_
        rintro e w9 ⟨A2, c2, rfl, hi9, hb9⟩
        have K9 : Hid (Below w.heap.size w w9) := bel_on K9x.out hb9
        have V9 := Lib.hid (V9x.out.below hb9)
        have I9 := Lib.hid hi9
        clear hb9 hi9
        go_wp2_with (refine wpList_load_row rfl 46 (.tmp 4) rfl w0.heap.size rfl 46 (scC u b A ny c k).toArray (0, 0) _ (HXS.out _ K9.out) Tryz.underlying46 rfl HIN.out ?_)
        refine (HSC2.out _ _ _ K9.out V9.out).mono ?_
        rintro e w10 ⟨rfl, hb10⟩
        have K10 : Hid (Below w.heap.size w w10) := bel_on K9.out hb10
        have I10 := Lib.hid (I9.out.below hb10)
        have V10 := Lib.hid (V9.out.below hb10)
        clear hb10
        go_wp2_with (refine wpList_load_row rfl 46 (.tmp 4) rfl w0.heap.size rfl 46 (scC u b A ny c k).toArray (0, 0) _ (HXS.out _ K10.out) Tryz.underlying46 rfl HIN.out ?_)
        refine (HCH.out _ _ _ K10.out V10.out).mono ?_
        rintro e w11 ⟨X11, x11, Z11, z11, rfl, gx11, gz11, hb11⟩
        obtain ⟨w11b, hw11⟩ : ∃ W, W = w11.alloc (.cells #[.slice X11 p1a x11, .slice Z11 p1b z11] 27) := ⟨_, rfl⟩
        have d11 : Below w11.heap.size w11 w11b := by rw [hw11]; exact alloc_bel _ _
        have hbb11 := bel_on hb11 d11
        have K11 : Hid (Below w.heap.size w w11b) := bel_on K10.out hbb11
        have T11 : Hid (Blk w11b w11.heap.size 27 #[.slice X11 p1a x11, .slice Z11 p1b z11]) := by unfold Hid; rw [hw11]; exact Blk.new _ _ _
        have GX11 := Lib.hid (gx11.below d11)
        have GZ11 := Lib.hid (gz11.below d11)
        have I11 := Lib.hid (I10.out.below hbb11)
        have V11 := Lib.hid (V10.out.below hbb11)
        have HW11 := Lib.hid hw11
        clear hw11 d11 hbb11 hb11 gx11 gz11
        have q0 := T11.out.cell 0
        have q1 := T11.out.cell 1
        go_wp2_with (first | (rw [← HW11.out]) | (refine wpList_load_row rfl 27 (.tmp 6) rfl (w0.heap.size + 1) rfl 27 #[.slice X lx cx, .slice Z lz cz] (0, 0) _ (HXL.out _ K11.out) Tryz.underlying27 rfl (by kernel_rfl) ?_))
        refine (HCM.out _ _ _ _ _ K11.out GX11.out GZ11.out).mono ?_
        rintro e w12 ⟨rfl, hb12⟩
        have K12 : Hid (Below w.heap.size w w12) := bel_on K11.out hb12
        have I12 := Lib.hid (I11.out.below hb12)
        clear hb12 q0 q1
        go_wp2_with fail
        go_loopw [24, 25] (fun vf vj wr => ∃ j : Nat, j ≤ nk ∧ vj = .int .i64 (j : Int) ∧ vf = .bool (hasS no V j) ∧ w12 = wr) (fun _ vj _ => nk - (intOf vj).toNat)
        case atStart => exact ⟨0, by omega, rfl, rfl, rfl⟩
        case round =>
          obtain ⟨j, hj, rfl, rfl, rfl⟩ := hrel
          by_cases hjn : j < nk
          · have hji : (j : Int) < nk := by omega
            have hj0 : (0 : Int) ≤ j := by omega
            obtain ⟨pp, oo, rfl, -, g1⟩ := I12.out.at_ (i := j) (by rw [HNK.out]; exact hjn)
            obtain ⟨Xi, hX⟩ : ∃ q, it no j = q := ⟨_, rfl⟩
            rw [hX] at g1
            have HX := Lib.hid hX
            obtain ⟨B, hB⟩ : ∃ B, hasS no V j = B := ⟨_, rfl⟩
            rw [hB]
            have HB := Lib.hid hB
            clear hX hB hjn
            cases B
            · by_cases hXV : Xi = (V : Int)
              · have HS1 : Hid (hasS no V (j + 1) = true) := by unfold Hid hasS; rw [HX.out, hXV]; simp
                subst hXV
                go_wp2_with fail
                go_roundw
                case rel => exact ⟨j + 1, by omega, by go_num, by rw [HS1.out], trivial⟩
                case measure => simp [intOf]; omega
              · have HS1 : Hid (hasS no V (j + 1) = false) := by unfold Hid hasS; rw [HX.out, HB.out]; simp [hXV]
                have te1 : decide (Xi = (V : Int)) = false := by simp [hXV]
                have te2 : (Xi == (V : Int)) = false := by simp [hXV]
                go_wp2_with fail
                go_roundw
                case rel => exact ⟨j + 1, by omega, by go_num, by rw [HS1.out], trivial⟩
                case measure => simp [intOf]; omega
            · have HS1 : Hid (hasS no V (j + 1) = true) := by unfold Hid hasS; rw [HB.out]; rfl
              go_wp2_with fail
              go_roundw
              case rel => exact ⟨j + 1, by omega, by go_num, by rw [HS1.out], trivial⟩
              case measure => simp [intOf]; omega
          · obtain rfl : j = nk := by omega
            have hx7 : ¬ ((j : Int) < (j : Int)) := by omega
            rw [HP2.out]
            by_cases hz2 : z2 ≤ 0
            · rw [decide_eq_true (HZ2.out.1 hz2)]
              go_wp2_with fail
              go_ret
              exact ⟨by simp, bel_on b0.out K12.out⟩
            · rw [decide_eq_false fun g => hz2 (HZ2.out.2 g)]
              go_wp2_with fail
              go_ret
              exact ⟨by simp, bel_on b0.out K12.out⟩
      · rw [decide_eq_false hle]
        go_wp2_with (first | (refine wpList_load_row rfl 46 (.tmp 4) rfl w0.heap.size rfl 46 (scC u b A ny c k).toArray (0, 0) _ (HXS.out _ K9x.out) Tryz.underlying46 rfl HIN.out ?_) | (refine wpList_load_row rfl 27 (.tmp 6) rfl (w0.heap.size + 1) rfl 27 #[.slice X lx cx, .slice Z lz cz] (0, 0) _ (HXL.out _ K9x.out) Tryz.underlying27 rfl (by kernel_rfl) ?_))
        refine (HTR2.out _ _ _ K9x.out V9x.out).mono ?_
        rintro e w9 ⟨A2, c2, rfl, hi9, hb9⟩
        have K9 : Hid (Below w.heap.size w w9) := bel_on K9x.out hb9
        have V9 := Lib.hid (V9x.out.below hb9)
        have I9 := Lib.hid hi9
        clear hb9 hi9
        go_wp2_with (refine wpList_load_row rfl 46 (.tmp 4) rfl w0.heap.size rfl 46 (scC u b A ny c k).toArray (0, 0) _ (HXS.out _ K9.out) Tryz.underlying46 rfl HIN.out ?_)
        refine (HSC2.out _ _ _ K9.out V9.out).mono ?_
        rintro e w10 ⟨rfl, hb10⟩
        have K10 : Hid (Below w.heap.size w w10) := bel_on K9.out hb10
        have I10 := Lib.hid (I9.out.below hb10)
        have V10 := Lib.hid (V9.out.below hb10)
        clear hb10
        go_wp2_with (refine wpList_load_row rfl 46 (.tmp 4) rfl w0.heap.size rfl 46 (scC u b A ny c k).toArray (0, 0) _ (HXS.out _ K10.out) Tryz.underlying46 rfl HIN.out ?_)
        refine (HCH.out _ _ _ K10.out V10.out).mono ?_
        rintro e w11 ⟨X11, x11, Z11, z11, rfl, gx11, gz11, hb11⟩
        obtain ⟨w11b, hw11⟩ : ∃ W, W = w11.alloc (.cells #[.slice X11 p1a x11, .slice Z11 p1b z11] 27) := ⟨_, rfl⟩
        have d11 : Below w11.heap.size w11 w11b := by rw [hw11]; exact alloc_bel _ _
        have hbb11 := bel_on hb11 d11
        have K11 : Hid (Below w.heap.size w w11b) := bel_on K10.out hbb11
        have T11 : Hid (Blk w11b w11.heap.size 27 #[.slice X11 p1a x11, .slice Z11 p1b z11]) := by unfold Hid; rw [hw11]; exact Blk.new _ _ _
        have GX11 := Lib.hid (gx11.below d11)
        have GZ11 := Lib.hid (gz11.below d11)
        have I11 := Lib.hid (I10.out.below hbb11)
        have V11 := Lib.hid (V10.out.below hbb11)
        have HW11 := Lib.hid hw11
        clear hw11 d11 hbb11 hb11 gx11 gz11
        have q0 := T11.out.cell 0
        have q1 := T11.out.cell 1
        go_wp2_with (first | (rw [← HW11.out]) | (refine wpList_load_row rfl 27 (.tmp 6) rfl (w0.heap.size + 1) rfl 27 #[.slice X lx cx, .slice Z lz cz] (0, 0) _ (HXL.out _ K11.out) Tryz.underlying27 rfl (by kernel_rfl) ?_))
        refine (HCM.out _ _ _ _ _ K11.out GX11.out GZ11.out).mono ?_
        rintro e w12 ⟨rfl, hb12⟩
        have K12 : Hid (Below w.heap.size w w12) := bel_on K11.out hb12
        have I12 := Lib.hid (I11.out.below hb12)
        clear hb12 q0 q1
        go_wp2_with fail
        go_loopw [24, 25] (fun vf vj wr => ∃ j : Nat, j ≤ nk ∧ vj = .int .i64 (j : Int) ∧ vf = .bool (hasS no V j) ∧ w12 = wr) (fun _ vj _ => nk - (intOf vj).toNat)
        case atStart => exact ⟨0, by omega, rfl, rfl, rfl⟩
        case round =>
          obtain ⟨j, hj, rfl, rfl, rfl⟩ := hrel
          by_cases hjn : j < nk
          · have hji : (j : Int) < nk := by omega
            have hj0 : (0 : Int) ≤ j := by omega
            obtain ⟨pp, oo, rfl, -, g1⟩ := I12.out.at_ (i := j) (by rw [HNK.out]; exact hjn)
            obtain ⟨Xi, hX⟩ : ∃ q, it no j = q := ⟨_, rfl⟩
            rw [hX] at g1
            have HX := Lib.hid hX
            obtain ⟨B, hB⟩ : ∃ B, hasS no V j = B := ⟨_, rfl⟩
            rw [hB]
            have HB := Lib.hid hB
            clear hX hB hjn
            cases B
            · by_cases hXV : Xi = (V : Int)
              · have HS1 : Hid (hasS no V (j + 1) = true) := by unfold Hid hasS; rw [HX.out, hXV]; simp
                subst hXV
                go_wp2_with fail
                go_roundw
                case rel => exact ⟨j + 1, by omega, by go_num, by rw [HS1.out], trivial⟩
                case measure => simp [intOf]; omega
              · have HS1 : Hid (hasS no V (j + 1) = false) := by unfold Hid hasS; rw [HX.out, HB.out]; simp [hXV]
                have te1 : decide (Xi = (V : Int)) = false := by simp [hXV]
                have te2 : (Xi == (V : Int)) = false := by simp [hXV]
                go_wp2_with fail
                go_roundw
                case rel => exact ⟨j + 1, by omega, by go_num, by rw [HS1.out], trivial⟩
                case measure => simp [intOf]; omega
            · have HS1 : Hid (hasS no V (j + 1) = true) := by unfold Hid hasS; rw [HB.out]; rfl
              go_wp2_with fail
              go_roundw
              case rel => exact ⟨j + 1, by omega, by go_num, by rw [HS1.out], trivial⟩
              case measure => simp [intOf]; omega
          · obtain rfl : j = nk := by omega
            have hx7 : ¬ ((j : Int) < (j : Int)) := by omega
            rw [HP2.out]
            by_cases hz2 : z2 ≤ 0
            · rw [decide_eq_true (HZ2.out.1 hz2)]
              go_wp2_with fail
              go_ret
              exact ⟨by simp, bel_on b0.out K12.out⟩
            · rw [decide_eq_false fun g => hz2 (HZ2.out.2 g)]
              go_wp2_with fail
              go_ret
              exact ⟨by simp, bel_on b0.out K12.out⟩
theorem codeTraces_walk (u b : Int) (A : Option Addr) (c : Nat) (l : List Int) (k : List UInt8) (Y : Option Addr) (d : Nat) (y : List UInt8) (X : Option Addr) (cx : Nat) (x : List Nat) (Z : Option Addr) (cz : Nat) (z : List Nat) (v : Int) (w : World) (h : IR w A c l) (hk : k.length = 16) (hy : BR w Y d y) (hx : NR w X cx x) (hz : NR w Z cz z) (h1 : -9223372036854775808 ≤ v) (h2 : v ≤ 9223372036854775807) :
    Calls Tryz.prog 17 #[.agg (scC u b A l.length c k).toArray, .slice Y y.length d, .agg #[.slice X x.length cx, .slice Z z.length cz], .int .i64 v] w fun e w' => e = .returned (.bool true) ∧ Below w.heap.size w w' := codeTraces_walk0 u b A c l k Y d y X cx x Z cz z v w h hk hy hx hz h1 h2
end Go.Proofs.YtenpkmgbaajeeaaGreat
